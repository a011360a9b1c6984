/-
  Put together by program (shake.py): ShapeA, ShapeB, ShapeC, ShapeK, ShapeD, ShapeE.
-/
import Derived.Test.YtgaajcbklkchjaaGreatDoorMtC
import Derived.Test.YtgaajcbklkchjaaGreatDoorMtB
set_option maxRecDepth 100000
set_option maxHeartbeats 25600000
set_option linter.unusedVariables false
set_option linter.unusedSimpArgs false
open Go.Lib (hid)
open Go.Proofs.Tryz
namespace Go.Proofs.YtgaajcbklkchjaaGreatDoor
open Go.RowKit
def valueK (k : Int) : Bool := inB k 1 11
def stepK (k : Int) : Bool := inB k 12 17
def memberK (k : Int) : Bool := k == 12 || k == 20 || k == 19
def stmtK (k : Int) : Bool := stepK k || k == 19
def topK (k : Int) : Bool := memberK k || k == 21
def isK (j k : Int) : Bool := k == j
theorem inRange_is {a b c : Int} {v : Bool} (h : inB a b c = v) (w : World) : Calls prog 59 #[.int .i64 a, .int .i64 b, .int .i64 c] w fun e w' => e = .returned (.bool v) ∧ w = w' := by rw [← h]; exact inRange_b a b c w
def AllL (p : Int → Bool) (l : List Int) (k : Nat) : Prop := (l.take k).all p = true
section
variable {p : Int → Bool} {l : List Int} {k : Nat} {x : Int}
theorem allL_zero (p : Int → Bool) (l : List Int) : AllL p l 0 := by simp [AllL]
theorem allL_step (h : AllL p l k) (hx : l[k]? = some x) (hp : p x = true) : AllL p l (k + 1) := by
 unfold AllL at h ⊢
 rw [List.take_add_one, hx, List.all_append, h]; simp [hp]
theorem allL_no (hx : l[k]? = some x) (hp : p x = false) : l.all p = false := by
 rw [List.all_eq_false]
 exact ⟨x, List.mem_of_getElem? hx, by simp [hp]⟩
theorem allL_all (h : AllL p l k) (hk : l.length ≤ k) : l.all p = true := by
 unfold AllL at h; rwa [List.take_of_length_le hk] at h
end
theorem isValue_any (k : Int) (w : World) : Calls prog 146 #[.int .i64 k] w fun e w' => e = .returned (.bool (valueK k)) ∧ w = w' := by
 have H1 := hid (fun W => inRange_b k 1 11 W)
 unfold valueK
 generalize inB k 1 11 = u at H1 ⊢
 go_enter func146, ntmps146
 go_wp2_with (go_at_call 59; refine (H1.out _).mono ?_; rintro e w1 ⟨rfl, rfl⟩)
 go_ret
 exact ⟨rfl, rfl⟩
theorem isStep_any (k : Int) (w : World) : Calls prog 177 #[.int .i64 k] w fun e w' => e = .returned (.bool (stepK k)) ∧ w = w' := by
 have H1 := hid (fun W => inRange_b k 12 17 W)
 unfold stepK
 generalize inB k 12 17 = u at H1 ⊢
 go_enter func177, ntmps177
 go_wp2_with (go_at_call 59; refine (H1.out _).mono ?_; rintro e w1 ⟨rfl, rfl⟩)
 go_ret
 exact ⟨rfl, rfl⟩
theorem specValue_any (k : Int) (w : World) : Calls prog 243 #[.int .i64 k] w fun e w' => e = .returned (.bool (valueK k)) ∧ w = w' := by
 have H1 := hid (fun W => l01In_b k 1 11 W)
 unfold valueK
 generalize inB k 1 11 = u at H1 ⊢
 go_enter func243, ntmps243
 go_wp2_with (go_at_call 97; refine (H1.out _).mono ?_; rintro e w1 ⟨rfl, rfl⟩)
 go_ret
 exact ⟨rfl, rfl⟩
theorem isMember_any (k : Int) (w : World) : Calls prog 178 #[.int .i64 k] w fun e w' => e = .returned (.bool (memberK k)) ∧ w = w' := by
 cases h1 : (k == 12) with
 | true =>
  have hr : memberK k = true := by unfold memberK; rw [h1]; rfl
  rw [hr]; clear hr
  go_enter func178, ntmps178
  go_wp2
  go_ret
  exact ⟨rfl, rfl⟩
 | false =>
  cases h2 : (k == 20) with
  | true =>
   have hr : memberK k = true := by unfold memberK; rw [h1, h2]; rfl
   rw [hr]; clear hr
   go_enter func178, ntmps178
   go_wp2
   go_ret
   exact ⟨rfl, rfl⟩
  | false =>
   have hr : memberK k = (k == 19) := by unfold memberK; rw [h1, h2]; rfl
   rw [hr]; clear hr
   go_enter func178, ntmps178
   go_wp2
   go_ret
   exact ⟨rfl, rfl⟩
theorem isBlock_any (k : Int) (w : World) : Calls prog 216 #[.int .i64 k] w fun e w' => e = .returned (.bool (isK 18 k)) ∧ w = w' := by
 go_enter func216, ntmps216
 go_wp2
 go_ret
 refine ⟨ret_bool ?_, rfl⟩
 rfl
theorem isCall_any (k : Int) (w : World) : Calls prog 215 #[.int .i64 k] w fun e w' => e = .returned (.bool (isK 5 k)) ∧ w = w' := by
 go_enter func215, ntmps215
 go_wp2
 go_ret
 refine ⟨ret_bool ?_, rfl⟩
 rfl
theorem isNameK_any (k : Int) (w : World) : Calls prog 245 #[.int .i64 k] w fun e w' => e = .returned (.bool (isK 1 k)) ∧ w = w' := by
 go_enter func245, ntmps245
 go_wp2
 go_ret
 refine ⟨ret_bool ?_, rfl⟩
 rfl
theorem isStmt_any (k : Int) (w : World) : Calls prog 217 #[.int .i64 k] w fun e w' => e = .returned (.bool (stmtK k)) ∧ w = w' := by
 have H1 := hid (fun (b : Bool) (hb : stepK k = b) (W : World) => show Calls prog 177 #[.int .i64 k] W fun e w' => e = .returned (.bool b) ∧ W = w' by rw [← hb]; exact isStep_any k W)
 cases hb : stepK k with
 | true =>
  have H2 := hid (H1.out _ hb)
  have hr : stmtK k = true := by unfold stmtK; first | (rw [hb]; rfl) | (unfold stepK; rw [hb]; rfl)
  rw [hr]
  clear H1 hb hr
  go_enter func217, ntmps217
  go_wp2_with (go_at_call 177; refine (H2.out _).mono ?_; rintro e w1 ⟨rfl, rfl⟩)
  go_ret
  exact ⟨rfl, rfl⟩
 | false =>
  have H2 := hid (H1.out _ hb)
  have hr : stmtK k = (k == 19) := by unfold stmtK; first | (rw [hb]; rfl) | (unfold stepK; rw [hb]; rfl)
  rw [hr]
  clear H1 hb hr
  go_enter func217, ntmps217
  go_wp2_with (go_at_call 177; refine (H2.out _).mono ?_; rintro e w1 ⟨rfl, rfl⟩)
  go_ret
  exact ⟨rfl, rfl⟩
theorem isTop_any (k : Int) (w : World) : Calls prog 218 #[.int .i64 k] w fun e w' => e = .returned (.bool (topK k)) ∧ w = w' := by
 have H1 := hid (fun (b : Bool) (hb : memberK k = b) (W : World) => show Calls prog 178 #[.int .i64 k] W fun e w' => e = .returned (.bool b) ∧ W = w' by rw [← hb]; exact isMember_any k W)
 cases hb : memberK k with
 | true =>
  have H2 := hid (H1.out _ hb)
  have hr : topK k = true := by unfold topK; first | (rw [hb]; rfl) | (unfold stepK; rw [hb]; rfl)
  rw [hr]
  clear H1 hb hr
  go_enter func218, ntmps218
  go_wp2_with (go_at_call 178; refine (H2.out _).mono ?_; rintro e w1 ⟨rfl, rfl⟩)
  go_ret
  exact ⟨rfl, rfl⟩
 | false =>
  have H2 := hid (H1.out _ hb)
  have hr : topK k = (k == 21) := by unfold topK; first | (rw [hb]; rfl) | (unfold stepK; rw [hb]; rfl)
  rw [hr]
  clear H1 hb hr
  go_enter func218, ntmps218
  go_wp2_with (go_at_call 178; refine (H2.out _).mono ?_; rintro e w1 ⟨rfl, rfl⟩)
  go_ret
  exact ⟨rfl, rfl⟩
theorem specStmt_any (k : Int) (w : World) : Calls prog 208 #[.int .i64 k] w fun e w' => e = .returned (.bool (stmtK k)) ∧ w = w' := by
 have H1 := hid (fun (b : Bool) (hb : inB k 12 17 = b) (W : World) => show Calls prog 97 #[.int .i64 k, .int .i64 12, .int .i64 17] W fun e w' => e = .returned (.bool b) ∧ W = w' by rw [← hb]; exact l01In_b k 12 17 W)
 cases hb : inB k 12 17 with
 | true =>
  have H2 := hid (H1.out _ hb)
  have hr : stmtK k = true := by unfold stmtK; first | (rw [hb]; rfl) | (unfold stepK; rw [hb]; rfl)
  rw [hr]
  clear H1 hb hr
  go_enter func208, ntmps208
  go_wp2_with (go_at_call 97; refine (H2.out _).mono ?_; rintro e w1 ⟨rfl, rfl⟩)
  go_ret
  exact ⟨rfl, rfl⟩
 | false =>
  have H2 := hid (H1.out _ hb)
  have hr : stmtK k = (k == 19) := by unfold stmtK; first | (rw [hb]; rfl) | (unfold stepK; rw [hb]; rfl)
  rw [hr]
  clear H1 hb hr
  go_enter func208, ntmps208
  go_wp2_with (go_at_call 97; refine (H2.out _).mono ?_; rintro e w1 ⟨rfl, rfl⟩)
  go_ret
  exact ⟨rfl, rfl⟩
theorem all_value (A : Option Addr) (n c : Nat) (l : List Int) (w : World) (hn : n ≤ 4194304) (hl : Hid (l.length = n)) (hr : Rd w 1 A n (intCells l)) :
  Calls prog 213 #[.slice A n c, .func (.func 146) #[] #[]] w fun e w' => e = .returned (.bool (l.all (valueK))) ∧ Below w.heap.size w w' := by
 apply still_below
 have HR := hid hr
 clear hr
 go_enter func213, ntmps213
 go_wp2
 go_loop [9] (fun i => ∃ k : Nat, k ≤ n ∧ AllL (valueK) l k ∧ i = .int .i64 k) (fun i => n - (intOf i).toNat)
 case atStart => exact ⟨0, Nat.zero_le _, allL_zero _ l, rfl⟩
 case round =>
  obtain ⟨k, hk, ha, rfl⟩ := hrel
  by_cases hkn : k < n
  ·obtain ⟨x, hd⟩ : ∃ d, l[k]? = some d := ⟨_, gE (by have := hl.out; omega)⟩
   obtain ⟨b, off, rfl, hblt, c0⟩ := int_at HR.out hkn hd
   have HC := hid (fun (v : Bool) (hb : valueK x = v) (W : World) => show Calls prog 146 #[.int .i64 x] W fun e w' => e = .returned (.bool v) ∧ W = w' by rw [← hb]; exact isValue_any _ W)
   cases hp : valueK x with
   | false =>
    have hno := hid (allL_no hd hp)
    have HC2 := hid (HC.out _ hp)
    clear HC hp hd ha
    go_wp2_with (go_at_call 146; refine (HC2.out _).mono ?_; rintro e w1 ⟨rfl, rfl⟩)
    go_ret
    exact ⟨ret_bool hno.out.symm, rfl⟩
   | true =>
    have hn2 := allL_step ha hd hp
    have HC2 := hid (HC.out _ hp)
    clear HC hp hd ha
    go_wp2_with (go_at_call 146; refine (HC2.out _).mono ?_; rintro e w1 ⟨rfl, rfl⟩)
    go_round
    case rel => exact ⟨k + 1, by omega, hn2, by go_num⟩
    case measure => simp [intOf]; omega
  ·have hno := hid (allL_all ha (by have := hl.out; omega))
   clear ha
   go_wp2
   go_ret
   exact ⟨ret_bool hno.out.symm, rfl⟩
theorem all_call (A : Option Addr) (n c : Nat) (l : List Int) (w : World) (hn : n ≤ 4194304) (hl : Hid (l.length = n)) (hr : Rd w 1 A n (intCells l)) :
  Calls prog 213 #[.slice A n c, .func (.func 215) #[] #[]] w fun e w' => e = .returned (.bool (l.all (isK 5))) ∧ Below w.heap.size w w' := by
 apply still_below
 have HR := hid hr
 clear hr
 go_enter func213, ntmps213
 go_wp2
 go_loop [9] (fun i => ∃ k : Nat, k ≤ n ∧ AllL (isK 5) l k ∧ i = .int .i64 k) (fun i => n - (intOf i).toNat)
 case atStart => exact ⟨0, Nat.zero_le _, allL_zero _ l, rfl⟩
 case round =>
  obtain ⟨k, hk, ha, rfl⟩ := hrel
  by_cases hkn : k < n
  ·obtain ⟨x, hd⟩ : ∃ d, l[k]? = some d := ⟨_, gE (by have := hl.out; omega)⟩
   obtain ⟨b, off, rfl, hblt, c0⟩ := int_at HR.out hkn hd
   have HC := hid (fun (v : Bool) (hb : isK 5 x = v) (W : World) => show Calls prog 215 #[.int .i64 x] W fun e w' => e = .returned (.bool v) ∧ W = w' by rw [← hb]; exact isCall_any _ W)
   cases hp : isK 5 x with
   | false =>
    have hno := hid (allL_no hd hp)
    have HC2 := hid (HC.out _ hp)
    clear HC hp hd ha
    go_wp2_with (go_at_call 215; refine (HC2.out _).mono ?_; rintro e w1 ⟨rfl, rfl⟩)
    go_ret
    exact ⟨ret_bool hno.out.symm, rfl⟩
   | true =>
    have hn2 := allL_step ha hd hp
    have HC2 := hid (HC.out _ hp)
    clear HC hp hd ha
    go_wp2_with (go_at_call 215; refine (HC2.out _).mono ?_; rintro e w1 ⟨rfl, rfl⟩)
    go_round
    case rel => exact ⟨k + 1, by omega, hn2, by go_num⟩
    case measure => simp [intOf]; omega
  ·have hno := hid (allL_all ha (by have := hl.out; omega))
   clear ha
   go_wp2
   go_ret
   exact ⟨ret_bool hno.out.symm, rfl⟩
theorem all_block (A : Option Addr) (n c : Nat) (l : List Int) (w : World) (hn : n ≤ 4194304) (hl : Hid (l.length = n)) (hr : Rd w 1 A n (intCells l)) :
  Calls prog 213 #[.slice A n c, .func (.func 216) #[] #[]] w fun e w' => e = .returned (.bool (l.all (isK 18))) ∧ Below w.heap.size w w' := by
 apply still_below
 have HR := hid hr
 clear hr
 go_enter func213, ntmps213
 go_wp2
 go_loop [9] (fun i => ∃ k : Nat, k ≤ n ∧ AllL (isK 18) l k ∧ i = .int .i64 k) (fun i => n - (intOf i).toNat)
 case atStart => exact ⟨0, Nat.zero_le _, allL_zero _ l, rfl⟩
 case round =>
  obtain ⟨k, hk, ha, rfl⟩ := hrel
  by_cases hkn : k < n
  ·obtain ⟨x, hd⟩ : ∃ d, l[k]? = some d := ⟨_, gE (by have := hl.out; omega)⟩
   obtain ⟨b, off, rfl, hblt, c0⟩ := int_at HR.out hkn hd
   have HC := hid (fun (v : Bool) (hb : isK 18 x = v) (W : World) => show Calls prog 216 #[.int .i64 x] W fun e w' => e = .returned (.bool v) ∧ W = w' by rw [← hb]; exact isBlock_any _ W)
   cases hp : isK 18 x with
   | false =>
    have hno := hid (allL_no hd hp)
    have HC2 := hid (HC.out _ hp)
    clear HC hp hd ha
    go_wp2_with (go_at_call 216; refine (HC2.out _).mono ?_; rintro e w1 ⟨rfl, rfl⟩)
    go_ret
    exact ⟨ret_bool hno.out.symm, rfl⟩
   | true =>
    have hn2 := allL_step ha hd hp
    have HC2 := hid (HC.out _ hp)
    clear HC hp hd ha
    go_wp2_with (go_at_call 216; refine (HC2.out _).mono ?_; rintro e w1 ⟨rfl, rfl⟩)
    go_round
    case rel => exact ⟨k + 1, by omega, hn2, by go_num⟩
    case measure => simp [intOf]; omega
  ·have hno := hid (allL_all ha (by have := hl.out; omega))
   clear ha
   go_wp2
   go_ret
   exact ⟨ret_bool hno.out.symm, rfl⟩
theorem all_stmt (A : Option Addr) (n c : Nat) (l : List Int) (w : World) (hn : n ≤ 4194304) (hl : Hid (l.length = n)) (hr : Rd w 1 A n (intCells l)) :
  Calls prog 213 #[.slice A n c, .func (.func 217) #[] #[]] w fun e w' => e = .returned (.bool (l.all (stmtK))) ∧ Below w.heap.size w w' := by
 apply still_below
 have HR := hid hr
 clear hr
 go_enter func213, ntmps213
 go_wp2
 go_loop [9] (fun i => ∃ k : Nat, k ≤ n ∧ AllL (stmtK) l k ∧ i = .int .i64 k) (fun i => n - (intOf i).toNat)
 case atStart => exact ⟨0, Nat.zero_le _, allL_zero _ l, rfl⟩
 case round =>
  obtain ⟨k, hk, ha, rfl⟩ := hrel
  by_cases hkn : k < n
  ·obtain ⟨x, hd⟩ : ∃ d, l[k]? = some d := ⟨_, gE (by have := hl.out; omega)⟩
   obtain ⟨b, off, rfl, hblt, c0⟩ := int_at HR.out hkn hd
   have HC := hid (fun (v : Bool) (hb : stmtK x = v) (W : World) => show Calls prog 217 #[.int .i64 x] W fun e w' => e = .returned (.bool v) ∧ W = w' by rw [← hb]; exact isStmt_any _ W)
   cases hp : stmtK x with
   | false =>
    have hno := hid (allL_no hd hp)
    have HC2 := hid (HC.out _ hp)
    clear HC hp hd ha
    go_wp2_with (go_at_call 217; refine (HC2.out _).mono ?_; rintro e w1 ⟨rfl, rfl⟩)
    go_ret
    exact ⟨ret_bool hno.out.symm, rfl⟩
   | true =>
    have hn2 := allL_step ha hd hp
    have HC2 := hid (HC.out _ hp)
    clear HC hp hd ha
    go_wp2_with (go_at_call 217; refine (HC2.out _).mono ?_; rintro e w1 ⟨rfl, rfl⟩)
    go_round
    case rel => exact ⟨k + 1, by omega, hn2, by go_num⟩
    case measure => simp [intOf]; omega
  ·have hno := hid (allL_all ha (by have := hl.out; omega))
   clear ha
   go_wp2
   go_ret
   exact ⟨ret_bool hno.out.symm, rfl⟩
theorem all_member (A : Option Addr) (n c : Nat) (l : List Int) (w : World) (hn : n ≤ 4194304) (hl : Hid (l.length = n)) (hr : Rd w 1 A n (intCells l)) :
  Calls prog 213 #[.slice A n c, .func (.func 178) #[] #[]] w fun e w' => e = .returned (.bool (l.all (memberK))) ∧ Below w.heap.size w w' := by
 apply still_below
 have HR := hid hr
 clear hr
 go_enter func213, ntmps213
 go_wp2
 go_loop [9] (fun i => ∃ k : Nat, k ≤ n ∧ AllL (memberK) l k ∧ i = .int .i64 k) (fun i => n - (intOf i).toNat)
 case atStart => exact ⟨0, Nat.zero_le _, allL_zero _ l, rfl⟩
 case round =>
  obtain ⟨k, hk, ha, rfl⟩ := hrel
  by_cases hkn : k < n
  ·obtain ⟨x, hd⟩ : ∃ d, l[k]? = some d := ⟨_, gE (by have := hl.out; omega)⟩
   obtain ⟨b, off, rfl, hblt, c0⟩ := int_at HR.out hkn hd
   have HC := hid (fun (v : Bool) (hb : memberK x = v) (W : World) => show Calls prog 178 #[.int .i64 x] W fun e w' => e = .returned (.bool v) ∧ W = w' by rw [← hb]; exact isMember_any _ W)
   cases hp : memberK x with
   | false =>
    have hno := hid (allL_no hd hp)
    have HC2 := hid (HC.out _ hp)
    clear HC hp hd ha
    go_wp2_with (go_at_call 178; refine (HC2.out _).mono ?_; rintro e w1 ⟨rfl, rfl⟩)
    go_ret
    exact ⟨ret_bool hno.out.symm, rfl⟩
   | true =>
    have hn2 := allL_step ha hd hp
    have HC2 := hid (HC.out _ hp)
    clear HC hp hd ha
    go_wp2_with (go_at_call 178; refine (HC2.out _).mono ?_; rintro e w1 ⟨rfl, rfl⟩)
    go_round
    case rel => exact ⟨k + 1, by omega, hn2, by go_num⟩
    case measure => simp [intOf]; omega
  ·have hno := hid (allL_all ha (by have := hl.out; omega))
   clear ha
   go_wp2
   go_ret
   exact ⟨ret_bool hno.out.symm, rfl⟩
theorem all_top (A : Option Addr) (n c : Nat) (l : List Int) (w : World) (hn : n ≤ 4194304) (hl : Hid (l.length = n)) (hr : Rd w 1 A n (intCells l)) :
  Calls prog 213 #[.slice A n c, .func (.func 218) #[] #[]] w fun e w' => e = .returned (.bool (l.all (topK))) ∧ Below w.heap.size w w' := by
 apply still_below
 have HR := hid hr
 clear hr
 go_enter func213, ntmps213
 go_wp2
 go_loop [9] (fun i => ∃ k : Nat, k ≤ n ∧ AllL (topK) l k ∧ i = .int .i64 k) (fun i => n - (intOf i).toNat)
 case atStart => exact ⟨0, Nat.zero_le _, allL_zero _ l, rfl⟩
 case round =>
  obtain ⟨k, hk, ha, rfl⟩ := hrel
  by_cases hkn : k < n
  ·obtain ⟨x, hd⟩ : ∃ d, l[k]? = some d := ⟨_, gE (by have := hl.out; omega)⟩
   obtain ⟨b, off, rfl, hblt, c0⟩ := int_at HR.out hkn hd
   have HC := hid (fun (v : Bool) (hb : topK x = v) (W : World) => show Calls prog 218 #[.int .i64 x] W fun e w' => e = .returned (.bool v) ∧ W = w' by rw [← hb]; exact isTop_any _ W)
   cases hp : topK x with
   | false =>
    have hno := hid (allL_no hd hp)
    have HC2 := hid (HC.out _ hp)
    clear HC hp hd ha
    go_wp2_with (go_at_call 218; refine (HC2.out _).mono ?_; rintro e w1 ⟨rfl, rfl⟩)
    go_ret
    exact ⟨ret_bool hno.out.symm, rfl⟩
   | true =>
    have hn2 := allL_step ha hd hp
    have HC2 := hid (HC.out _ hp)
    clear HC hp hd ha
    go_wp2_with (go_at_call 218; refine (HC2.out _).mono ?_; rintro e w1 ⟨rfl, rfl⟩)
    go_round
    case rel => exact ⟨k + 1, by omega, hn2, by go_num⟩
    case measure => simp [intOf]; omega
  ·have hno := hid (allL_all ha (by have := hl.out; omega))
   clear ha
   go_wp2
   go_ret
   exact ⟨ret_bool hno.out.symm, rfl⟩
theorem all_name (A : Option Addr) (n c : Nat) (l : List Int) (w : World) (hn : n ≤ 4194304) (hl : Hid (l.length = n)) (hr : Rd w 1 A n (intCells l)) :
  Calls prog 213 #[.slice A n c, .func (.func 245) #[] #[]] w fun e w' => e = .returned (.bool (l.all (isK 1))) ∧ Below w.heap.size w w' := by
 apply still_below
 have HR := hid hr
 clear hr
 go_enter func213, ntmps213
 go_wp2
 go_loop [9] (fun i => ∃ k : Nat, k ≤ n ∧ AllL (isK 1) l k ∧ i = .int .i64 k) (fun i => n - (intOf i).toNat)
 case atStart => exact ⟨0, Nat.zero_le _, allL_zero _ l, rfl⟩
 case round =>
  obtain ⟨k, hk, ha, rfl⟩ := hrel
  by_cases hkn : k < n
  ·obtain ⟨x, hd⟩ : ∃ d, l[k]? = some d := ⟨_, gE (by have := hl.out; omega)⟩
   obtain ⟨b, off, rfl, hblt, c0⟩ := int_at HR.out hkn hd
   have HC := hid (fun (v : Bool) (hb : isK 1 x = v) (W : World) => show Calls prog 245 #[.int .i64 x] W fun e w' => e = .returned (.bool v) ∧ W = w' by rw [← hb]; exact isNameK_any _ W)
   cases hp : isK 1 x with
   | false =>
    have hno := hid (allL_no hd hp)
    have HC2 := hid (HC.out _ hp)
    clear HC hp hd ha
    go_wp2_with (go_at_call 245; refine (HC2.out _).mono ?_; rintro e w1 ⟨rfl, rfl⟩)
    go_ret
    exact ⟨ret_bool hno.out.symm, rfl⟩
   | true =>
    have hn2 := allL_step ha hd hp
    have HC2 := hid (HC.out _ hp)
    clear HC hp hd ha
    go_wp2_with (go_at_call 245; refine (HC2.out _).mono ?_; rintro e w1 ⟨rfl, rfl⟩)
    go_round
    case rel => exact ⟨k + 1, by omega, hn2, by go_num⟩
    case measure => simp [intOf]; omega
  ·have hno := hid (allL_all ha (by have := hl.out; omega))
   clear ha
   go_wp2
   go_ret
   exact ⟨ret_bool hno.out.symm, rfl⟩
theorem rd1_take {w : World} {A : Option Addr} {m n : Nat} {l : List Int} (h : Rd w 1 A n (intCells l)) (hl : l.length = n) (hm : m ≤ n) : Rd w 1 A m (intCells (l.take m)) := by
 refine ⟨by simp [intCells]; omega, fun hne => ?_⟩
 obtain ⟨b, off, e, hb, hc⟩ := h.2 (by omega)
 refine ⟨b, off, e, hb, fun j u hj => hc j u ?_⟩
 unfold intCells at hj ⊢
 rw [List.getElem?_map, List.getElem?_take] at hj
 split at hj
 ·rw [List.getElem?_map]; exact hj
 ·cases hj
theorem rd1_drop {w : World} {b off m n : Nat} {l : List Int} (h : Rd w 1 (some ⟨b, off, none⟩) n (intCells l)) (hl : l.length = n) (hm : m + 1 = n) : Rd w 1 (some ⟨b, off + 1, none⟩) m (intCells (l.drop 1)) := by
 refine ⟨by simp [intCells]; omega, fun hne => ?_⟩
 obtain ⟨b', off', e, hb, hc⟩ := h.2 (by omega)
 injection e with e
 injection e with e1 e2 _
 subst e1; subst e2
 refine ⟨b, off + 1, rfl, hb, fun j u hj => ?_⟩
 have h2 := hc (j + 1) u (by
  unfold intCells at hj ⊢
  rw [List.getElem?_map, List.getElem?_drop] at hj
  rw [List.getElem?_map, Nat.add_comm j 1]; exact hj)
 rwa [show off + (j + 1) = off + 1 + j by omega] at h2
def lastB (p : Int → Bool) (l : List Int) : Bool := match l.getLast? with | some x => p x && (l.take (l.length - 1)).all (isK 1) | none => false
theorem lastB_some {p : Int → Bool} {l : List Int} {m : Nat} {x : Int} (hl : l.length = m + 1) (hx : l[m]? = some x) : lastB p l = (p x && (l.take m).all (isK 1)) := by
 have : l.getLast? = some x := by rw [List.getLast?_eq_getElem?, hl]; exact hx
 unfold lastB; rw [this, hl]; rfl
theorem last_value (A : Option Addr) (n c : Nat) (l : List Int) (w : World) (hn : n ≤ 4194304) (hc : n ≤ c) (hl : Hid (l.length = n)) (hr : Rd w 1 A n (intCells l)) :
  Calls prog 214 #[.slice A n c, .func (.func 146) #[] #[]] w fun e w' => e = .returned (.bool (lastB (valueK) l)) ∧ Below w.heap.size w w' := by
 by_cases h0 : n = 0
 ·subst h0
  have hz : l = [] := List.eq_nil_of_length_eq_zero hl.out
  have hr2 : lastB (valueK) l = false := by rw [hz]; rfl
  rw [hr2]
  clear hr hz hr2
  go_enter func214, ntmps214
  go_wp2
  go_ret
  exact ⟨rfl, grow_⟩
 ·obtain ⟨m, rfl⟩ : ∃ m, n = m + 1 := ⟨n - 1, by omega⟩
  obtain ⟨x, hd⟩ : ∃ d, l[m]? = some d := ⟨_, gE (by have := hl.out; omega)⟩
  obtain ⟨b, off, rfl, hblt, c0⟩ := int_at hr (by omega) hd
  have HC := hid (fun (v : Bool) (hb : valueK x = v) (W : World) => show Calls prog 146 #[.int .i64 x] W fun e w' => e = .returned (.bool v) ∧ W = w' by rw [← hb]; exact isValue_any _ W)
  have e1 : ((m + 1 : Nat) : Int) - 1 = (m : Nat) := by omega
  have g1 : (0 : Int) < ((m + 1 : Nat) : Int) := by omega
  rw [lastB_some hl.out hd]
  cases hp : valueK x with
  | false =>
   have HC2 := hid (HC.out _ hp)
   clear HC hp hd hr
   go_enter func214, ntmps214
   go_wp2_with (go_at_call 146; refine (HC2.out _).mono ?_; rintro e w1 ⟨rfl, rfl⟩)
   go_ret
   exact ⟨rfl, grow_⟩
  | true =>
   have HC2 := hid (HC.out _ hp)
   have HA := hid (fun c => all_name (some ⟨b, off, none⟩) m c (l.take m) w (by omega) (hid (by rw [List.length_take, hl.out]; omega)) (rd1_take hr hl.out (by omega)))
   clear HC hp hd hr
   generalize (l.take m).all (isK 1) = u at HA ⊢
   go_enter func214, ntmps214
   go_wp2_with (first | (go_at_call 213; refine (HA.out _).mono ?_; rintro e w1 ⟨rfl, h2⟩) | (go_at_call 146; refine (HC2.out _).mono ?_; rintro e w1 ⟨rfl, rfl⟩))
   go_ret
   exact ⟨rfl, h2⟩
theorem last_block (A : Option Addr) (n c : Nat) (l : List Int) (w : World) (hn : n ≤ 4194304) (hc : n ≤ c) (hl : Hid (l.length = n)) (hr : Rd w 1 A n (intCells l)) :
  Calls prog 214 #[.slice A n c, .func (.func 216) #[] #[]] w fun e w' => e = .returned (.bool (lastB (isK 18) l)) ∧ Below w.heap.size w w' := by
 by_cases h0 : n = 0
 ·subst h0
  have hz : l = [] := List.eq_nil_of_length_eq_zero hl.out
  have hr2 : lastB (isK 18) l = false := by rw [hz]; rfl
  rw [hr2]
  clear hr hz hr2
  go_enter func214, ntmps214
  go_wp2
  go_ret
  exact ⟨rfl, grow_⟩
 ·obtain ⟨m, rfl⟩ : ∃ m, n = m + 1 := ⟨n - 1, by omega⟩
  obtain ⟨x, hd⟩ : ∃ d, l[m]? = some d := ⟨_, gE (by have := hl.out; omega)⟩
  obtain ⟨b, off, rfl, hblt, c0⟩ := int_at hr (by omega) hd
  have HC := hid (fun (v : Bool) (hb : isK 18 x = v) (W : World) => show Calls prog 216 #[.int .i64 x] W fun e w' => e = .returned (.bool v) ∧ W = w' by rw [← hb]; exact isBlock_any _ W)
  have e1 : ((m + 1 : Nat) : Int) - 1 = (m : Nat) := by omega
  have g1 : (0 : Int) < ((m + 1 : Nat) : Int) := by omega
  rw [lastB_some hl.out hd]
  cases hp : isK 18 x with
  | false =>
   have HC2 := hid (HC.out _ hp)
   clear HC hp hd hr
   go_enter func214, ntmps214
   go_wp2_with (go_at_call 216; refine (HC2.out _).mono ?_; rintro e w1 ⟨rfl, rfl⟩)
   go_ret
   exact ⟨rfl, grow_⟩
  | true =>
   have HC2 := hid (HC.out _ hp)
   have HA := hid (fun c => all_name (some ⟨b, off, none⟩) m c (l.take m) w (by omega) (hid (by rw [List.length_take, hl.out]; omega)) (rd1_take hr hl.out (by omega)))
   clear HC hp hd hr
   generalize (l.take m).all (isK 1) = u at HA ⊢
   go_enter func214, ntmps214
   go_wp2_with (first | (go_at_call 213; refine (HA.out _).mono ?_; rintro e w1 ⟨rfl, h2⟩) | (go_at_call 216; refine (HC2.out _).mono ?_; rintro e w1 ⟨rfl, rfl⟩))
   go_ret
   exact ⟨rfl, h2⟩
def headB (p : Int → Bool) (l : List Int) : Bool := match l with | x :: _ => p x | [] => false
def kfB (kind : Int) (l : List Int) : Bool :=
 if kind = 1 ∨ kind = 2 ∨ kind = 3 ∨ kind = 19 then decide (l.length = 0)
 else if kind = 4 then l.all valueK
 else if kind = 5 then decide (1 ≤ l.length) && l.all valueK
 else if kind = 7 then decide (2 ≤ l.length) && l.all valueK
 else if kind = 8 then decide (l.length = 3) && l.all valueK
 else if kind = 6 ∨ kind = 11 ∨ kind = 13 ∨ kind = 14 then decide (l.length = 1) && l.all valueK
 else if kind = 12 ∨ kind = 15 then decide (l.length ≤ 1) && l.all valueK
 else if kind = 9 then lastB valueK l
 else if kind = 10 then decide (2 ≤ l.length) && headB valueK l && (l.drop 1).all (isK 5)
 else if kind = 16 then decide (2 ≤ l.length ∧ l.length ≤ 3) && headB valueK l && (l.drop 1).all (isK 18)
 else if kind = 17 then decide (l.length = 2) && headB valueK l && (l.drop 1).all (isK 18)
 else if kind = 18 then l.all stmtK
 else if kind = 20 then lastB (isK 18) l
 else if kind = 21 then l.all memberK
 else if kind = 22 then l.all topK
 else false
theorem nat_eq_beq (n m : Nat) : ((n : Int) == (m : Int)) = decide (n = m) := by
 by_cases h : n = m
 ·rw [decide_eq_true h, h]; exact beq_self_eq_true _
 ·rw [decide_eq_false h, beq_eq_false_iff_ne]; omega
theorem kf_none (A : Option Addr) (n c : Nat) (l : List Int) (w : World) (hn : n ≤ 4096) (hc : n ≤ c) (hl : Hid (l.length = n)) (hr : Rd w 1 A n (intCells l)) (kind : Int) (hk : kind = 1 ∨ kind = 2 ∨ kind = 3 ∨ kind = 19) :
  Calls prog 179 #[.int .i64 kind, .slice A n c] w fun e w' => e = .returned (.bool (kfB kind l)) ∧ Below w.heap.size w w' := by
 have HV := hid (fun c => all_value A n c l w (by omega) hl hr)
 have hb : kfB kind l = ((n : Int) == (0 : Nat)) := by rw [nat_eq_beq]; unfold kfB; rw [if_pos hk, hl.out]
 rw [hb]
 clear hb hr hl
 generalize l.all valueK = u at HV
 rcases hk with rfl | rfl | rfl | rfl
 all_goals
  go_enter func179, ntmps179
  go_wp2_with (go_at_call 213; refine (HV.out _).mono ?_; rintro e w1 ⟨rfl, h2⟩)
  go_ret
  refine ⟨ret_bool ?_, h2⟩
  rfl
theorem kf_list (A : Option Addr) (n c : Nat) (l : List Int) (w : World) (hn : n ≤ 4096) (hc : n ≤ c) (hl : Hid (l.length = n)) (hr : Rd w 1 A n (intCells l)) :
  Calls prog 179 #[.int .i64 4, .slice A n c] w fun e w' => e = .returned (.bool (kfB 4 l)) ∧ Below w.heap.size w w' := by
 have HV := hid (fun c => all_value A n c l w (by omega) hl hr)
 have hb : kfB 4 l = l.all valueK := rfl
 rw [hb]
 clear hb hr hl
 generalize l.all valueK = u at HV ⊢
 go_enter func179, ntmps179
 go_wp2_with (go_at_call 213; refine (HV.out _).mono ?_; rintro e w1 ⟨rfl, h2⟩)
 go_ret
 exact ⟨rfl, h2⟩
theorem kf_call (A : Option Addr) (n c : Nat) (l : List Int) (w : World) (hn : n ≤ 4096) (hc : n ≤ c) (hl : Hid (l.length = n)) (hr : Rd w 1 A n (intCells l)) (kind : Int) (hk : kind = 5) :
  Calls prog 179 #[.int .i64 kind, .slice A n c] w fun e w' => e = .returned (.bool (kfB kind l)) ∧ Below w.heap.size w w' := by
 have HV := hid (fun c => all_value A n c l w (by omega) hl hr)
 have hb : kfB kind l = (decide (1 ≤ n) && l.all valueK) := by rw [← hl.out]; rcases hk with rfl <;> rfl
 rw [hb]
 clear hb hr hl
 generalize l.all valueK = u at HV ⊢
 by_cases ht : 1 ≤ n
 ·rw [decide_eq_true ht, Bool.true_and]
  have i1 : (1 : Int) ≤ n := by omega
  rcases hk with rfl
  all_goals
   go_enter func179, ntmps179
   go_wp2_with (go_at_call 213; refine (HV.out _).mono ?_; rintro e w1 ⟨rfl, h2⟩)
   go_ret
   exact ⟨rfl, h2⟩
 ·rw [decide_eq_false ht, Bool.false_and]
  have i1 : ¬ (1 : Int) ≤ n := by omega
  rcases hk with rfl
  all_goals
   go_enter func179, ntmps179
   go_wp2_with (go_at_call 213; refine (HV.out _).mono ?_; rintro e w1 ⟨rfl, h2⟩)
   go_ret
   exact ⟨rfl, h2⟩
theorem kf_chain (A : Option Addr) (n c : Nat) (l : List Int) (w : World) (hn : n ≤ 4096) (hc : n ≤ c) (hl : Hid (l.length = n)) (hr : Rd w 1 A n (intCells l)) (kind : Int) (hk : kind = 7) :
  Calls prog 179 #[.int .i64 kind, .slice A n c] w fun e w' => e = .returned (.bool (kfB kind l)) ∧ Below w.heap.size w w' := by
 have HV := hid (fun c => all_value A n c l w (by omega) hl hr)
 have hb : kfB kind l = (decide (2 ≤ n) && l.all valueK) := by rw [← hl.out]; rcases hk with rfl <;> rfl
 rw [hb]
 clear hb hr hl
 generalize l.all valueK = u at HV ⊢
 by_cases ht : 2 ≤ n
 ·rw [decide_eq_true ht, Bool.true_and]
  have i1 : (2 : Int) ≤ n := by omega
  rcases hk with rfl
  all_goals
   go_enter func179, ntmps179
   go_wp2_with (go_at_call 213; refine (HV.out _).mono ?_; rintro e w1 ⟨rfl, h2⟩)
   go_ret
   exact ⟨rfl, h2⟩
 ·rw [decide_eq_false ht, Bool.false_and]
  have i1 : ¬ (2 : Int) ≤ n := by omega
  rcases hk with rfl
  all_goals
   go_enter func179, ntmps179
   go_wp2_with (go_at_call 213; refine (HV.out _).mono ?_; rintro e w1 ⟨rfl, h2⟩)
   go_ret
   exact ⟨rfl, h2⟩
theorem kf_pick (A : Option Addr) (n c : Nat) (l : List Int) (w : World) (hn : n ≤ 4096) (hc : n ≤ c) (hl : Hid (l.length = n)) (hr : Rd w 1 A n (intCells l)) (kind : Int) (hk : kind = 8) :
  Calls prog 179 #[.int .i64 kind, .slice A n c] w fun e w' => e = .returned (.bool (kfB kind l)) ∧ Below w.heap.size w w' := by
 have HV := hid (fun c => all_value A n c l w (by omega) hl hr)
 have hb : kfB kind l = (decide (n = 3) && l.all valueK) := by rw [← hl.out]; rcases hk with rfl <;> rfl
 rw [hb]
 clear hb hr hl
 generalize l.all valueK = u at HV ⊢
 by_cases ht : n = 3
 ·rw [decide_eq_true ht, Bool.true_and]
  obtain rfl : n = 3 := ht
  rcases hk with rfl
  all_goals
   go_enter func179, ntmps179
   go_wp2_with (go_at_call 213; refine (HV.out _).mono ?_; rintro e w1 ⟨rfl, h2⟩)
   go_ret
   exact ⟨rfl, h2⟩
 ·rw [decide_eq_false ht, Bool.false_and]
  have i1 : ((n : Int) == 3) = false := by rw [beq_eq_false_iff_ne]; omega
  rcases hk with rfl
  all_goals
   go_enter func179, ntmps179
   go_wp2_with (go_at_call 213; refine (HV.out _).mono ?_; rintro e w1 ⟨rfl, h2⟩)
   go_ret
   exact ⟨rfl, h2⟩
theorem kf_one (A : Option Addr) (n c : Nat) (l : List Int) (w : World) (hn : n ≤ 4096) (hc : n ≤ c) (hl : Hid (l.length = n)) (hr : Rd w 1 A n (intCells l)) (kind : Int) (hk : kind = 6 ∨ kind = 11 ∨ kind = 13 ∨ kind = 14) :
  Calls prog 179 #[.int .i64 kind, .slice A n c] w fun e w' => e = .returned (.bool (kfB kind l)) ∧ Below w.heap.size w w' := by
 have HV := hid (fun c => all_value A n c l w (by omega) hl hr)
 have hb : kfB kind l = (decide (n = 1) && l.all valueK) := by rw [← hl.out]; rcases hk with rfl | rfl | rfl | rfl <;> rfl
 rw [hb]
 clear hb hr hl
 generalize l.all valueK = u at HV ⊢
 by_cases ht : n = 1
 ·rw [decide_eq_true ht, Bool.true_and]
  obtain rfl : n = 1 := ht
  rcases hk with rfl | rfl | rfl | rfl
  all_goals
   go_enter func179, ntmps179
   go_wp2_with (go_at_call 213; refine (HV.out _).mono ?_; rintro e w1 ⟨rfl, h2⟩)
   go_ret
   exact ⟨rfl, h2⟩
 ·rw [decide_eq_false ht, Bool.false_and]
  have i1 : ((n : Int) == 1) = false := by rw [beq_eq_false_iff_ne]; omega
  rcases hk with rfl | rfl | rfl | rfl
  all_goals
   go_enter func179, ntmps179
   go_wp2_with (go_at_call 213; refine (HV.out _).mono ?_; rintro e w1 ⟨rfl, h2⟩)
   go_ret
   exact ⟨rfl, h2⟩
theorem kf_var (A : Option Addr) (n c : Nat) (l : List Int) (w : World) (hn : n ≤ 4096) (hc : n ≤ c) (hl : Hid (l.length = n)) (hr : Rd w 1 A n (intCells l)) (kind : Int) (hk : kind = 12 ∨ kind = 15) :
  Calls prog 179 #[.int .i64 kind, .slice A n c] w fun e w' => e = .returned (.bool (kfB kind l)) ∧ Below w.heap.size w w' := by
 have HV := hid (fun c => all_value A n c l w (by omega) hl hr)
 have hb : kfB kind l = (decide (n ≤ 1) && l.all valueK) := by rw [← hl.out]; rcases hk with rfl | rfl <;> rfl
 rw [hb]
 clear hb hr hl
 generalize l.all valueK = u at HV ⊢
 by_cases ht : n ≤ 1
 ·rw [decide_eq_true ht, Bool.true_and]
  have i1 : (n : Int) ≤ 1 := by omega
  rcases hk with rfl | rfl
  all_goals
   go_enter func179, ntmps179
   go_wp2_with (go_at_call 213; refine (HV.out _).mono ?_; rintro e w1 ⟨rfl, h2⟩)
   go_ret
   exact ⟨rfl, h2⟩
 ·rw [decide_eq_false ht, Bool.false_and]
  have i1 : ¬ (n : Int) ≤ 1 := by omega
  rcases hk with rfl | rfl
  all_goals
   go_enter func179, ntmps179
   go_wp2_with (go_at_call 213; refine (HV.out _).mono ?_; rintro e w1 ⟨rfl, h2⟩)
   go_ret
   exact ⟨rfl, h2⟩
theorem kf_fn (A : Option Addr) (n c : Nat) (l : List Int) (w : World) (hn : n ≤ 4096) (hc : n ≤ c) (hl : Hid (l.length = n)) (hr : Rd w 1 A n (intCells l)) :
  Calls prog 179 #[.int .i64 9, .slice A n c] w fun e w' => e = .returned (.bool (kfB 9 l)) ∧ Below w.heap.size w w' := by
 have HV := hid (fun c => all_value A n c l w (by omega) hl hr)
 have HL := hid (fun w1 (h : Below w.heap.size w w1) c hc => last_value A n c l w1 (by omega) hc hl (hr.next h))
 have hb : kfB 9 l = lastB (valueK) l := rfl
 rw [hb]
 clear hb hr hl
 generalize l.all valueK = u at HV
 generalize lastB (valueK) l = v at HL ⊢
 go_enter func179, ntmps179
 go_wp2_with (first | (go_at_call 213; refine (HV.out _).mono ?_; rintro e w1 ⟨rfl, h2⟩) | (go_at_call 214; refine (HL.out _ h2 _ hc).mono ?_; rintro e w3 ⟨rfl, h3⟩))
 go_ret
 exact ⟨rfl, below_next h2 h3⟩
theorem kf_method (A : Option Addr) (n c : Nat) (l : List Int) (w : World) (hn : n ≤ 4096) (hc : n ≤ c) (hl : Hid (l.length = n)) (hr : Rd w 1 A n (intCells l)) :
  Calls prog 179 #[.int .i64 20, .slice A n c] w fun e w' => e = .returned (.bool (kfB 20 l)) ∧ Below w.heap.size w w' := by
 have HV := hid (fun c => all_value A n c l w (by omega) hl hr)
 have HL := hid (fun w1 (h : Below w.heap.size w w1) c hc => last_block A n c l w1 (by omega) hc hl (hr.next h))
 have hb : kfB 20 l = lastB (isK 18) l := rfl
 rw [hb]
 clear hb hr hl
 generalize l.all valueK = u at HV
 generalize lastB (isK 18) l = v at HL ⊢
 go_enter func179, ntmps179
 go_wp2_with (first | (go_at_call 213; refine (HV.out _).mono ?_; rintro e w1 ⟨rfl, h2⟩) | (go_at_call 214; refine (HL.out _ h2 _ hc).mono ?_; rintro e w3 ⟨rfl, h3⟩))
 go_ret
 exact ⟨rfl, below_next h2 h3⟩
theorem kf_block (A : Option Addr) (n c : Nat) (l : List Int) (w : World) (hn : n ≤ 4096) (hc : n ≤ c) (hl : Hid (l.length = n)) (hr : Rd w 1 A n (intCells l)) :
  Calls prog 179 #[.int .i64 18, .slice A n c] w fun e w' => e = .returned (.bool (kfB 18 l)) ∧ Below w.heap.size w w' := by
 have HV := hid (fun c => all_value A n c l w (by omega) hl hr)
 have HL := hid (fun w1 (h : Below w.heap.size w w1) c => all_stmt A n c l w1 (by omega) hl (hr.next h))
 have hb : kfB 18 l = l.all (stmtK) := rfl
 rw [hb]
 clear hb hr hl
 generalize l.all valueK = u at HV
 generalize l.all (stmtK) = v at HL ⊢
 go_enter func179, ntmps179
 go_wp2_with fail
 refine (HV.out _).mono ?_
 rintro e w1 ⟨rfl, h2⟩
 go_wp2_with fail
 refine (HL.out _ h2 _).mono ?_
 rintro e w3 ⟨rfl, h3⟩
 go_wp2
 go_ret
 exact ⟨rfl, below_next h2 h3⟩
theorem kf_class (A : Option Addr) (n c : Nat) (l : List Int) (w : World) (hn : n ≤ 4096) (hc : n ≤ c) (hl : Hid (l.length = n)) (hr : Rd w 1 A n (intCells l)) :
  Calls prog 179 #[.int .i64 21, .slice A n c] w fun e w' => e = .returned (.bool (kfB 21 l)) ∧ Below w.heap.size w w' := by
 have HV := hid (fun c => all_value A n c l w (by omega) hl hr)
 have HL := hid (fun w1 (h : Below w.heap.size w w1) c => all_member A n c l w1 (by omega) hl (hr.next h))
 have hb : kfB 21 l = l.all (memberK) := rfl
 rw [hb]
 clear hb hr hl
 generalize l.all valueK = u at HV
 generalize l.all (memberK) = v at HL ⊢
 go_enter func179, ntmps179
 go_wp2_with fail
 refine (HV.out _).mono ?_
 rintro e w1 ⟨rfl, h2⟩
 go_wp2_with fail
 refine (HL.out _ h2 _).mono ?_
 rintro e w3 ⟨rfl, h3⟩
 go_wp2
 go_ret
 exact ⟨rfl, below_next h2 h3⟩
theorem kf_file (A : Option Addr) (n c : Nat) (l : List Int) (w : World) (hn : n ≤ 4096) (hc : n ≤ c) (hl : Hid (l.length = n)) (hr : Rd w 1 A n (intCells l)) :
  Calls prog 179 #[.int .i64 22, .slice A n c] w fun e w' => e = .returned (.bool (kfB 22 l)) ∧ Below w.heap.size w w' := by
 have HV := hid (fun c => all_value A n c l w (by omega) hl hr)
 have HL := hid (fun w1 (h : Below w.heap.size w w1) c => all_top A n c l w1 (by omega) hl (hr.next h))
 have hb : kfB 22 l = l.all (topK) := rfl
 rw [hb]
 clear hb hr hl
 generalize l.all valueK = u at HV
 generalize l.all (topK) = v at HL ⊢
 go_enter func179, ntmps179
 go_wp2_with fail
 refine (HV.out _).mono ?_
 rintro e w1 ⟨rfl, h2⟩
 go_wp2_with fail
 refine (HL.out _ h2 _).mono ?_
 rintro e w3 ⟨rfl, h3⟩
 go_wp2
 go_ret
 exact ⟨rfl, below_next h2 h3⟩
theorem kf_rest (A : Option Addr) (n c : Nat) (l : List Int) (w : World) (hn : n ≤ 4096) (hc : n ≤ c) (hl : Hid (l.length = n)) (hr : Rd w 1 A n (intCells l)) (kind : Int) (hk : ¬ (1 ≤ kind ∧ kind ≤ 22)) :
  Calls prog 179 #[.int .i64 kind, .slice A n c] w fun e w' => e = .returned (.bool (kfB kind l)) ∧ Below w.heap.size w w' := by
 have HV := hid (fun c => all_value A n c l w (by omega) hl hr)
 have d1 : (kind == 1) = false := by rw [beq_eq_false_iff_ne]; omega
 have d2 : (kind == 2) = false := by rw [beq_eq_false_iff_ne]; omega
 have d3 : (kind == 3) = false := by rw [beq_eq_false_iff_ne]; omega
 have d4 : (kind == 4) = false := by rw [beq_eq_false_iff_ne]; omega
 have d5 : (kind == 5) = false := by rw [beq_eq_false_iff_ne]; omega
 have d6 : (kind == 6) = false := by rw [beq_eq_false_iff_ne]; omega
 have d7 : (kind == 7) = false := by rw [beq_eq_false_iff_ne]; omega
 have d8 : (kind == 8) = false := by rw [beq_eq_false_iff_ne]; omega
 have d9 : (kind == 9) = false := by rw [beq_eq_false_iff_ne]; omega
 have d10 : (kind == 10) = false := by rw [beq_eq_false_iff_ne]; omega
 have d11 : (kind == 11) = false := by rw [beq_eq_false_iff_ne]; omega
 have d12 : (kind == 12) = false := by rw [beq_eq_false_iff_ne]; omega
 have d13 : (kind == 13) = false := by rw [beq_eq_false_iff_ne]; omega
 have d14 : (kind == 14) = false := by rw [beq_eq_false_iff_ne]; omega
 have d15 : (kind == 15) = false := by rw [beq_eq_false_iff_ne]; omega
 have d16 : (kind == 16) = false := by rw [beq_eq_false_iff_ne]; omega
 have d17 : (kind == 17) = false := by rw [beq_eq_false_iff_ne]; omega
 have d18 : (kind == 18) = false := by rw [beq_eq_false_iff_ne]; omega
 have d19 : (kind == 19) = false := by rw [beq_eq_false_iff_ne]; omega
 have d20 : (kind == 20) = false := by rw [beq_eq_false_iff_ne]; omega
 have d21 : (kind == 21) = false := by rw [beq_eq_false_iff_ne]; omega
 have d22 : (kind == 22) = false := by rw [beq_eq_false_iff_ne]; omega
 have hb : kfB kind l = false := by
  unfold kfB
  rw [if_neg (by omega), if_neg (by omega), if_neg (by omega), if_neg (by omega), if_neg (by omega), if_neg (by omega), if_neg (by omega), if_neg (by omega), if_neg (by omega), if_neg (by omega), if_neg (by omega), if_neg (by omega), if_neg (by omega), if_neg (by omega), if_neg (by omega)]
 rw [hb]
 clear hb hr hl hk
 generalize l.all valueK = u at HV
 go_enter func179, ntmps179
 go_wp2_with (go_at_call 213; refine (HV.out _).mono ?_; rintro e w1 ⟨rfl, h2⟩)
 go_ret
 exact ⟨rfl, h2⟩
theorem head_cons {l : List Int} {n : Nat} (hl : l.length = n) (hn : 0 < n) : ∃ x r, l = x :: r ∧ l[0]? = some x ∧ r.length + 1 = n := by
 match l, hl with
 | [], hl => simp at hl; omega
 | x :: r, hl => exact ⟨x, r, rfl, rfl, by simpa using hl⟩
theorem kf_cascade (A : Option Addr) (n c : Nat) (l : List Int) (w : World) (hn : n ≤ 4096) (hc : n ≤ c) (hl : Hid (l.length = n)) (hr : Rd w 1 A n (intCells l)) :
  Calls prog 179 #[.int .i64 10, .slice A n c] w fun e w' => e = .returned (.bool (kfB 10 l)) ∧ Below w.heap.size w w' := by
 have HV := hid (fun c => all_value A n c l w (by omega) hl hr)
 have hb : kfB 10 l = (decide (2 ≤ n) && headB valueK l && (l.drop 1).all (isK 5)) := by rw [← hl.out]; rfl
 rw [hb]
 clear hb
 by_cases ht : 2 ≤ n
 ·rw [decide_eq_true ht, Bool.true_and]
  obtain ⟨x, r, hx, hd, hrl⟩ := head_cons hl.out (by omega)
  obtain ⟨b, off, rfl, hblt, c0⟩ := int_at hr (by omega) hd
  have hR := hid (rd1_drop hr hl.out (by omega : n - 1 + 1 = n))
  have HC := hid (fun (v : Bool) (hb : valueK x = v) (W : World) => show Calls prog 146 #[.int .i64 x] W fun e w' => e = .returned (.bool v) ∧ W = w' by rw [← hb]; exact isValue_any _ W)
  have hh : headB valueK l = valueK x := by rw [hx]; rfl
  rw [hh]
  have i1 : (2 : Int) ≤ n := by omega
  simp only [Nat.add_zero] at c0
  cases hp : valueK x with
  | false =>
   have HC2 := hid (HC.out _ hp)
   rw [Bool.false_and]
   clear HC hp hd hr hh hx hR
   generalize l.all valueK = u at HV
   go_enter func179, ntmps179
   go_wp2_with fail
   refine (HV.out _).mono ?_
   rintro e w1 ⟨rfl, h2⟩
   obtain ⟨hcc, hff⟩ := bcell h2
   go_wp2_with (go_at_call 146; refine (HC2.out _).mono ?_; rintro e w1 ⟨rfl, rfl⟩)
   go_ret
   exact ⟨rfl, h2⟩
  | true =>
   have HC2 := hid (HC.out _ hp)
   rw [Bool.true_and]
   have HL := hid (fun w1 (h : Below w.heap.size w w1) c => all_call (some ⟨b, off + 1, none⟩) (n - 1) c (l.drop 1) w1 (by omega) (hid (by rw [List.length_drop, hl.out])) (hR.out.next h))
   have e1 : (n : Int) - 1 = ((n - 1 : Nat) : Int) := by omega
   clear HC hp hd hr hh hx hR
   generalize l.all valueK = u at HV
   generalize (l.drop 1).all (isK 5) = v at HL ⊢
   go_enter func179, ntmps179
   go_wp2_with fail
   refine (HV.out _).mono ?_
   rintro e w1 ⟨rfl, h2⟩
   obtain ⟨hcc, hff⟩ := bcell h2
   go_wp2_with fail
   refine (HC2.out _).mono ?_
   rintro e w1 ⟨rfl, rfl⟩
   go_wp2_with fail
   refine (HL.out _ h2 _).mono ?_
   rintro e w3 ⟨rfl, h3⟩
   go_wp2
   go_ret
   exact ⟨rfl, below_next h2 h3⟩
 ·rw [decide_eq_false ht, Bool.false_and, Bool.false_and]
  have i1 : ¬ (2 : Int) ≤ n := by omega
  clear hr
  generalize l.all valueK = u at HV
  go_enter func179, ntmps179
  go_wp2_with (go_at_call 213; refine (HV.out _).mono ?_; rintro e w1 ⟨rfl, h2⟩)
  go_ret
  exact ⟨rfl, h2⟩
theorem kf_if (A : Option Addr) (n c : Nat) (l : List Int) (w : World) (hn : n ≤ 4096) (hc : n ≤ c) (hl : Hid (l.length = n)) (hr : Rd w 1 A n (intCells l)) :
  Calls prog 179 #[.int .i64 16, .slice A n c] w fun e w' => e = .returned (.bool (kfB 16 l)) ∧ Below w.heap.size w w' := by
 have HV := hid (fun c => all_value A n c l w (by omega) hl hr)
 have hb : kfB 16 l = (decide (2 ≤ n ∧ n ≤ 3) && headB valueK l && (l.drop 1).all (isK 18)) := by rw [← hl.out]; rfl
 rw [hb]
 clear hb
 by_cases ht : 2 ≤ n ∧ n ≤ 3
 ·rw [decide_eq_true ht, Bool.true_and]
  obtain ⟨x, r, hx, hd, hrl⟩ := head_cons hl.out (by omega)
  obtain ⟨b, off, rfl, hblt, c0⟩ := int_at hr (by omega) hd
  have hR := hid (rd1_drop hr hl.out (by omega : n - 1 + 1 = n))
  have HC := hid (fun (v : Bool) (hb : valueK x = v) (W : World) => show Calls prog 146 #[.int .i64 x] W fun e w' => e = .returned (.bool v) ∧ W = w' by rw [← hb]; exact isValue_any _ W)
  have hh : headB valueK l = valueK x := by rw [hx]; rfl
  rw [hh]
  have HI := hid (fun W => inRange_is (show inB (n : Int) 2 3 = true from decide_eq_true (by omega)) W)
  simp only [Nat.add_zero] at c0
  cases hp : valueK x with
  | false =>
   have HC2 := hid (HC.out _ hp)
   rw [Bool.false_and]
   clear HC hp hd hr hh hx hR
   generalize l.all valueK = u at HV
   go_enter func179, ntmps179
   go_wp2_with fail
   refine (HV.out _).mono ?_
   rintro e w1 ⟨rfl, h2⟩
   obtain ⟨hcc, hff⟩ := bcell h2
   go_wp2_with fail
   refine (HI.out _).mono ?_
   rintro e w5 ⟨rfl, rfl⟩
   go_wp2_with fail
   refine (HC2.out _).mono ?_
   rintro e w1 ⟨rfl, rfl⟩
   go_wp2
   go_ret
   exact ⟨rfl, h2⟩
  | true =>
   have HC2 := hid (HC.out _ hp)
   rw [Bool.true_and]
   have HL := hid (fun w1 (h : Below w.heap.size w w1) c => all_block (some ⟨b, off + 1, none⟩) (n - 1) c (l.drop 1) w1 (by omega) (hid (by rw [List.length_drop, hl.out])) (hR.out.next h))
   have e1 : (n : Int) - 1 = ((n - 1 : Nat) : Int) := by omega
   clear HC hp hd hr hh hx hR
   generalize l.all valueK = u at HV
   generalize (l.drop 1).all (isK 18) = v at HL ⊢
   go_enter func179, ntmps179
   go_wp2_with fail
   refine (HV.out _).mono ?_
   rintro e w1 ⟨rfl, h2⟩
   obtain ⟨hcc, hff⟩ := bcell h2
   go_wp2_with fail
   refine (HI.out _).mono ?_
   rintro e w5 ⟨rfl, rfl⟩
   go_wp2_with fail
   refine (HC2.out _).mono ?_
   rintro e w1 ⟨rfl, rfl⟩
   go_wp2_with fail
   refine (HL.out _ h2 _).mono ?_
   rintro e w3 ⟨rfl, h3⟩
   go_wp2
   go_ret
   exact ⟨rfl, below_next h2 h3⟩
 ·rw [decide_eq_false ht, Bool.false_and, Bool.false_and]
  have HI := hid (fun W => inRange_is (show inB (n : Int) 2 3 = false from decide_eq_false (by omega)) W)
  clear hr
  generalize l.all valueK = u at HV
  go_enter func179, ntmps179
  go_wp2_with fail
  refine (HV.out _).mono ?_
  rintro e w1 ⟨rfl, h2⟩
  go_wp2_with fail
  refine (HI.out _).mono ?_
  rintro e w5 ⟨rfl, rfl⟩
  go_wp2
  go_ret
  exact ⟨rfl, h2⟩
theorem kf_while (A : Option Addr) (n c : Nat) (l : List Int) (w : World) (hn : n ≤ 4096) (hc : n ≤ c) (hl : Hid (l.length = n)) (hr : Rd w 1 A n (intCells l)) :
  Calls prog 179 #[.int .i64 17, .slice A n c] w fun e w' => e = .returned (.bool (kfB 17 l)) ∧ Below w.heap.size w w' := by
 have HV := hid (fun c => all_value A n c l w (by omega) hl hr)
 have hb : kfB 17 l = (decide (n = 2) && headB valueK l && (l.drop 1).all (isK 18)) := by rw [← hl.out]; rfl
 rw [hb]
 clear hb
 by_cases ht : n = 2
 ·rw [decide_eq_true ht, Bool.true_and]
  obtain rfl : n = 2 := ht
  obtain ⟨x, y, hx⟩ : ∃ x y, l = [x, y] := by
   match l, hl.out with
   | [x, y], _ => exact ⟨x, y, rfl⟩
  obtain ⟨b, off, rfl, hblt, c0⟩ := int_at (k := 0) (x := x) hr (by omega) (by rw [hx]; rfl)
  obtain ⟨b', off', e4, hblt', c1⟩ := int_at (k := 1) (x := y) hr (by omega) (by rw [hx]; rfl)
  injection e4 with e4
  injection e4 with e41 e42
  subst e41; subst e42
  have HC := hid (fun (v : Bool) (hb : valueK x = v) (W : World) => show Calls prog 146 #[.int .i64 x] W fun e w' => e = .returned (.bool v) ∧ W = w' by rw [← hb]; exact isValue_any _ W)
  have HB := hid (fun (W : World) => isBlock_any y W)
  have hh : (headB valueK l && (l.drop 1).all (isK 18)) = (valueK x && isK 18 y) := by rw [hx]; simp [headB]
  rw [hh]
  simp only [Nat.add_zero] at c0
  cases hp : valueK x with
  | false =>
   have HC2 := hid (HC.out _ hp)
   rw [Bool.false_and]
   clear HC hp hr hh hx
   generalize l.all valueK = u at HV
   go_enter func179, ntmps179
   go_wp2_with fail
   refine (HV.out _).mono ?_
   rintro e w1 ⟨rfl, h2⟩
   obtain ⟨hcc, hff⟩ := bcell h2
   go_wp2_with fail
   refine (HC2.out _).mono ?_
   rintro e w1 ⟨rfl, rfl⟩
   go_wp2
   go_ret
   exact ⟨rfl, h2⟩
  | true =>
   have HC2 := hid (HC.out _ hp)
   rw [Bool.true_and]
   clear HC hp hr hh hx
   generalize l.all valueK = u at HV
   generalize isK 18 y = v at HB ⊢
   go_enter func179, ntmps179
   go_wp2_with fail
   refine (HV.out _).mono ?_
   rintro e w1 ⟨rfl, h2⟩
   obtain ⟨hcc, hff⟩ := bcell h2
   go_wp2_with fail
   refine (HC2.out _).mono ?_
   rintro e w1 ⟨rfl, rfl⟩
   go_wp2_with fail
   refine (HB.out _).mono ?_
   rintro e w1 ⟨rfl, rfl⟩
   go_wp2
   go_ret
   exact ⟨rfl, h2⟩
 ·rw [decide_eq_false ht, Bool.false_and, Bool.false_and]
  have i1 : ((n : Int) == 2) = false := by rw [beq_eq_false_iff_ne]; omega
  clear hr
  generalize l.all valueK = u at HV
  go_enter func179, ntmps179
  go_wp2_with fail
  refine (HV.out _).mono ?_
  rintro e w1 ⟨rfl, h2⟩
  go_wp2
  go_ret
  exact ⟨rfl, h2⟩
theorem kindsFit_any (kind : Int) (A : Option Addr) (n c : Nat) (l : List Int) (w : World) (hn : n ≤ 4096) (hc : n ≤ c) (hl : Hid (l.length = n)) (hr : Rd w 1 A n (intCells l)) :
  Calls prog 179 #[.int .i64 kind, .slice A n c] w fun e w' => e = .returned (.bool (kfB kind l)) ∧ Below w.heap.size w w' := by
 by_cases h : 1 ≤ kind ∧ kind ≤ 22
 ·have h2 : kind = 1 ∨ kind = 2 ∨ kind = 3 ∨ kind = 4 ∨ kind = 5 ∨ kind = 6 ∨ kind = 7 ∨ kind = 8 ∨ kind = 9 ∨ kind = 10 ∨ kind = 11 ∨ kind = 12 ∨ kind = 13 ∨ kind = 14 ∨ kind = 15 ∨ kind = 16 ∨ kind = 17 ∨ kind = 18 ∨ kind = 19 ∨ kind = 20 ∨ kind = 21 ∨ kind = 22 := by omega
  rcases h2 with rfl | rfl | rfl | rfl | rfl | rfl | rfl | rfl | rfl | rfl | rfl | rfl | rfl | rfl | rfl | rfl | rfl | rfl | rfl | rfl | rfl | rfl
  ·exact kf_none A n c l w hn hc hl hr 1 (by omega)
  ·exact kf_none A n c l w hn hc hl hr 2 (by omega)
  ·exact kf_none A n c l w hn hc hl hr 3 (by omega)
  ·exact kf_list A n c l w hn hc hl hr
  ·exact kf_call A n c l w hn hc hl hr 5 (by omega)
  ·exact kf_one A n c l w hn hc hl hr 6 (by omega)
  ·exact kf_chain A n c l w hn hc hl hr 7 (by omega)
  ·exact kf_pick A n c l w hn hc hl hr 8 (by omega)
  ·exact kf_fn A n c l w hn hc hl hr
  ·exact kf_cascade A n c l w hn hc hl hr
  ·exact kf_one A n c l w hn hc hl hr 11 (by omega)
  ·exact kf_var A n c l w hn hc hl hr 12 (by omega)
  ·exact kf_one A n c l w hn hc hl hr 13 (by omega)
  ·exact kf_one A n c l w hn hc hl hr 14 (by omega)
  ·exact kf_var A n c l w hn hc hl hr 15 (by omega)
  ·exact kf_if A n c l w hn hc hl hr
  ·exact kf_while A n c l w hn hc hl hr
  ·exact kf_block A n c l w hn hc hl hr
  ·exact kf_none A n c l w hn hc hl hr 19 (by omega)
  ·exact kf_method A n c l w hn hc hl hr
  ·exact kf_class A n c l w hn hc hl hr
  ·exact kf_file A n c l w hn hc hl hr
 ·exact kf_rest A n c l w hn hc hl hr kind h
def kindAt (ps : List PN) (j : Int) : Int := match ps[j.toNat]? with | some z => z.kind | none => 0
theorem kindAt_some {ps : List PN} {j : Nat} {z : PN} (h : ps[j]? = some z) : kindAt ps (j : Int) = z.kind := by unfold kindAt; rw [Int.toNat_natCast, h]
def callOk (ps : List PN) (kind : Int) (i : Nat) (kid : Int) : Bool :=
 match ps[kid.toNat]? with
 | some y => if y.kind = 5 then (match y.kids with | [] => false | j :: _ => inB j 0 ((ps.length : Int) - 1) && (!(kind == 10 && decide (0 < i)) || kindAt ps j == 1)) else true
 | none => false
section
variable {ps : List PN} {kind : Int} {i k : Nat} {y z : PN} {j : Int} {js : List Int}
theorem callOk_other (h : ps[k]? = some y) (h5 : ¬ y.kind = 5) : callOk ps kind i (k : Int) = true := by unfold callOk; rw [Int.toNat_natCast, h]; simp only; rw [if_neg h5]
theorem callOk_bare (h : ps[k]? = some y) (h5 : y.kind = 5) (hk : y.kids = []) : callOk ps kind i (k : Int) = false := by unfold callOk; rw [Int.toNat_natCast, h]; simp only; rw [if_pos h5, hk]
theorem callOk_out (h : ps[k]? = some y) (h5 : y.kind = 5) (hk : y.kids = j :: js) (hj : inB j 0 ((ps.length : Int) - 1) = false) : callOk ps kind i (k : Int) = false := by unfold callOk; rw [Int.toNat_natCast, h]; simp only; rw [if_pos h5, hk]; simp only; rw [hj, Bool.false_and]
theorem callOk_in (h : ps[k]? = some y) (h5 : y.kind = 5) (hk : y.kids = j :: js) (hj : inB j 0 ((ps.length : Int) - 1) = true) : callOk ps kind i (k : Int) = (!(kind == 10 && decide (0 < i)) || kindAt ps j == 1) := by unfold callOk; rw [Int.toNat_natCast, h]; simp only; rw [if_pos h5, hk]; simp only; rw [hj, Bool.true_and]
end
def allIB (p : Nat → Int → Bool) (l : List Int) : Bool := l.zipIdx.all (fun q => p q.2 q.1)
theorem allIB_no {p : Nat → Int → Bool} {l : List Int} {k : Nat} {x : Int} (hx : l[k]? = some x) (hp : p k x = false) : allIB p l = false := by
 unfold allIB
 rw [List.all_eq_false]
 exact ⟨(x, k), by rw [List.mem_zipIdx_iff_getElem?]; exact hx, by simp [hp]⟩
theorem allIB_yes {p : Nat → Int → Bool} {l : List Int} (h : ∀ j x, l[j]? = some x → p j x = true) : allIB p l = true := by
 unfold allIB
 rw [List.all_eq_true]
 rintro ⟨x, j⟩ hm
 rw [List.mem_zipIdx_iff_getElem?] at hm
 exact h j x hm
theorem allIB_at {p : Nat → Int → Bool} {l : List Int} {k : Nat} {x : Int} (h : allIB p l = true) (hx : l[k]? = some x) : p k x = true := by
 cases hp : p k x with
 | true => rfl
 | false => rw [allIB_no hx hp] at h; cases h
theorem allIB_congr {p q : Nat → Int → Bool} {l : List Int} (h : ∀ j x, l[j]? = some x → p j x = q j x) : allIB p l = allIB q l := by
 cases hq : allIB q l with
 | true => exact allIB_yes (fun j x hx => by rw [h j x hx]; exact allIB_at hq hx)
 | false =>
  cases hp : allIB p l with
  | false => rfl
  | true => rw [allIB_yes (fun j x hx => by rw [← h j x hx]; exact allIB_at hp hx)] at hq; cases hq
def AllI (p : Nat → Int → Bool) (l : List Int) (k : Nat) : Prop := ∀ j x, j < k → l[j]? = some x → p j x = true
theorem allI_zero (p : Nat → Int → Bool) (l : List Int) : AllI p l 0 := fun j x h => absurd h (by omega)
theorem allI_step {p : Nat → Int → Bool} {l : List Int} {k : Nat} {x : Int} (h : AllI p l k) (hx : l[k]? = some x) (hp : p k x = true) : AllI p l (k + 1) := by
 intro j y hj hy
 by_cases e : j = k
 ·subst e; rw [hx] at hy; obtain rfl := Option.some.inj hy; exact hp
 ·exact h j y (by omega) hy
theorem allI_all {p : Nat → Int → Bool} {l : List Int} {k : Nat} (h : AllI p l k) (hk : l.length ≤ k) : allIB p l = true :=
 allIB_yes (fun j x hx => h j x (by have := (List.getElem?_eq_some_iff.1 hx).1; omega) hx)
def callsB (ps : List PN) (kind : Int) (kids : List Int) : Bool := allIB (callOk ps kind) kids
theorem isNode_any (A : Option Addr) (n c : Nat) (j : Int) (w : World) : Calls prog 55 #[.slice A n c, .int .i64 j] w fun e w' => e = .returned (.bool (inB j 0 ((n : Int) - 1))) ∧ w = w' := by
 by_cases h0 : 0 ≤ j
 ·by_cases h1 : j < n
  ·rw [inB_yes h0 (by omega)]
   go_enter func55, ntmps55
   go_wp2
   go_ret
   exact ⟨rfl, rfl⟩
  ·rw [inB_hi (by omega)]
   go_enter func55, ntmps55
   go_wp2
   go_ret
   exact ⟨rfl, rfl⟩
 ·rw [inB_lo h0]
  go_enter func55, ntmps55
  go_wp2
  go_ret
  exact ⟨rfl, rfl⟩
theorem isNode_is {n : Nat} {j : Int} {v : Bool} (h : inB j 0 ((n : Int) - 1) = v) (A : Option Addr) (c : Nat) (w : World) : Calls prog 55 #[.slice A n c, .int .i64 j] w fun e w' => e = .returned (.bool v) ∧ w = w' := by rw [← h]; exact isNode_any A n c j w
theorem callsFit_any (A : Option Addr) (n c : Nat) (ps : List PN) (kind : Int) (text : ByteArray) (kids : List Int) (z : Bool) (A' : Option Addr) (m c' : Nat) (w : World) (hn : n ≤ 1048576) (hm : m ≤ 1048576) (hps : Nps w A n ps) (hml : Hid (kids.length = m)) (hk : Rd w 1 A' m (intCells kids)) (hin : Hid (∀ x ∈ kids, 0 ≤ x ∧ x < (n : Int))) (hb : Hid (∀ p ∈ ps, p.kids.length ≤ 1048576)) :
  Calls prog 180 #[.slice A n c, .agg #[.int .i64 kind, .string text, .slice A' m c', .bool z]] w fun e w' => e = .returned (.bool (callsB ps kind kids)) ∧ Below w.heap.size w w' := by
 have HP := hid hps
 have HK := hid hk
 have HL := hid hps.len
 have hK0 := Blk.new w 48 #[.int .i64 kind, .string text, .slice A' m c', .bool z]
 clear hps hk
 go_enter func180, ntmps180
 go_wp2
 go_loopw [11] (fun i wr => ∃ k : Nat, k ≤ m ∧ Hid (AllI (callOk ps kind) kids k) ∧ i = .int .i64 k ∧ Blk wr w.heap.size 48 #[.int .i64 kind, .string text, .slice A' m c', .bool z] ∧ Below w.heap.size w wr) (fun i _ => m - (intOf i).toNat)
 case atStart => exact ⟨0, Nat.zero_le _, allI_zero _ kids, rfl, hK0, grow_⟩
 case round =>
  clear hK0
  obtain ⟨k, hkm, HA, rfl, hK, hbw⟩ := hrel
  have k0 := hK.cell 0
  simp only [List.getElem?_toArray, List.getElem?_cons_zero] at k0
  have kz := hK.lt
  by_cases hlt : k < m
  ·obtain ⟨x, hd⟩ : ∃ d, kids[k]? = some d := ⟨_, gE (by have := hml.out; omega)⟩
   have hx := hin.out x (List.mem_of_getElem? hd)
   obtain ⟨q, rfl⟩ := Int.eq_ofNat_of_zero_le hx.1
   have hqn : q < n := by omega
   have g0 : (0 : Int) ≤ (q : Int) := by omega
   have g1 : (q : Int) < n := by omega
   obtain ⟨b, off, rfl, hblt, cx⟩ := int_at (HK.out.below hbw) hlt hd
   obtain ⟨y, hy⟩ := HP.out.get hqn
   obtain ⟨b2, off2, A2, c2, rfl, hblt2, y0, y1, y2, y3, hyr⟩ := (HP.out.below hbw).at_ hqn hy
   have hyb := hb.out y (List.mem_of_getElem? hy)
   clear hx
   by_cases h5 : y.kind = 5
   ·have e5 : (y.kind == 5) = true := by rw [beq_iff_eq]; exact h5
    cases hyk : y.kids with
    | nil =>
     have hno := hid (allIB_no (p := callOk ps kind) hd (callOk_bare hy h5 hyk))
     rw [hyk] at y2
     clear HA hd hy hyr
     go_wp2
     go_ret
     exact ⟨ret_bool (by unfold callsB; exact hno.out.symm), grow_⟩
    | cons j js =>
     have hyz : 0 < y.kids.length := by rw [hyk]; simp
     have hj0 : y.kids[0]? = some j := by rw [hyk]; rfl
     obtain ⟨b3, off3, rfl, hblt3, cj⟩ := int_at hyr hyz hj0
     simp only [Nat.add_zero] at cj
     have i1 : ((y.kids.length : Int) == 0) = false := by rw [beq_eq_false_iff_ne]; omega
     have i2 : (0 : Int) < y.kids.length := by omega
     have HN := hid (fun (v : Bool) (h : inB j 0 ((n : Int) - 1) = v) c W => isNode_is (n := n) h (some ⟨b2, off2, none⟩) c W)
     cases hjn : inB j 0 ((n : Int) - 1) with
     | false =>
      have hno := hid (allIB_no (p := callOk ps kind) hd (callOk_out (kind := kind) (i := k) hy h5 hyk (by rw [HL.out]; exact hjn)))
      have HN2 := hid (HN.out _ hjn)
      clear HA hd hy hyr HN hjn hyk
      go_wp2_with (go_at_call 55; refine (HN2.out _ _).mono ?_; rintro e w1 ⟨rfl, rfl⟩)
      go_ret
      exact ⟨ret_bool (by unfold callsB; exact hno.out.symm), grow_⟩
     | true =>
      have hok := callOk_in (kind := kind) (i := k) hy h5 hyk (by rw [HL.out]; exact hjn)
      have HN2 := hid (HN.out _ hjn)
      have hjb := of_decide_eq_true hjn
      obtain ⟨r, rfl⟩ := Int.eq_ofNat_of_zero_le hjb.1
      have hrn : r < n := by omega
      have g2 : (0 : Int) ≤ (r : Int) := by omega
      have g3 : (r : Int) < n := by omega
      obtain ⟨zz, hzz⟩ := HP.out.get hrn
      obtain ⟨b4, off4, A4, c4, e4, hblt4, z0, z1, z2, z3, hzr⟩ := (HP.out.below hbw).at_ hrn hzz
      injection e4 with e4
      injection e4 with e41 e42
      subst e41; subst e42
      rw [kindAt_some hzz] at hok
      clear hzz hzr z1 z2 z3 hjb HN hyr hjn
      by_cases hc10 : kind = 10 ∧ 0 < k
      ·obtain ⟨hk10, hkpos⟩ := hc10
       subst hk10
       have ik : (0 : Int) < (k : Int) := by omega
       rw [show ((10 : Int) == 10) = true from rfl, decide_eq_true hkpos] at hok
       cases hz1 : (zz.kind == 1) with
       | true =>
        have hA2 := hid (allI_step (p := callOk ps 10) HA.out hd (by rw [hok, hz1]; rfl))
        clear HA hd hy hok hyk
        have hz1' : (zz.kind != 1) = false := by unfold bne; rw [hz1]; rfl
        go_wp2_with (go_at_call 55; refine (HN2.out _ _).mono ?_; rintro e w1 ⟨rfl, rfl⟩)
        go_roundw
        case rel => exact ⟨k + 1, by omega, hA2, by go_num, hK.alloc _, grow_⟩
        case measure => simp [intOf]; omega
       | false =>
        have hno := hid (allIB_no (p := callOk ps 10) hd (by rw [hok, hz1]; rfl))
        clear HA hd hy hok hyk
        have hz1' : (zz.kind != 1) = true := by unfold bne; rw [hz1]; rfl
        go_wp2_with (go_at_call 55; refine (HN2.out _ _).mono ?_; rintro e w1 ⟨rfl, rfl⟩)
        go_ret
        exact ⟨ret_bool (by unfold callsB; exact hno.out.symm), grow_⟩
      ·have hA2 := hid (allI_step (p := callOk ps kind) HA.out hd (by
        rw [hok]
        by_cases h1 : kind = 10
        ·rw [decide_eq_false (show ¬ 0 < k from fun h => hc10 ⟨h1, h⟩), Bool.and_false]; rfl
        ·rw [show (kind == 10) = false by rw [beq_eq_false_iff_ne]; exact h1]; rfl))
       clear HA hd hy hok hyk
       by_cases h10 : kind = 10
       ·subst h10
        have ik : ¬ (0 : Int) < (k : Int) := by omega
        go_wp2_with (go_at_call 55; refine (HN2.out _ _).mono ?_; rintro e w1 ⟨rfl, rfl⟩)
        go_roundw
        case rel => exact ⟨k + 1, by omega, hA2, by go_num, hK.alloc _, grow_⟩
        case measure => simp [intOf]; omega
       ·have i10 : (kind == 10) = false := by rw [beq_eq_false_iff_ne]; exact h10
        go_wp2_with (go_at_call 55; refine (HN2.out _ _).mono ?_; rintro e w1 ⟨rfl, rfl⟩)
        go_roundw
        case rel => exact ⟨k + 1, by omega, hA2, by go_num, hK.alloc _, grow_⟩
        case measure => simp [intOf]; omega
   ·have e5 : (y.kind == 5) = false := by rw [beq_eq_false_iff_ne]; exact h5
    have e5' : (y.kind != 5) = true := by unfold bne; rw [e5]; rfl
    have hA2 := hid (allI_step (p := callOk ps kind) HA.out hd (callOk_other hy h5))
    clear HA hd hy hyr
    go_wp2
    go_roundw
    case rel => exact ⟨k + 1, by omega, hA2, by go_num, hK.alloc _, grow_⟩
    case measure => simp [intOf]; omega
  ·have hno := hid (allI_all HA.out (by have := hml.out; omega))
   clear HA
   go_wp2
   go_ret
   exact ⟨ret_bool (by unfold callsB; exact hno.out.symm), grow_⟩
end Go.Proofs.YtgaajcbklkchjaaGreatDoor

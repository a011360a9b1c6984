
/-
  Contracts: kinds of nodes (isValue, isStep, isMember ..), and impl.all, lastIs at each function that they are handed. Written by program (gen_shapea.py).
-/
import Derived.Test.YtpfanhheodiamaaGreatDoorSignH
import Derived.Test.YtpfanhheodiamaaGreatDoorNodeS
namespace Go.Proofs.YtpfanhheodiamaaGreatDoor
open Go.RowKit
set_option linter.unusedVariables false
set_option linter.unusedSimpArgs false

def valueK (k : Int) : Bool := inB k 1 11
def stepK (k : Int) : Bool := inB k 12 17
def memberK (k : Int) : Bool := k == 12 || k == 20 || k == 19
def stmtK (k : Int) : Bool := stepK k || k == 19
def topK (k : Int) : Bool := memberK k || k == 21
def isK (j k : Int) : Bool := k == j
theorem inRange_is {a b c : Int} {v : Bool} (h : inB a b c = v) (w : World) : Calls Tryz.prog 30 #[.int .i64 a, .int .i64 b, .int .i64 c] w fun e w' => e = .returned (.bool v) ∧ w = w' := by rw [← h]; exact inRange_b a b c w
/-- The first k of a list are as wanted. -/
def AllL (p : Int → Bool) (l : List Int) (k : Nat) : Prop := (l.take k).all p = true
section
variable {p : Int → Bool} {l : List Int} {k : Nat} {x : Int}
theorem allL_zero (p : Int → Bool) (l : List Int) : AllL p l 0 := by simp [AllL]
theorem allL_step (h : AllL p l k) (hx : l[k]? = some x) (hp : p x = true) : AllL p l (k + 1) := by
  unfold AllL at h ⊢
  rw [List.take_add_one, hx, List.all_append, h]; simp [hp]
theorem allL_no (hx : l[k]? = some x) (hp : p x = false) : l.all p = false := by
  rw [List.all_eq_false]
  exact ⟨x, List.mem_of_getElem? hx, by simp [hp]⟩
theorem allL_all (h : AllL p l k) (hk : l.length ≤ k) : l.all p = true := by
  unfold AllL at h; rwa [List.take_of_length_le hk] at h
end
set_option maxHeartbeats 400000 in
theorem isValue_any (k : Int) (w : World) : Calls Tryz.prog 76 #[.int .i64 k] w fun e w' => e = .returned (.bool (valueK k)) ∧ w = w' := by
  have H1 := Lib.hid (fun W => inRange_b k 1 11 W)
  unfold valueK
  generalize inB k 1 11 = u at H1 ⊢
  go_enter Tryz.func76, Tryz.ntmps76
  go_wp2_with (go_at_call 30; refine (H1.out _).mono ?_; rintro e w1 ⟨rfl, rfl⟩)
  go_ret
  exact ⟨rfl, rfl⟩
set_option maxHeartbeats 400000 in
theorem isStep_any (k : Int) (w : World) : Calls Tryz.prog 107 #[.int .i64 k] w fun e w' => e = .returned (.bool (stepK k)) ∧ w = w' := by
  have H1 := Lib.hid (fun W => inRange_b k 12 17 W)
  unfold stepK
  generalize inB k 12 17 = u at H1 ⊢
  go_enter Tryz.func107, Tryz.ntmps107
  go_wp2_with (go_at_call 30; refine (H1.out _).mono ?_; rintro e w1 ⟨rfl, rfl⟩)
  go_ret
  exact ⟨rfl, rfl⟩
set_option maxHeartbeats 400000 in
theorem specValue_any (k : Int) (w : World) : Calls Tryz.prog 173 #[.int .i64 k] w fun e w' => e = .returned (.bool (valueK k)) ∧ w = w' := by
  have H1 := Lib.hid (fun W => l01In_b k 1 11 W)
  unfold valueK
  generalize inB k 1 11 = u at H1 ⊢
  go_enter Tryz.func173, Tryz.ntmps173
  go_wp2_with (go_at_call 20; refine (H1.out _).mono ?_; rintro e w1 ⟨rfl, rfl⟩)
  go_ret
  exact ⟨rfl, rfl⟩
set_option maxHeartbeats 400000 in
theorem isMember_any (k : Int) (w : World) : Calls Tryz.prog 108 #[.int .i64 k] w fun e w' => e = .returned (.bool (memberK k)) ∧ w = w' := by
  cases h1 : (k == 12) with
  | true =>
    have hr : memberK k = true := by unfold memberK; rw [h1]; rfl
    rw [hr]; clear hr
    go_enter Tryz.func108, Tryz.ntmps108
    go_wp2
    go_ret
    exact ⟨rfl, rfl⟩
  | false =>
    cases h2 : (k == 20) with
    | true =>
      have hr : memberK k = true := by unfold memberK; rw [h1, h2]; rfl
      rw [hr]; clear hr
      go_enter Tryz.func108, Tryz.ntmps108
      go_wp2
      go_ret
      exact ⟨rfl, rfl⟩
    | false =>
      have hr : memberK k = (k == 19) := by unfold memberK; rw [h1, h2]; rfl
      rw [hr]; clear hr
      go_enter Tryz.func108, Tryz.ntmps108
      go_wp2
      go_ret
      exact ⟨rfl, rfl⟩
set_option maxHeartbeats 400000 in
theorem isBlock_any (k : Int) (w : World) : Calls Tryz.prog 150 #[.int .i64 k] w fun e w' => e = .returned (.bool (isK 18 k)) ∧ w = w' := by
  go_enter Tryz.func150, Tryz.ntmps150
  go_wp2
  go_ret
  refine ⟨ret_bool ?_, rfl⟩
  rfl
set_option maxHeartbeats 400000 in
theorem isCall_any (k : Int) (w : World) : Calls Tryz.prog 149 #[.int .i64 k] w fun e w' => e = .returned (.bool (isK 5 k)) ∧ w = w' := by
  go_enter Tryz.func149, Tryz.ntmps149
  go_wp2
  go_ret
  refine ⟨ret_bool ?_, rfl⟩
  rfl
set_option maxHeartbeats 400000 in
theorem isNameK_any (k : Int) (w : World) : Calls Tryz.prog 175 #[.int .i64 k] w fun e w' => e = .returned (.bool (isK 1 k)) ∧ w = w' := by
  go_enter Tryz.func175, Tryz.ntmps175
  go_wp2
  go_ret
  refine ⟨ret_bool ?_, rfl⟩
  rfl
set_option maxHeartbeats 400000 in
theorem isStmt_any (k : Int) (w : World) : Calls Tryz.prog 151 #[.int .i64 k] w fun e w' => e = .returned (.bool (stmtK k)) ∧ w = w' := by
  have H1 := Lib.hid (fun (b : Bool) (hb : stepK k = b) (W : World) => show Calls Tryz.prog 107 #[.int .i64 k] W fun e w' => e = .returned (.bool b) ∧ W = w' by rw [← hb]; exact isStep_any k W)
  cases hb : stepK k with
  | true =>
    have H2 := Lib.hid (H1.out _ hb)
    have hr : stmtK k = true := by unfold stmtK; first | (rw [hb]; rfl) | (unfold stepK; rw [hb]; rfl)
    rw [hr]
    clear H1 hb hr
    go_enter Tryz.func151, Tryz.ntmps151
    go_wp2_with (go_at_call 107; refine (H2.out _).mono ?_; rintro e w1 ⟨rfl, rfl⟩)
    go_ret
    exact ⟨rfl, rfl⟩
  | false =>
    have H2 := Lib.hid (H1.out _ hb)
    have hr : stmtK k = (k == 19) := by unfold stmtK; first | (rw [hb]; rfl) | (unfold stepK; rw [hb]; rfl)
    rw [hr]
    clear H1 hb hr
    go_enter Tryz.func151, Tryz.ntmps151
    go_wp2_with (go_at_call 107; refine (H2.out _).mono ?_; rintro e w1 ⟨rfl, rfl⟩)
    go_ret
    exact ⟨rfl, rfl⟩
set_option maxHeartbeats 400000 in
theorem isTop_any (k : Int) (w : World) : Calls Tryz.prog 152 #[.int .i64 k] w fun e w' => e = .returned (.bool (topK k)) ∧ w = w' := by
  have H1 := Lib.hid (fun (b : Bool) (hb : memberK k = b) (W : World) => show Calls Tryz.prog 108 #[.int .i64 k] W fun e w' => e = .returned (.bool b) ∧ W = w' by rw [← hb]; exact isMember_any k W)
  cases hb : memberK k with
  | true =>
    have H2 := Lib.hid (H1.out _ hb)
    have hr : topK k = true := by unfold topK; first | (rw [hb]; rfl) | (unfold stepK; rw [hb]; rfl)
    rw [hr]
    clear H1 hb hr
    go_enter Tryz.func152, Tryz.ntmps152
    go_wp2_with (go_at_call 108; refine (H2.out _).mono ?_; rintro e w1 ⟨rfl, rfl⟩)
    go_ret
    exact ⟨rfl, rfl⟩
  | false =>
    have H2 := Lib.hid (H1.out _ hb)
    have hr : topK k = (k == 21) := by unfold topK; first | (rw [hb]; rfl) | (unfold stepK; rw [hb]; rfl)
    rw [hr]
    clear H1 hb hr
    go_enter Tryz.func152, Tryz.ntmps152
    go_wp2_with (go_at_call 108; refine (H2.out _).mono ?_; rintro e w1 ⟨rfl, rfl⟩)
    go_ret
    exact ⟨rfl, rfl⟩
set_option maxHeartbeats 400000 in
theorem specStmt_any (k : Int) (w : World) : Calls Tryz.prog 142 #[.int .i64 k] w fun e w' => e = .returned (.bool (stmtK k)) ∧ w = w' := by
  have H1 := Lib.hid (fun (b : Bool) (hb : inB k 12 17 = b) (W : World) => show Calls Tryz.prog 20 #[.int .i64 k, .int .i64 12, .int .i64 17] W fun e w' => e = .returned (.bool b) ∧ W = w' by rw [← hb]; exact l01In_b k 12 17 W)
  cases hb : inB k 12 17 with
  | true =>
    have H2 := Lib.hid (H1.out _ hb)
    have hr : stmtK k = true := by unfold stmtK; first | (rw [hb]; rfl) | (unfold stepK; rw [hb]; rfl)
    rw [hr]
    clear H1 hb hr
    go_enter Tryz.func142, Tryz.ntmps142
    go_wp2_with (go_at_call 20; refine (H2.out _).mono ?_; rintro e w1 ⟨rfl, rfl⟩)
    go_ret
    exact ⟨rfl, rfl⟩
  | false =>
    have H2 := Lib.hid (H1.out _ hb)
    have hr : stmtK k = (k == 19) := by unfold stmtK; first | (rw [hb]; rfl) | (unfold stepK; rw [hb]; rfl)
    rw [hr]
    clear H1 hb hr
    go_enter Tryz.func142, Tryz.ntmps142
    go_wp2_with (go_at_call 20; refine (H2.out _).mono ?_; rintro e w1 ⟨rfl, rfl⟩)
    go_ret
    exact ⟨rfl, rfl⟩
set_option maxHeartbeats 800000 in
theorem all_value (A : Option Addr) (n c : Nat) (l : List Int) (w : World) (hn : n ≤ 4194304) (hl : Hid (l.length = n)) (hr : Rd w 1 A n (intCells l)) :
    Calls Tryz.prog 147 #[.slice A n c, .func (.func 76) #[] #[]] w fun e w' => e = .returned (.bool (l.all (valueK))) ∧ Below w.heap.size w w' := by
  apply still_below
  have HR := Lib.hid hr
  clear hr
  go_enter Tryz.func147, Tryz.ntmps147
  go_wp2
  go_loop [9] (fun i => ∃ k : Nat, k ≤ n ∧ AllL (valueK) l k ∧ i = .int .i64 k) (fun i => n - (intOf i).toNat)
  case atStart => exact ⟨0, Nat.zero_le _, allL_zero _ l, rfl⟩
  case round =>
    obtain ⟨k, hk, ha, rfl⟩ := hrel
    by_cases hkn : k < n
    · obtain ⟨x, hd⟩ : ∃ d, l[k]? = some d := ⟨_, List.getElem?_eq_getElem (by have := hl.out; omega)⟩
      obtain ⟨b, off, rfl, hblt, c0⟩ := int_at HR.out hkn hd
      have HC := Lib.hid (fun (v : Bool) (hb : valueK x = v) (W : World) => show Calls Tryz.prog 76 #[.int .i64 x] W fun e w' => e = .returned (.bool v) ∧ W = w' by rw [← hb]; exact isValue_any _ W)
      cases hp : valueK x with
      | false =>
        have hno := Lib.hid (allL_no hd hp)
        have HC2 := Lib.hid (HC.out _ hp)
        clear HC hp hd ha
        go_wp2_with (go_at_call 76; refine (HC2.out _).mono ?_; rintro e w1 ⟨rfl, rfl⟩)
        go_ret
        exact ⟨ret_bool hno.out.symm, rfl⟩
      | true =>
        have hn2 := allL_step ha hd hp
        have HC2 := Lib.hid (HC.out _ hp)
        clear HC hp hd ha
        go_wp2_with (go_at_call 76; refine (HC2.out _).mono ?_; rintro e w1 ⟨rfl, rfl⟩)
        go_round
        case rel => exact ⟨k + 1, by omega, hn2, by go_num⟩
        case measure => simp [intOf]; omega
    · have hno := Lib.hid (allL_all ha (by have := hl.out; omega))
      clear ha
      go_wp2
      go_ret
      exact ⟨ret_bool hno.out.symm, rfl⟩
set_option maxHeartbeats 800000 in
theorem all_call (A : Option Addr) (n c : Nat) (l : List Int) (w : World) (hn : n ≤ 4194304) (hl : Hid (l.length = n)) (hr : Rd w 1 A n (intCells l)) :
    Calls Tryz.prog 147 #[.slice A n c, .func (.func 149) #[] #[]] w fun e w' => e = .returned (.bool (l.all (isK 5))) ∧ Below w.heap.size w w' := by
  apply still_below
  have HR := Lib.hid hr
  clear hr
  go_enter Tryz.func147, Tryz.ntmps147
  go_wp2
  go_loop [9] (fun i => ∃ k : Nat, k ≤ n ∧ AllL (isK 5) l k ∧ i = .int .i64 k) (fun i => n - (intOf i).toNat)
  case atStart => exact ⟨0, Nat.zero_le _, allL_zero _ l, rfl⟩
  case round =>
    obtain ⟨k, hk, ha, rfl⟩ := hrel
    by_cases hkn : k < n
    · obtain ⟨x, hd⟩ : ∃ d, l[k]? = some d := ⟨_, List.getElem?_eq_getElem (by have := hl.out; omega)⟩
      obtain ⟨b, off, rfl, hblt, c0⟩ := int_at HR.out hkn hd
      have HC := Lib.hid (fun (v : Bool) (hb : isK 5 x = v) (W : World) => show Calls Tryz.prog 149 #[.int .i64 x] W fun e w' => e = .returned (.bool v) ∧ W = w' by rw [← hb]; exact isCall_any _ W)
      cases hp : isK 5 x with
      | false =>
        have hno := Lib.hid (allL_no hd hp)
        have HC2 := Lib.hid (HC.out _ hp)
        clear HC hp hd ha
        go_wp2_with (go_at_call 149; refine (HC2.out _).mono ?_; rintro e w1 ⟨rfl, rfl⟩)
        go_ret
        exact ⟨ret_bool hno.out.symm, rfl⟩
      | true =>
        have hn2 := allL_step ha hd hp
        have HC2 := Lib.hid (HC.out _ hp)
        clear HC hp hd ha
        go_wp2_with (go_at_call 149; refine (HC2.out _).mono ?_; rintro e w1 ⟨rfl, rfl⟩)
        go_round
        case rel => exact ⟨k + 1, by omega, hn2, by go_num⟩
        case measure => simp [intOf]; omega
    · have hno := Lib.hid (allL_all ha (by have := hl.out; omega))
      clear ha
      go_wp2
      go_ret
      exact ⟨ret_bool hno.out.symm, rfl⟩
set_option maxHeartbeats 800000 in
theorem all_block (A : Option Addr) (n c : Nat) (l : List Int) (w : World) (hn : n ≤ 4194304) (hl : Hid (l.length = n)) (hr : Rd w 1 A n (intCells l)) :
    Calls Tryz.prog 147 #[.slice A n c, .func (.func 150) #[] #[]] w fun e w' => e = .returned (.bool (l.all (isK 18))) ∧ Below w.heap.size w w' := by
  apply still_below
  have HR := Lib.hid hr
  clear hr
  go_enter Tryz.func147, Tryz.ntmps147
  go_wp2
  go_loop [9] (fun i => ∃ k : Nat, k ≤ n ∧ AllL (isK 18) l k ∧ i = .int .i64 k) (fun i => n - (intOf i).toNat)
  case atStart => exact ⟨0, Nat.zero_le _, allL_zero _ l, rfl⟩
  case round =>
    obtain ⟨k, hk, ha, rfl⟩ := hrel
    by_cases hkn : k < n
    · obtain ⟨x, hd⟩ : ∃ d, l[k]? = some d := ⟨_, List.getElem?_eq_getElem (by have := hl.out; omega)⟩
      obtain ⟨b, off, rfl, hblt, c0⟩ := int_at HR.out hkn hd
      have HC := Lib.hid (fun (v : Bool) (hb : isK 18 x = v) (W : World) => show Calls Tryz.prog 150 #[.int .i64 x] W fun e w' => e = .returned (.bool v) ∧ W = w' by rw [← hb]; exact isBlock_any _ W)
      cases hp : isK 18 x with
      | false =>
        have hno := Lib.hid (allL_no hd hp)
        have HC2 := Lib.hid (HC.out _ hp)
        clear HC hp hd ha
        go_wp2_with (go_at_call 150; refine (HC2.out _).mono ?_; rintro e w1 ⟨rfl, rfl⟩)
        go_ret
        exact ⟨ret_bool hno.out.symm, rfl⟩
      | true =>
        have hn2 := allL_step ha hd hp
        have HC2 := Lib.hid (HC.out _ hp)
        clear HC hp hd ha
        go_wp2_with (go_at_call 150; refine (HC2.out _).mono ?_; rintro e w1 ⟨rfl, rfl⟩)
        go_round
        case rel => exact ⟨k + 1, by omega, hn2, by go_num⟩
        case measure => simp [intOf]; omega
    · have hno := Lib.hid (allL_all ha (by have := hl.out; omega))
      clear ha
      go_wp2
      go_ret
      exact ⟨ret_bool hno.out.symm, rfl⟩
set_option maxHeartbeats 800000 in
theorem all_stmt (A : Option Addr) (n c : Nat) (l : List Int) (w : World) (hn : n ≤ 4194304) (hl : Hid (l.length = n)) (hr : Rd w 1 A n (intCells l)) :
    Calls Tryz.prog 147 #[.slice A n c, .func (.func 151) #[] #[]] w fun e w' => e = .returned (.bool (l.all (stmtK))) ∧ Below w.heap.size w w' := by
  apply still_below
  have HR := Lib.hid hr
  clear hr
  go_enter Tryz.func147, Tryz.ntmps147
  go_wp2
  go_loop [9] (fun i => ∃ k : Nat, k ≤ n ∧ AllL (stmtK) l k ∧ i = .int .i64 k) (fun i => n - (intOf i).toNat)
  case atStart => exact ⟨0, Nat.zero_le _, allL_zero _ l, rfl⟩
  case round =>
    obtain ⟨k, hk, ha, rfl⟩ := hrel
    by_cases hkn : k < n
    · obtain ⟨x, hd⟩ : ∃ d, l[k]? = some d := ⟨_, List.getElem?_eq_getElem (by have := hl.out; omega)⟩
      obtain ⟨b, off, rfl, hblt, c0⟩ := int_at HR.out hkn hd
      have HC := Lib.hid (fun (v : Bool) (hb : stmtK x = v) (W : World) => show Calls Tryz.prog 151 #[.int .i64 x] W fun e w' => e = .returned (.bool v) ∧ W = w' by rw [← hb]; exact isStmt_any _ W)
      cases hp : stmtK x with
      | false =>
        have hno := Lib.hid (allL_no hd hp)
        have HC2 := Lib.hid (HC.out _ hp)
        clear HC hp hd ha
        go_wp2_with (go_at_call 151; refine (HC2.out _).mono ?_; rintro e w1 ⟨rfl, rfl⟩)
        go_ret
        exact ⟨ret_bool hno.out.symm, rfl⟩
      | true =>
        have hn2 := allL_step ha hd hp
        have HC2 := Lib.hid (HC.out _ hp)
        clear HC hp hd ha
        go_wp2_with (go_at_call 151; refine (HC2.out _).mono ?_; rintro e w1 ⟨rfl, rfl⟩)
        go_round
        case rel => exact ⟨k + 1, by omega, hn2, by go_num⟩
        case measure => simp [intOf]; omega
    · have hno := Lib.hid (allL_all ha (by have := hl.out; omega))
      clear ha
      go_wp2
      go_ret
      exact ⟨ret_bool hno.out.symm, rfl⟩
set_option maxHeartbeats 800000 in
theorem all_member (A : Option Addr) (n c : Nat) (l : List Int) (w : World) (hn : n ≤ 4194304) (hl : Hid (l.length = n)) (hr : Rd w 1 A n (intCells l)) :
    Calls Tryz.prog 147 #[.slice A n c, .func (.func 108) #[] #[]] w fun e w' => e = .returned (.bool (l.all (memberK))) ∧ Below w.heap.size w w' := by
  apply still_below
  have HR := Lib.hid hr
  clear hr
  go_enter Tryz.func147, Tryz.ntmps147
  go_wp2
  go_loop [9] (fun i => ∃ k : Nat, k ≤ n ∧ AllL (memberK) l k ∧ i = .int .i64 k) (fun i => n - (intOf i).toNat)
  case atStart => exact ⟨0, Nat.zero_le _, allL_zero _ l, rfl⟩
  case round =>
    obtain ⟨k, hk, ha, rfl⟩ := hrel
    by_cases hkn : k < n
    · obtain ⟨x, hd⟩ : ∃ d, l[k]? = some d := ⟨_, List.getElem?_eq_getElem (by have := hl.out; omega)⟩
      obtain ⟨b, off, rfl, hblt, c0⟩ := int_at HR.out hkn hd
      have HC := Lib.hid (fun (v : Bool) (hb : memberK x = v) (W : World) => show Calls Tryz.prog 108 #[.int .i64 x] W fun e w' => e = .returned (.bool v) ∧ W = w' by rw [← hb]; exact isMember_any _ W)
      cases hp : memberK x with
      | false =>
        have hno := Lib.hid (allL_no hd hp)
        have HC2 := Lib.hid (HC.out _ hp)
        clear HC hp hd ha
        go_wp2_with (go_at_call 108; refine (HC2.out _).mono ?_; rintro e w1 ⟨rfl, rfl⟩)
        go_ret
        exact ⟨ret_bool hno.out.symm, rfl⟩
      | true =>
        have hn2 := allL_step ha hd hp
        have HC2 := Lib.hid (HC.out _ hp)
        clear HC hp hd ha
        go_wp2_with (go_at_call 108; refine (HC2.out _).mono ?_; rintro e w1 ⟨rfl, rfl⟩)
        go_round
        case rel => exact ⟨k + 1, by omega, hn2, by go_num⟩
        case measure => simp [intOf]; omega
    · have hno := Lib.hid (allL_all ha (by have := hl.out; omega))
      clear ha
      go_wp2
      go_ret
      exact ⟨ret_bool hno.out.symm, rfl⟩
set_option maxHeartbeats 800000 in
theorem all_top (A : Option Addr) (n c : Nat) (l : List Int) (w : World) (hn : n ≤ 4194304) (hl : Hid (l.length = n)) (hr : Rd w 1 A n (intCells l)) :
    Calls Tryz.prog 147 #[.slice A n c, .func (.func 152) #[] #[]] w fun e w' => e = .returned (.bool (l.all (topK))) ∧ Below w.heap.size w w' := by
  apply still_below
  have HR := Lib.hid hr
  clear hr
  go_enter Tryz.func147, Tryz.ntmps147
  go_wp2
  go_loop [9] (fun i => ∃ k : Nat, k ≤ n ∧ AllL (topK) l k ∧ i = .int .i64 k) (fun i => n - (intOf i).toNat)
  case atStart => exact ⟨0, Nat.zero_le _, allL_zero _ l, rfl⟩
  case round =>
    obtain ⟨k, hk, ha, rfl⟩ := hrel
    by_cases hkn : k < n
    · obtain ⟨x, hd⟩ : ∃ d, l[k]? = some d := ⟨_, List.getElem?_eq_getElem (by have := hl.out; omega)⟩
      obtain ⟨b, off, rfl, hblt, c0⟩ := int_at HR.out hkn hd
      have HC := Lib.hid (fun (v : Bool) (hb : topK x = v) (W : World) => show Calls Tryz.prog 152 #[.int .i64 x] W fun e w' => e = .returned (.bool v) ∧ W = w' by rw [← hb]; exact isTop_any _ W)
      cases hp : topK x with
      | false =>
        have hno := Lib.hid (allL_no hd hp)
        have HC2 := Lib.hid (HC.out _ hp)
        clear HC hp hd ha
        go_wp2_with (go_at_call 152; refine (HC2.out _).mono ?_; rintro e w1 ⟨rfl, rfl⟩)
        go_ret
        exact ⟨ret_bool hno.out.symm, rfl⟩
      | true =>
        have hn2 := allL_step ha hd hp
        have HC2 := Lib.hid (HC.out _ hp)
        clear HC hp hd ha
        go_wp2_with (go_at_call 152; refine (HC2.out _).mono ?_; rintro e w1 ⟨rfl, rfl⟩)
        go_round
        case rel => exact ⟨k + 1, by omega, hn2, by go_num⟩
        case measure => simp [intOf]; omega
    · have hno := Lib.hid (allL_all ha (by have := hl.out; omega))
      clear ha
      go_wp2
      go_ret
      exact ⟨ret_bool hno.out.symm, rfl⟩
set_option maxHeartbeats 800000 in
theorem all_name (A : Option Addr) (n c : Nat) (l : List Int) (w : World) (hn : n ≤ 4194304) (hl : Hid (l.length = n)) (hr : Rd w 1 A n (intCells l)) :
    Calls Tryz.prog 147 #[.slice A n c, .func (.func 175) #[] #[]] w fun e w' => e = .returned (.bool (l.all (isK 1))) ∧ Below w.heap.size w w' := by
  apply still_below
  have HR := Lib.hid hr
  clear hr
  go_enter Tryz.func147, Tryz.ntmps147
  go_wp2
  go_loop [9] (fun i => ∃ k : Nat, k ≤ n ∧ AllL (isK 1) l k ∧ i = .int .i64 k) (fun i => n - (intOf i).toNat)
  case atStart => exact ⟨0, Nat.zero_le _, allL_zero _ l, rfl⟩
  case round =>
    obtain ⟨k, hk, ha, rfl⟩ := hrel
    by_cases hkn : k < n
    · obtain ⟨x, hd⟩ : ∃ d, l[k]? = some d := ⟨_, List.getElem?_eq_getElem (by have := hl.out; omega)⟩
      obtain ⟨b, off, rfl, hblt, c0⟩ := int_at HR.out hkn hd
      have HC := Lib.hid (fun (v : Bool) (hb : isK 1 x = v) (W : World) => show Calls Tryz.prog 175 #[.int .i64 x] W fun e w' => e = .returned (.bool v) ∧ W = w' by rw [← hb]; exact isNameK_any _ W)
      cases hp : isK 1 x with
      | false =>
        have hno := Lib.hid (allL_no hd hp)
        have HC2 := Lib.hid (HC.out _ hp)
        clear HC hp hd ha
        go_wp2_with (go_at_call 175; refine (HC2.out _).mono ?_; rintro e w1 ⟨rfl, rfl⟩)
        go_ret
        exact ⟨ret_bool hno.out.symm, rfl⟩
      | true =>
        have hn2 := allL_step ha hd hp
        have HC2 := Lib.hid (HC.out _ hp)
        clear HC hp hd ha
        go_wp2_with (go_at_call 175; refine (HC2.out _).mono ?_; rintro e w1 ⟨rfl, rfl⟩)
        go_round
        case rel => exact ⟨k + 1, by omega, hn2, by go_num⟩
        case measure => simp [intOf]; omega
    · have hno := Lib.hid (allL_all ha (by have := hl.out; omega))
      clear ha
      go_wp2
      go_ret
      exact ⟨ret_bool hno.out.symm, rfl⟩
end Go.Proofs.YtpfanhheodiamaaGreatDoor

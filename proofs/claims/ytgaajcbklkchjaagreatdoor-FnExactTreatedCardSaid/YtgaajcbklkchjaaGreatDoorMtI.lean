/-
  Put together by program (shake.py): WantA, ConA, ConB, RfB, RfC.
-/
import Derived.Test.YtgaajcbklkchjaaGreatDoorMtH
import Derived.Outline
import Derived.Deep.DeepCutAuto
import Derived.Test.YtgaajcbklkchjaaGreatDoorMtF
set_option maxRecDepth 100000
set_option maxHeartbeats 25600000
set_option linter.unusedVariables false
set_option linter.unusedSimpArgs false
open Go.Lib (hid)
open Go.Proofs.Tryz
namespace Go.Proofs.YtgaajcbklkchjaaGreatDoor
open Go.RowKit
theorem chainLevel_any (t : ByteArray) (w : World) : Calls prog 121 #[.string t] w fun e w' => e = .returned (.int .i64 (chainLv t)) ∧ w = w' := by
 unfold chainLv isT
 cases h1 : (t.toList == [124, 124]) with
 | true =>
  rw [if_pos rfl]
  go_enter func121, ntmps121
  go_wp2
  go_ret
  exact ⟨rfl, rfl⟩
 | false =>
  rw [if_neg (by decide)]
  cases h2 : (t.toList == [38, 38]) with
  | true =>
   rw [if_pos rfl]
   go_enter func121, ntmps121
   go_wp2
   go_ret
   exact ⟨rfl, rfl⟩
  | false =>
   rw [if_neg (by decide)]
   cases h3 : (t.toList == [61, 61]) with
   | true =>
    rw [if_pos rfl]
    go_enter func121, ntmps121
    go_wp2
    go_ret
    exact ⟨rfl, rfl⟩
   | false =>
    rw [if_neg (by decide)]
    cases h4 : (t.toList == [60]) with
    | true =>
     rw [if_pos rfl]
     go_enter func121, ntmps121
     go_wp2
     go_ret
     exact ⟨rfl, rfl⟩
    | false =>
     rw [if_neg (by decide)]
     cases h5 : (t.toList == [43]) with
     | true =>
      rw [if_pos (by rfl)]
      go_enter func121, ntmps121
      go_wp2
      go_ret
      exact ⟨rfl, rfl⟩
     | false =>
      cases h6 : (t.toList == [45]) with
      | true =>
       rw [if_pos (by rfl)]
       go_enter func121, ntmps121
       go_wp2
       go_ret
       exact ⟨rfl, rfl⟩
      | false =>
       rw [if_neg (by decide)]
       go_enter func121, ntmps121
       go_wp2
       go_ret
       exact ⟨rfl, rfl⟩
theorem chainLv_small (t : ByteArray) : 2 ≤ chainLv t ∧ chainLv t ≤ 7 := by
 unfold chainLv
 repeat (first | split | omega)
theorem levelK_small (kd : Int) (t : ByteArray) : 0 ≤ levelK kd t ∧ levelK kd t ≤ 8 := by
 have := chainLv_small t
 unfold levelK
 repeat (first | split | omega)
theorem levelOf_any (kd : Int) (t : ByteArray) (A : Option Addr) (n c : Nat) (z : Bool) (w : World) :
  Calls prog 120 #[.agg #[.int .i64 kd, .string t, .slice A n c, .bool z]] w fun e w' => e = .returned (.int .i64 (levelK kd t)) ∧ Below w.heap.size w w' := by
 have HC := hid (fun W => chainLevel_any t W)
 unfold levelK
 by_cases h1 : kd = 10
 ·subst h1
  rw [if_pos rfl]
  go_enter func120, ntmps120
  go_wp2
  go_ret
  exact ⟨rfl, grow_⟩
 rw [if_neg h1]
 have e1 : (kd == 10) = false := beq_eq_false_iff_ne.2 h1
 by_cases h2 : kd = 8
 ·subst h2
  rw [if_pos (.inl rfl)]
  go_enter func120, ntmps120
  go_wp2
  go_ret
  exact ⟨rfl, grow_⟩
 have e2 : (kd == 8) = false := beq_eq_false_iff_ne.2 h2
 by_cases h3 : kd = 9
 ·subst h3
  rw [if_pos (.inr rfl)]
  go_enter func120, ntmps120
  go_wp2
  go_ret
  exact ⟨rfl, grow_⟩
 rw [if_neg (by omega)]
 have e3 : (kd == 9) = false := beq_eq_false_iff_ne.2 h3
 by_cases h4 : kd = 7
 ·subst h4
  rw [if_pos rfl]
  generalize chainLv t = L at HC ⊢
  go_enter func120, ntmps120
  go_wp2_with (go_at_call 121; refine (HC.out _).mono ?_; rintro e w1 ⟨rfl, rfl⟩)
  go_ret
  exact ⟨rfl, grow_⟩
 rw [if_neg h4]
 have e4 : (kd == 7) = false := beq_eq_false_iff_ne.2 h4
 clear h1 h2 h3 h4
 go_enter func120, ntmps120
 go_wp2
 go_ret
 exact ⟨rfl, grow_⟩
theorem isSwap_any (kx : Int) (tx : ByteArray) (A : Option Addr) (n c : Nat) (z : Bool) (ky : Int) (ty : ByteArray) (A2 : Option Addr) (n2 c2 : Nat) (z2 : Bool) (w : World) :
  Calls prog 122 #[.agg #[.int .i64 kx, .string tx, .slice A n c, .bool z], .agg #[.int .i64 ky, .string ty, .slice A2 n2 c2, .bool z2]] w fun e w' => e = .returned (.bool (swapK kx tx ky ty)) ∧ Below w.heap.size w w' := by
 unfold swapK isT
 have nb : ∀ (a b : Int), (a != b) = !(a == b) := fun _ _ => rfl
 cases h1 : (kx == 7) with
 | false =>
  rw [Bool.false_and, Bool.false_and]
  have h1' : (kx != 7) = true := by rw [nb, h1]; rfl
  clear nb
  go_enter func122, ntmps122
  go_wp2
  go_ret
  exact ⟨rfl, grow_⟩
 | true =>
  have h1' : (kx != 7) = false := by rw [nb, h1]; rfl
  cases h2 : (ky == 7) with
  | false =>
   rw [Bool.and_false, Bool.false_and]
   have h2' : (ky != 7) = true := by rw [nb, h2]; rfl
   clear nb
   go_enter func122, ntmps122
   go_wp2
   go_ret
   exact ⟨rfl, grow_⟩
  | true =>
   rw [Bool.and_self, Bool.true_and]
   have h2' : (ky != 7) = false := by rw [nb, h2]; rfl
   clear nb h1 h2
   cases q1 : (tx.toList == [43]) with
   | true =>
    cases q2 : (ty.toList == [45]) with
    | true =>
     rw [Bool.and_self, Bool.true_or]
     go_enter func122, ntmps122
     go_wp2
     go_ret
     exact ⟨rfl, grow_⟩
    | false =>
     cases q3 : (tx.toList == [45]) with
     | true =>
      exfalso
      rw [eq_of_beq q1] at q3
      exact absurd q3 (by decide)
     | false =>
      rw [Bool.and_false, Bool.false_and, Bool.or_self]
      go_enter func122, ntmps122
      go_wp2
      go_ret
      exact ⟨rfl, grow_⟩
   | false =>
    rw [Bool.false_and, Bool.false_or]
    cases q3 : (tx.toList == [45]) with
    | true =>
     cases q4 : (ty.toList == [43]) with
     | true =>
      rw [Bool.and_self]
      go_enter func122, ntmps122
      go_wp2
      go_ret
      exact ⟨rfl, grow_⟩
     | false =>
      rw [Bool.and_false]
      go_enter func122, ntmps122
      go_wp2
      go_ret
      exact ⟨rfl, grow_⟩
    | false =>
     rw [Bool.false_and]
     go_enter func122, ntmps122
     go_wp2
     go_ret
     exact ⟨rfl, grow_⟩
theorem wants_any (kx : Int) (tx : ByteArray) (A : Option Addr) (m c : Nat) (z : Bool) (i : Nat) (ky : Int) (ty : ByteArray) (A2 : Option Addr) (n2 c2 : Nat) (z2 : Bool) (w : World) (hi : i < m) (hm : m ≤ 100) :
  Calls prog 78 #[.agg #[.int .i64 kx, .string tx, .slice A m c, .bool z], .int .i64 i, .agg #[.int .i64 ky, .string ty, .slice A2 n2 c2, .bool z2]] w fun e w' => e = .returned (.bool (wantsK kx tx m i ky ty)) ∧ Below w.heap.size w w' := by
 have HL := hid (fun W => levelOf_any ky ty A2 n2 c2 z2 W)
 have HC := hid (fun W => chainLevel_any tx W)
 have HS := hid (fun W => isSwap_any kx tx A m c z ky ty A2 n2 c2 z2 W)
 have HX := hid (levelK_small ky ty)
 unfold wantsK
 generalize levelK ky ty = L at HL HX ⊢
 have hx0 := HX.out.1
 have hx1 := HX.out.2
 have hb := (Below.refl w.heap.size w)
 by_cases h1 : kx = 5
 ·subst h1
  rw [if_pos rfl]
  by_cases h0 : i = 0
  ·subst h0
   rw [decide_eq_true rfl, Bool.true_and]
   go_enter func78, ntmps78
   go_wp2_with (go_at_call 120; refine (HL.out _).mono ?_; rintro e w1 ⟨rfl, h2⟩; have hb1 := below_next2 hb h2; have K1 := Blk.fresh2 h2; have k0 := K1.cell 0; have zz := K1.lt; clear K1 h2; simp only [List.getElem?_toArray, List.getElem?_cons_zero, List.getElem?_cons_succ] at k0)
   go_ret
   exact ⟨rfl, hb1⟩
  ·have e0 : ((i : Int) == 0) = false := by rw [beq_eq_false_iff_ne]; omega
   rw [decide_eq_false h0, Bool.false_and]
   go_enter func78, ntmps78
   go_wp2_with (go_at_call 120; refine (HL.out _).mono ?_; rintro e w1 ⟨rfl, h2⟩; have hb1 := below_next2 hb h2; have K1 := Blk.fresh2 h2; have k0 := K1.cell 0; have zz := K1.lt; clear K1 h2; simp only [List.getElem?_toArray, List.getElem?_cons_zero, List.getElem?_cons_succ] at k0)
   go_ret
   exact ⟨rfl, hb1⟩
 rw [if_neg h1]
 have e1 : (kx == 5) = false := beq_eq_false_iff_ne.2 h1
 by_cases h2 : kx = 6
 ·subst h2
  rw [if_pos rfl]
  go_enter func78, ntmps78
  go_wp2_with (go_at_call 120; refine (HL.out _).mono ?_; rintro e w1 ⟨rfl, h2⟩; have hb1 := below_next2 hb h2; have K1 := Blk.fresh2 h2; have k0 := K1.cell 0; have zz := K1.lt; clear K1 h2; simp only [List.getElem?_toArray, List.getElem?_cons_zero, List.getElem?_cons_succ] at k0)
  go_ret
  exact ⟨rfl, hb1⟩
 rw [if_neg h2]
 have e2 : (kx == 6) = false := beq_eq_false_iff_ne.2 h2
 by_cases h3 : kx = 7
 ·subst h3
  rw [if_pos rfl]
  generalize chainLv tx = LC at HC ⊢
  generalize swapK 7 tx ky ty = SW at HS ⊢
  by_cases hle : L ≤ LC
  ·rw [decide_eq_true hle, Bool.true_and]
   by_cases h0 : i = 0
   ·subst h0
    rw [decide_eq_true rfl, Bool.true_and]
    have hled := decide_eq_true hle
    go_enter func78, ntmps78
    go_wp2_with (first | (go_at_call 120; refine (HL.out _).mono ?_; rintro e w1 ⟨rfl, h2⟩; have hb1 := below_next2 hb h2; have K1 := Blk.fresh2 h2; have K2 := (show Blk w1 (w.heap.size + 1) _ _ from by have := Blk.fresh h2; rwa [World.size_alloc] at this); have zz := K1.lt; have zz2 := K2.lt; have k0 := K1.cell 0; have k1 := K1.cell 1; have k2 := K1.cell 2; have k3 := K1.cell 3; have j0 := K2.cell 0; have j1 := K2.cell 1; have j2 := K2.cell 2; have j3 := K2.cell 3; clear K1 K2 h2; simp only [List.getElem?_toArray, List.getElem?_cons_zero, List.getElem?_cons_succ] at k0 k1 k2 k3 j0 j1 j2 j3) | (go_at_call 121; refine (HC.out _).mono ?_; rintro e w5 ⟨rfl, rfl⟩) | (go_at_call 122; refine (HS.out _).mono ?_; rintro e w6 ⟨rfl, h6⟩; have hb6 := below_next hb1 h6))
    go_ret
    exact ⟨rfl, hb6⟩
   ·have e0 : ((i : Int) == 0) = false := by rw [beq_eq_false_iff_ne]; omega
    rw [decide_eq_false h0, Bool.false_and]
    have hled := decide_eq_true hle
    go_enter func78, ntmps78
    go_wp2_with (first | (go_at_call 120; refine (HL.out _).mono ?_; rintro e w1 ⟨rfl, h2⟩; have hb1 := below_next2 hb h2; have K1 := Blk.fresh2 h2; have K2 := (show Blk w1 (w.heap.size + 1) _ _ from by have := Blk.fresh h2; rwa [World.size_alloc] at this); have zz := K1.lt; have zz2 := K2.lt; have k0 := K1.cell 0; have k1 := K1.cell 1; have k2 := K1.cell 2; have k3 := K1.cell 3; have j0 := K2.cell 0; have j1 := K2.cell 1; have j2 := K2.cell 2; have j3 := K2.cell 3; clear K1 K2 h2; simp only [List.getElem?_toArray, List.getElem?_cons_zero, List.getElem?_cons_succ] at k0 k1 k2 k3 j0 j1 j2 j3) | (go_at_call 121; refine (HC.out _).mono ?_; rintro e w5 ⟨rfl, rfl⟩) | (go_at_call 122; refine (HS.out _).mono ?_; rintro e w6 ⟨rfl, h6⟩; have hb6 := below_next hb1 h6))
    go_ret
    exact ⟨rfl, hb1⟩
  ·rw [decide_eq_false hle, Bool.false_and]
   have hled := decide_eq_false hle
   go_enter func78, ntmps78
   go_wp2_with (first | (go_at_call 120; refine (HL.out _).mono ?_; rintro e w1 ⟨rfl, h2⟩; have hb1 := below_next2 hb h2; have K1 := Blk.fresh2 h2; have K2 := (show Blk w1 (w.heap.size + 1) _ _ from by have := Blk.fresh h2; rwa [World.size_alloc] at this); have zz := K1.lt; have zz2 := K2.lt; have k0 := K1.cell 0; have k1 := K1.cell 1; have k2 := K1.cell 2; have k3 := K1.cell 3; have j0 := K2.cell 0; have j1 := K2.cell 1; have j2 := K2.cell 2; have j3 := K2.cell 3; clear K1 K2 h2; simp only [List.getElem?_toArray, List.getElem?_cons_zero, List.getElem?_cons_succ] at k0 k1 k2 k3 j0 j1 j2 j3) | (go_at_call 121; refine (HC.out _).mono ?_; rintro e w5 ⟨rfl, rfl⟩) | (go_at_call 122; refine (HS.out _).mono ?_; rintro e w6 ⟨rfl, h6⟩; have hb6 := below_next hb1 h6))
   go_ret
   exact ⟨rfl, hb1⟩
 rw [if_neg h3]
 have e3 : (kx == 7) = false := beq_eq_false_iff_ne.2 h3
 by_cases h4 : kx = 8
 ·subst h4
  rw [if_pos rfl]
  by_cases h0 : i = 0
  ·subst h0
   rw [if_pos rfl]
   go_enter func78, ntmps78
   go_wp2_with (go_at_call 120; refine (HL.out _).mono ?_; rintro e w1 ⟨rfl, h2⟩; have hb1 := below_next2 hb h2; have K1 := Blk.fresh2 h2; have k0 := K1.cell 0; have zz := K1.lt; clear K1 h2; simp only [List.getElem?_toArray, List.getElem?_cons_zero, List.getElem?_cons_succ] at k0)
   go_ret
   exact ⟨rfl, hb1⟩
  ·have e0 : ((i : Int) == 0) = false := by rw [beq_eq_false_iff_ne]; omega
   rw [if_neg h0]
   go_enter func78, ntmps78
   go_wp2_with (go_at_call 120; refine (HL.out _).mono ?_; rintro e w1 ⟨rfl, h2⟩; have hb1 := below_next2 hb h2; have K1 := Blk.fresh2 h2; have k0 := K1.cell 0; have zz := K1.lt; clear K1 h2; simp only [List.getElem?_toArray, List.getElem?_cons_zero, List.getElem?_cons_succ] at k0)
   go_ret
   exact ⟨rfl, hb1⟩
 rw [if_neg h4]
 have e4 : (kx == 8) = false := beq_eq_false_iff_ne.2 h4
 by_cases h5 : kx = 9
 ·subst h5
  rw [if_pos rfl]
  by_cases h0 : i + 1 = m
  ·have e0 : ((i : Int) == (m : Int) - 1) = true := by rw [beq_iff_eq]; omega
   rw [decide_eq_true h0, Bool.true_and]
   go_enter func78, ntmps78
   go_wp2_with (go_at_call 120; refine (HL.out _).mono ?_; rintro e w1 ⟨rfl, h2⟩; have hb1 := below_next2 hb h2; have K1 := Blk.fresh2 h2; have k0 := K1.cell 0; have k2 := K1.cell 2; have zz := K1.lt; clear K1 h2; simp only [List.getElem?_toArray, List.getElem?_cons_zero, List.getElem?_cons_succ] at k0 k2)
   go_ret
   exact ⟨rfl, hb1⟩
  ·have e0 : ((i : Int) == (m : Int) - 1) = false := by rw [beq_eq_false_iff_ne]; omega
   rw [decide_eq_false h0, Bool.false_and]
   go_enter func78, ntmps78
   go_wp2_with (go_at_call 120; refine (HL.out _).mono ?_; rintro e w1 ⟨rfl, h2⟩; have hb1 := below_next2 hb h2; have K1 := Blk.fresh2 h2; have k0 := K1.cell 0; have k2 := K1.cell 2; have zz := K1.lt; clear K1 h2; simp only [List.getElem?_toArray, List.getElem?_cons_zero, List.getElem?_cons_succ] at k0 k2)
   go_ret
   exact ⟨rfl, hb1⟩
 rw [if_neg h5]
 have e5 : (kx == 9) = false := beq_eq_false_iff_ne.2 h5
 by_cases h6 : kx = 10
 ·subst h6
  rw [if_pos rfl]
  by_cases h0 : i = 0
  ·subst h0
   rw [decide_eq_true rfl, Bool.true_and]
   go_enter func78, ntmps78
   go_wp2_with (go_at_call 120; refine (HL.out _).mono ?_; rintro e w1 ⟨rfl, h2⟩; have hb1 := below_next2 hb h2; have K1 := Blk.fresh2 h2; have k0 := K1.cell 0; have zz := K1.lt; clear K1 h2; simp only [List.getElem?_toArray, List.getElem?_cons_zero, List.getElem?_cons_succ] at k0)
   go_ret
   exact ⟨rfl, hb1⟩
  ·have e0 : ((i : Int) == 0) = false := by rw [beq_eq_false_iff_ne]; omega
   rw [decide_eq_false h0, Bool.false_and]
   go_enter func78, ntmps78
   go_wp2_with (go_at_call 120; refine (HL.out _).mono ?_; rintro e w1 ⟨rfl, h2⟩; have hb1 := below_next2 hb h2; have K1 := Blk.fresh2 h2; have k0 := K1.cell 0; have zz := K1.lt; clear K1 h2; simp only [List.getElem?_toArray, List.getElem?_cons_zero, List.getElem?_cons_succ] at k0)
   go_ret
   exact ⟨rfl, hb1⟩
 rw [if_neg h6]
 have e6 : (kx == 10) = false := beq_eq_false_iff_ne.2 h6
 go_enter func78, ntmps78
 go_wp2_with (go_at_call 120; refine (HL.out _).mono ?_; rintro e w1 ⟨rfl, h2⟩; have hb1 := below_next2 hb h2; have K1 := Blk.fresh2 h2; have k0 := K1.cell 0; have zz := K1.lt; clear K1 h2; simp only [List.getElem?_toArray, List.getElem?_cons_zero, List.getElem?_cons_succ] at k0)
 go_ret
 exact ⟨rfl, hb1⟩
def numTo (s : ByteArray) (k : Nat) : Int := numD (s.data.toList.take k)
theorem numTo_succ {s : ByteArray} {k : Nat} (h : k < s.size) : numTo s (k + 1) = 10 * numTo s k + ((s[k].toNat : Int) - 48) := by
 have hl : k < s.data.toList.length := by rw [ba_len]; exact h
 unfold numTo numD
 rw [List.take_succ_eq_append_getElem hl, List.foldl_append]
 rfl
theorem numTo_all (s : ByteArray) : numTo s s.size = numD s.data.toList := by
 unfold numTo; rw [List.take_of_length_le (by rw [ba_len]; omega)]
theorem numTo_small {s : ByteArray} (hd : s.data.toList.all figC = true) (h9 : s.size ≤ 9) (k : Nat) : 0 ≤ numTo s k ∧ numTo s k ≤ 999999999 := by
 have h := numD_lt (s.data.toList.take k) 0 (by omega) (by
  rw [List.all_eq_true] at hd ⊢
  exact fun x hx => hd x (List.mem_of_mem_take hx))
 refine ⟨h.1, ?_⟩
 have h2 : (10 : Int) ^ (s.data.toList.take k).length ≤ 10 ^ 9 := by
  have h3 : (s.data.toList.take k).length ≤ 9 := by rw [List.length_take, ba_len]; omega
  have h4 : (10 : Nat) ^ (s.data.toList.take k).length ≤ 10 ^ 9 := Nat.pow_le_pow_right (by decide) h3
  exact_mod_cast h4
 have h5 := h.2
 unfold numTo numD
 omega
theorem dig_range {s : ByteArray} (hd : s.data.toList.all figC = true) {k : Nat} (h : k < s.size) : (48 : Int) ≤ s[k].toNat ∧ (s[k].toNat : Int) ≤ 57 := by
 rw [List.all_eq_true] at hd
 have := of_decide_eq_true (hd s[k] (by
  have hl : k < s.data.toList.length := by rw [ba_len]; exact h
  have : s[k] = s.data.toList[k] := rfl
  rw [this]; exact List.getElem_mem hl))
 omega
theorem numberOf_any (s : ByteArray) (w : World) (hd : s.data.toList.all figC = true) (h9 : s.size ≤ 9) : Calls prog 163 #[.string s] w fun e w' => e = .returned (.int .i64 (numD s.data.toList)) ∧ w = w' := by
 obtain ⟨N, hN⟩ : ∃ N : Nat → Int, N = numTo s := ⟨_, rfl⟩
 have HS := hid (fun (k : Nat) (h : k < s.size) => show N (k + 1) = 10 * N k + ((s[k].toNat : Int) - 48) by rw [hN]; exact numTo_succ h)
 have HR := hid (fun (k : Nat) => show 0 ≤ N k ∧ N k ≤ 999999999 by rw [hN]; exact numTo_small hd h9 k)
 have HC := hid (fun (k : Nat) (h : k < s.size) => dig_range hd h)
 have h0 : N 0 = 0 := by rw [hN]; rfl
 have hv : numD s.data.toList = N s.size := by rw [hN, numTo_all]
 rw [hv]
 clear hv hN hd
 go_enter func163, ntmps163
 go_wp2
 go_loop [3, 4] (fun v i => ∃ k : Nat, k ≤ s.size ∧ i = .int .i64 k ∧ v = .int .i64 (N k)) (fun _ i => s.size - (intOf i).toNat)
 case atStart => exact ⟨0, Nat.zero_le _, rfl, by rw [h0]⟩
 case round =>
  obtain ⟨k, hk, rfl, rfl⟩ := hrel
  by_cases hlt : k < s.size
  ·have hst := hid (HS.out k hlt)
   obtain ⟨r1, r2⟩ := HR.out k
   obtain ⟨c1, c2⟩ := HC.out k hlt
   go_wp2
   go_round
   case rel => exact ⟨k + 1, by omega, by go_num, by rw [hst.out]; congr 1; omega⟩
   case measure => simp [intOf]; omega
  ·obtain rfl : k = s.size := by omega
   go_wp2
   go_ret
   exact ⟨rfl, rfl⟩
theorem prod_le {a b : Int} (ha : -1000000000 ≤ a ∧ a ≤ 1000000000) (hb : -1000000000 ≤ b ∧ b ≤ 1000000000) : -1000000000000000000 ≤ a * b ∧ a * b ≤ 1000000000000000000 := by
 have h1 : a.natAbs ≤ 1000000000 := by omega
 have h2 : b.natAbs ≤ 1000000000 := by omega
 have h3 : (a * b).natAbs ≤ 1000000000 * 1000000000 := by rw [Int.natAbs_mul]; exact Nat.mul_le_mul h1 h2
 omega
theorem reckon_any (t : ByteArray) (a b : Int) (w : World) (ha : -1000000000 ≤ a ∧ a ≤ 1000000000) (hb : -1000000000 ≤ b ∧ b ≤ 1000000000) :
  Calls prog 200 #[.string t, .int .i64 a, .int .i64 b] w fun e w' => e = .returned (.int .i64 (opV t a b)) ∧ w = w' := by
 obtain ⟨p1, p2⟩ := prod_le ha hb
 obtain ⟨a1, a2⟩ := ha
 obtain ⟨b1, b2⟩ := hb
 unfold opV isT
 cases h1 : (t.toList == [43]) with
 | true =>
  rw [if_pos rfl]
  go_enter func200, ntmps200
  go_wp2
  go_ret
  exact ⟨rfl, rfl⟩
 | false =>
  rw [if_neg (by decide)]
  cases h2 : (t.toList == [45]) with
  | true =>
   rw [if_pos rfl]
   go_enter func200, ntmps200
   go_wp2
   go_ret
   exact ⟨rfl, rfl⟩
  | false =>
   rw [if_neg (by decide)]
   go_enter func200, ntmps200
   go_wp2
   go_ret
   exact ⟨rfl, rfl⟩
theorem opV_small (t : ByteArray) (a b : Int) (ha : -1000000000 ≤ a ∧ a ≤ 1000000000) (hb : -1000000000 ≤ b ∧ b ≤ 1000000000) : -1000000000000000000 ≤ opV t a b ∧ opV t a b ≤ 1000000000000000000 := by
 have := prod_le ha hb
 unfold opV
 split
 ·omega
 ·split <;> omega
def ChAt (go : Nat → Option Int) (t : ByteArray) (l : List Int) (k : Nat) (s : Int) (R : Option Int) : Prop :=
 (k = 0 ∧ s = 0 ∧ chainA go t l = R) ∨ (0 < k ∧ chainG go t s (l.drop k) = R)
section
variable {go : Nat → Option Int} {t : ByteArray} {l : List Int} {k : Nat} {s x b : Int} {R : Option Int}
theorem chAt_bad (h : ChAt go t l k s R) (hx : l[k]? = some x) (hr : go x.toNat = none) : R = none := by
 obtain ⟨hlt, he⟩ := List.getElem?_eq_some_iff.1 hx
 rcases h with ⟨rfl, rfl, h⟩ | ⟨h0, h⟩
 ·match l, hx, h with
  | y :: l, hx, h =>
   obtain rfl := Option.some.inj hx
   simp only [chainA, hr] at h
   exact h.symm
 ·rw [List.drop_eq_getElem_cons hlt, he] at h
  unfold chainG at h
  rw [hr] at h
  exact h.symm
theorem chAt_first (h : ChAt go t l 0 s R) (hx : l[0]? = some x) (hr : go x.toNat = some b) : ChAt go t l 1 b R := by
 rcases h with ⟨_, rfl, h⟩ | ⟨h0, h⟩
 ·match l, hx, h with
  | y :: l, hx, h =>
   obtain rfl := Option.some.inj hx
   simp only [chainA, hr] at h
   exact .inr ⟨by omega, h⟩
 ·omega
theorem chAt_next (h : ChAt go t l k s R) (hk : 0 < k) (hx : l[k]? = some x) (hr : go x.toNat = some b) (hi : inB (opV t s b) (-1000000000) 1000000000 = true) : ChAt go t l (k + 1) (opV t s b) R := by
 obtain ⟨hlt, he⟩ := List.getElem?_eq_some_iff.1 hx
 rcases h with ⟨h0, _⟩ | ⟨h0, h⟩
 ·omega
 ·rw [List.drop_eq_getElem_cons hlt, he] at h
  unfold chainG at h
  rw [hr] at h
  simp only at h
  rw [if_pos (of_decide_eq_true hi)] at h
  exact .inr ⟨by omega, h⟩
theorem chAt_out (h : ChAt go t l k s R) (hk : 0 < k) (hx : l[k]? = some x) (hr : go x.toNat = some b) (hi : inB (opV t s b) (-1000000000) 1000000000 = false) : R = none := by
 obtain ⟨hlt, he⟩ := List.getElem?_eq_some_iff.1 hx
 rcases h with ⟨h0, _⟩ | ⟨h0, h⟩
 ·omega
 ·rw [List.drop_eq_getElem_cons hlt, he] at h
  unfold chainG at h
  rw [hr] at h
  simp only at h
  rw [if_neg (of_decide_eq_false hi)] at h
  exact h.symm
theorem chAt_end (h : ChAt go t l k s R) (hk : l.length ≤ k) : R = some s := by
 rcases h with ⟨rfl, rfl, h⟩ | ⟨h0, h⟩
 ·obtain rfl : l = [] := List.eq_nil_of_length_eq_zero (by omega)
  exact h.symm
 ·rw [List.drop_of_length_le hk] at h
  exact h.symm
end
def ConstR (v : Option Int) (w : World) (e : Ending) (w' : World) : Prop := e = .returned (.tuple #[.int .i64 (v.getD 0), .bool v.isSome]) ∧ Below w.heap.size w w'
theorem chainConst_of (A : Option Addr) (n c : Nat) (go : Nat → Option Int) (t : ByteArray) (A' : Option Addr) (m c' : Nat) (l : List Int) (z : Bool) (w : World) (hgo : Hid (∀ v ∈ l, In9 (go v.toNat))) (hm : Hid (l.length = m)) (hm2 : m ≤ 12) (hr : Rd w 1 A' m (intCells l))
  (HC : Hid (∀ v ∈ l, ∀ W, Below w.heap.size w W → Calls prog 119 #[.slice A n c, .int .i64 v] W (ConstR (go v.toNat) W))) :
  Calls prog 164 #[.slice A n c, .agg #[.int .i64 7, .string t, .slice A' m c', .bool z]] w (ConstR (if arithT t = true then chainA go t l else none) w) := by
 have HRD := hid hr
 clear hr
 unfold ConstR at HC ⊢
 cases ha : arithT t with
 | false =>
  rw [if_neg (by decide)]
  unfold arithT isT at ha
  simp only [Bool.or_eq_false_iff] at ha
  obtain ⟨h1, h2, h3⟩ := ha
  have h1' : (t.toList != [43]) = true := by rw [bne, h1]; rfl
  have h2' : (t.toList != [45]) = true := by rw [bne, h2]; rfl
  have h3' : (t.toList != [42]) = true := by rw [bne, h3]; rfl
  go_enter func164, ntmps164
  go_wp2
  refine bodyPost_ret (by simp [results, Tryz.results164, go_sem,]; try rfl) rfl ?_
  exact ⟨rfl, grow_⟩
 | true =>
  rw [if_pos rfl]
  have HA0 : Hid (ChAt go t l 0 0 (chainA go t l)) := .inl ⟨rfl, rfl, rfl⟩
  generalize chainA go t l = R at HA0 ⊢
  have HK := hid (fun (a b : Int) ha hb W => reckon_any t a b W ha hb)
  have HOS := hid (fun (a b : Int) ha hb => opV_small t a b ha hb)
  have HSV := hid (fun (k : Nat) (s x b : Int) (h : ChAt go t l k s R) h1 (h2 : l[k]? = some x) (h3 : go x.toNat = some b) h4 => chAt_next h h1 h2 h3 h4)
  have HSO := hid (fun (k : Nat) (s x b : Int) (h : ChAt go t l k s R) h1 (h2 : l[k]? = some x) (h3 : go x.toNat = some b) h4 => chAt_out h h1 h2 h3 h4)
  generalize opV t = SV at HK HSV HSO HOS
  have hb0 : Below w.heap.size w (w.alloc (.cells #[.int .i64 7, .string t, .slice A' m c', .bool z] 48)) := grow_
  have K := Blk.new w 48 #[.int .i64 7, .string t, .slice A' m c', .bool z]
  have h3 : ((t.toList == [43]) = true ∨ ((t.toList == [43]) = false ∧ (t.toList == [45]) = true) ∨ ((t.toList == [43]) = false ∧ (t.toList == [45]) = false ∧ (t.toList == [42]) = true)) := by
   unfold arithT isT at ha
   cases h1 : (t.toList == [43]) with
   | true => left; rfl
   | false =>
    cases h2 : (t.toList == [45]) with
    | true => right; left; exact ⟨rfl, rfl⟩
    | false =>
     rw [h1, h2] at ha
     right; right; refine ⟨rfl, rfl, ?_⟩
     rwa [Bool.false_or, Bool.false_or] at ha
  clear ha
  go_enter func164, ntmps164
  go_upto_region 1 with fail
  generalize w.alloc (.cells #[.int .i64 7, .string t, .slice A' m c', .bool z] 48) = W at K hb0 ⊢
  have ac1 := K.q1
  have ac2 := K.q2
  have az := K.lt
  go_cut [23] (fun s wx => s = .bool false ∧ Below W.heap.size W wx)
  case first =>
   rcases h3 with q1 | ⟨q1, q2⟩ | ⟨q1, q2, q3⟩
   ·have q1' : (t.toList != [43]) = false := by rw [bne, q1]; rfl
    go_wp2_with fail
    all_goals (go_meet; exact ⟨by first | rfl | simp [q1], grow_⟩)
   ·have q1' : (t.toList != [43]) = true := by rw [bne, q1]; rfl
    have q2' : (t.toList != [45]) = false := by rw [bne, q2]; rfl
    go_wp2_with fail
    all_goals (go_meet; exact ⟨by first | rfl | simp [q2], grow_⟩)
   ·have q1' : (t.toList != [43]) = true := by rw [bne, q1]; rfl
    have q2' : (t.toList != [45]) = true := by rw [bne, q2]; rfl
    have q3' : (t.toList != [42]) = false := by rw [bne, q3]; rfl
    go_wp2_with fail
    all_goals (go_meet; exact ⟨by first | rfl | simp [q3], grow_⟩)
  case rest =>
  obtain ⟨rfl, hc⟩ := hcut
  clear h3 ac1 ac2 az
  have K2 := K.next hc
  replace hb0 := below_next hb0 hc
  clear K hc
  obtain ⟨W2, rfl⟩ : ∃ W2 : World, W2 = wc := ⟨_, rfl⟩
  have ac2 := K2.q2
  have az := K2.lt
  go_wp2
  clear ac2 az
  go_loopw [6, 27] (fun v i wr => ∃ (k : Nat) (s : Int), k ≤ m ∧ i = .int .i64 k ∧ v = .int .i64 s ∧ (-1000000000 ≤ s ∧ s ≤ 1000000000) ∧ Hid (ChAt go t l k s R) ∧ Hid (Below W2.heap.size W2 wr)) (fun _ i _ => m - (intOf i).toNat)
  case atStart => exact ⟨0, 0, Nat.zero_le _, rfl, rfl, by omega, HA0, hid (Below.refl _ _)⟩
  case round =>
   clear HA0
   obtain ⟨k, s, hk, rfl, rfl, hs, HA, hb⟩ := hrel
   have K3 := K2.next hb.out
   have ac1 := K3.q1
   have az := K3.lt
   have hbw := below_next hb0 hb.out
   by_cases hlt : k < m
   ·obtain ⟨v, hd⟩ : ∃ d, l[k]? = some d := ⟨_, gE (by have := hm.out; omega)⟩
    obtain ⟨b5, off5, rfl, hblt5, cv⟩ := int_at (HRD.out.below hbw) hlt hd
    have HCv := hid (HC.out v (List.mem_of_getElem? hd) wr hbw)
    have HG := hid (hgo.out v (List.mem_of_getElem? hd))
    have HD := hid hd
    have HBW := hid hbw
    clear hd
    cases hgv : go v.toNat with
    | none =>
     rw [hgv] at HCv
     have hR : R = none := chAt_bad HA.out HD.out hgv
     subst hR
     clear HA HSV HSO HG hgv
     go_wp2_with fail
     refine HCv.out.mono ?_
     rintro e w2 ⟨rfl, h2⟩
     clear ac1 az
     go_wp2
     refine bodyPost_ret (by simp [results, Tryz.results164, go_sem,]; try rfl) rfl ?_
     exact ⟨rfl, below_next HBW.out h2⟩
    | some b =>
     rw [hgv] at HCv
     have hb9 := HG.out b hgv
     by_cases h0 : k = 0
     ·subst h0
      simp only [Nat.add_zero] at cv
      have HA1 := hid (chAt_first HA.out HD.out hgv)
      clear HA HSV HSO HG hgv
      go_wp2_with fail
      refine HCv.out.mono ?_
      rintro e w2 ⟨rfl, h2⟩
      have hb2 := hid (below_next hb.out h2)
      clear ac1 az hbw
      go_wp2
      go_roundw
      case rel => exact ⟨1, b, by omega, by go_num, rfl, hb9, HA1, hb2⟩
      case measure => simp [intOf]; omega
     ·have hk0 : 0 < k := by omega
      have hkz : ((k : Int) == 0) = false := by rw [beq_eq_false_iff_ne]; omega
      have hos := HOS.out s b hs hb9
      cases hin : inB (SV s b) (-1000000000) 1000000000 with
      | true =>
       have HA1 := hid (HSV.out k s v b HA.out hk0 HD.out hgv hin)
       have HIN := hid (fun W => inRange_is hin W)
       have hs2 : -1000000000 ≤ SV s b ∧ SV s b ≤ 1000000000 := of_decide_eq_true hin
       have HKK := hid (fun W => HK.out s b hs hb9 W)
       clear HA HSV HSO HG hgv hin
       generalize SV s b = q at HA1 HIN hs2 HKK hos
       go_wp2_with fail
       refine HCv.out.mono ?_
       rintro e w2 ⟨rfl, h2⟩
       have hb2 := hid (below_next hb.out h2)
       have K4 := K3.next h2
       clear ac1 az hbw
       have ac1 := K4.q1
       have az := K4.lt
       go_wp2_with (first | (go_at_call 200; refine (HKK.out _).mono ?_; rintro e w5 ⟨rfl, rfl⟩) | (go_at_call 59; refine (HIN.out _).mono ?_; rintro e w6 ⟨rfl, rfl⟩))
       go_roundw
       case rel => exact ⟨k + 1, q, by omega, by go_num, rfl, hs2, HA1, by first | exact hb2 | exact hid (below_drewN hb2.out _) | exact hid (hb2.out.drew)⟩
       case measure => simp [intOf]; omega
      | false =>
       have hR := HSO.out k s v b HA.out hk0 HD.out hgv hin
       subst hR
       have HIN := hid (fun W => inRange_is hin W)
       have HKK := hid (fun W => HK.out s b hs hb9 W)
       clear HA HSV HSO HG hgv hin
       generalize SV s b = q at HIN HKK hos
       go_wp2_with fail
       refine HCv.out.mono ?_
       rintro e w2 ⟨rfl, h2⟩
       have hb2 := hid (below_next HBW.out h2)
       have K4 := K3.next h2
       clear ac1 az hbw
       have ac1 := K4.q1
       have az := K4.lt
       go_wp2_with (first | (go_at_call 200; refine (HKK.out _).mono ?_; rintro e w5 ⟨rfl, rfl⟩) | (go_at_call 59; refine (HIN.out _).mono ?_; rintro e w6 ⟨rfl, rfl⟩))
       refine bodyPost_ret (by simp [results, Tryz.results164, go_sem,]; try rfl) rfl ?_
       refine ⟨rfl, ?_⟩
       have := hb2.out
       exact grow_
   ·have hR := chAt_end HA.out (by have := hm.out; omega)
    subst hR
    have HBW := hid hbw
    clear HA HSV HSO ac1 az
    go_wp2
    refine bodyPost_ret (by simp [results, Tryz.results164, go_sem,]; try rfl) rfl ?_
    exact ⟨rfl, HBW.out⟩
theorem implConst_all (A : Option Addr) (n c : Nat) (ps : List PN) (m : Nat) (hF : TreeF ps m) : ∀ k, k < n → ∀ w, Nps w A n ps → Calls prog 119 #[.slice A n c, .int .i64 (k : Int)] w (ConstR (constV ps k) w) := by
 intro k
 induction k using Nat.strongRecOn with
 | ind k ih =>
 intro hk w hps
 obtain ⟨x, hx⟩ := hps.get hk
 have hlen := hps.len
 have hml := hF.tree.len
 have HIH := hid ih
 have HPS := hid hps
 have hcl := constN_lt hF.tree.good hF.par hx
 have HG := hid (hF.tree.good k x hx)
 obtain ⟨b, off, A', c', rfl, hblt, x0, x1, x2, x3, hxr⟩ := hps.at_ hk hx
 rw [hcl]
 have hb0 : Below w.heap.size w (w.alloc (.cells #[.int .i64 x.kind, .string x.text, .slice A' x.kids.length c', .bool x.blank] 48)) := grow_
 by_cases h2 : x.kind = 2
 ·rw [if_pos h2]
  have hN := hF.num k x hx h2
  rw [h2] at x0
  clear hcl hps ih hxr hx
  obtain ⟨kd, tx, ks, bl⟩ := x
  simp only at *
  subst h2
  by_cases h9 : tx.size ≤ 9
  ·rw [if_pos h9]
   have HNU := hid (fun W => numberOf_any tx W hN h9)
   have h9' : ¬ (9 : Int) < (tx.size : Int) := by omega
   go_enter func119, ntmps119
   go_wp2_with (go_at_call 163; refine (HNU.out _).mono ?_; rintro e w1 ⟨rfl, rfl⟩)
   refine bodyPost_ret (by simp [results, Tryz.results119, go_sem,]; try rfl) rfl ?_
   exact ⟨rfl, hb0⟩
  ·rw [if_neg h9]
   have h9' : (9 : Int) < (tx.size : Int) := by omega
   go_enter func119, ntmps119
   go_wp2
   refine bodyPost_ret (by simp [results, Tryz.results119, go_sem,]; try rfl) rfl ?_
   exact ⟨rfl, hb0⟩
 rw [if_neg h2]
 have e2 : (x.kind == 2) = false := beq_eq_false_iff_ne.2 h2
 by_cases h11 : x.kind = 11
 ·rw [if_pos h11]
  have hp1 := hF.par k x hx h11
  obtain ⟨hq1, hq2⟩ := kid0_lt hF.tree.good hx (by rw [hp1]; omega)
  obtain ⟨b5, off5, rfl, hblt5, cv⟩ := int_at hxr (by omega) hq1
  simp only [Nat.add_zero] at cv
  have HC := hid (fun W (hW : Below w.heap.size w W) => HIH.out (kid0 x) hq2 (by omega) W (HPS.out.next hW))
  unfold ConstR at HC ⊢
  generalize constV ps (kid0 x) = V at HC ⊢
  have HB0 := hid hb0
  rw [h11] at x0 hb0 HB0 e2
  rw [hp1] at x2 hb0 HB0
  clear hcl hps ih hxr hx h2
  go_enter func119, ntmps119
  go_wp2_with fail
  refine (HC.out _ (by first | exact HB0.out | (rw [h11, hp1]; exact HB0.out))).mono ?_
  rintro e w2 ⟨rfl, h2⟩
  have hbb := below_next HB0.out h2
  clear x0 x1 x2 x3 cv
  go_wp2
  refine bodyPost_ret (by simp [results, Tryz.results119, go_sem,]; try rfl) rfl ?_
  exact ⟨rfl, hbb⟩
 rw [if_neg h11]
 have e11 : (x.kind == 11) = false := beq_eq_false_iff_ne.2 h11
 by_cases h7 : x.kind = 7
 ·rw [if_pos h7]
  have hmem : ∀ v ∈ x.kids, v.toNat < k := fun v hv => by have := HG.out.2 v hv; omega
  have hnn : ∀ v ∈ x.kids, ((v.toNat : Nat) : Int) = v := fun v hv => by have := HG.out.2 v hv; omega
  have HCC := hid (fun W (hW : Below w.heap.size w W) => chainConst_of (some ⟨b, off, none⟩) n c (constV ps) x.text A' x.kids.length c' x.kids x.blank W
   (fun v hv => constV_in9 hF.tree.good hF.par hF.num v.toNat (by have := hmem v hv; omega)) rfl HG.out.1 (hxr.next hW)
   (fun v hv W2 hW2 => by
    have := HIH.out v.toNat (hmem v hv) (by have := hmem v hv; omega) W2 (HPS.out.next (below_next hW hW2))
    rwa [hnn v hv] at this))
  unfold ConstR at HCC ⊢
  generalize (if arithT x.text = true then chainA (constV ps) x.text x.kids else none) = V at HCC ⊢
  have HB0 := hid hb0
  rw [h7] at x0 hb0 HB0 e2 e11
  clear hcl hps ih hxr hx h2 h11 hmem hnn
  go_enter func119, ntmps119
  go_wp2_with fail
  refine (HCC.out _ (by first | exact HB0.out | (rw [h7]; exact HB0.out))).mono ?_
  rintro e w2 ⟨rfl, h2⟩
  have hbb := below_next HB0.out h2
  clear x0 x1 x2 x3
  go_wp2
  refine bodyPost_ret (by simp [results, Tryz.results119, go_sem,]; try rfl) rfl ?_
  exact ⟨rfl, hbb⟩
 rw [if_neg h7]
 have e7 : (x.kind == 7) = false := beq_eq_false_iff_ne.2 h7
 clear hcl hps ih hxr hx h2 h11 h7
 go_enter func119, ntmps119
 go_wp2
 refine bodyPost_ret (by simp [results, Tryz.results119, go_sem,]; try rfl) rfl ?_
 exact ⟨rfl, hb0⟩
theorem leafV_of {ps : List PN} {k : Nat} {x : PN} (hx : ps[k]? = some x) : leafV ps k = if x.kind = 7 then (match constV ps k with | some n => if 0 ≤ n ∧ n ≤ 999999999 then some n else none | none => none) else none := by
 unfold leafV; rw [ndAt_of hx]; split <;> rfl
theorem foldable_any (A : Option Addr) (n c : Nat) (ps : List PN) (m : Nat) (hF : TreeF ps m) (k : Nat) (hk : k < n) (w : World) (hps : Nps w A n ps) :
  Calls prog 118 #[.slice A n c, .int .i64 (k : Int)] w fun e w' => e = .returned (.bool (leafV ps k).isSome) ∧ Below w.heap.size w w' := by
 obtain ⟨x, hx⟩ := hps.get hk
 have HC := hid (implConst_all A n c ps m hF k hk w hps)
 rw [leafV_of hx]
 obtain ⟨b, off, A', c', rfl, hblt, x0, x1, x2, x3, hxr⟩ := hps.at_ hk hx
 unfold ConstR at HC
 by_cases h7 : x.kind = 7
 ·rw [if_pos h7]
  rw [h7] at x0
  clear hps hxr hx x1 x2 x3
  cases hv : constV ps k with
  | none =>
   rw [hv] at HC
   go_enter func118, ntmps118
   go_wp2_with fail
   refine HC.out.mono ?_
   rintro e w2 ⟨rfl, h2⟩
   clear x0
   go_wp2
   go_ret
   exact ⟨rfl, grow_⟩
  | some v =>
   rw [hv] at HC
   dsimp only
   cases hin : inB v 0 999999999 with
   | true =>
    rw [if_pos (of_decide_eq_true hin)]
    have HIN := hid (fun W => inRange_is hin W)
    go_enter func118, ntmps118
    go_wp2_with fail
    refine HC.out.mono ?_
    rintro e w2 ⟨rfl, h2⟩
    clear x0
    go_wp2_with (go_at_call 59; refine (HIN.out _).mono ?_; rintro e w6 ⟨rfl, rfl⟩)
    go_ret
    exact ⟨rfl, grow_⟩
   | false =>
    rw [if_neg (of_decide_eq_false hin)]
    have HIN := hid (fun W => inRange_is hin W)
    go_enter func118, ntmps118
    go_wp2_with fail
    refine HC.out.mono ?_
    rintro e w2 ⟨rfl, h2⟩
    clear x0
    go_wp2_with (go_at_call 59; refine (HIN.out _).mono ?_; rintro e w6 ⟨rfl, rfl⟩)
    go_ret
    exact ⟨rfl, grow_⟩
 ·rw [if_neg h7]
  have e7 : (x.kind != 7) = true := by rw [bne, beq_eq_false_iff_ne.2 h7]; rfl
  clear hps hxr hx x1 x2 x3 h7
  go_enter func118, ntmps118
  go_wp2
  go_ret
  exact ⟨rfl, grow_⟩
theorem fig_at {s : ByteArray} (hd : s.data.toList.all figC = true) {k : Nat} (h : k < s.size) : figC s[k] = true := by
 rw [List.all_eq_true] at hd
 have hl : k < s.data.toList.length := by rw [ba_len]; exact h
 exact hd s[k] (show s.data.toList[k] ∈ _ from List.getElem_mem hl)
def FigR (s : ByteArray) : Option Int := if s.size ≤ 9 then some (numD s.data.toList) else none
theorem figures_any (s : ByteArray) (w : World) (hd : s.data.toList.all figC = true) (h0 : 0 < s.size) (h12 : s.size ≤ 12) : Calls prog 199 #[.string s] w fun e w' => e = .returned (.tuple #[.int .i64 ((FigR s).getD 0), .bool (FigR s).isSome]) ∧ w = w' := by
 have HF := hid (fun (k : Nat) (h : k < s.size) (W : World) => show Calls prog 137 #[.int .u8 s[k].toNat] W fun e w' => e = .returned (.bool true) ∧ W = w' by rw [← fig_at hd h]; exact specFigure_any s[k] W)
 have HC := hid (fun (k : Nat) (h : k < s.size) => dig_range hd h)
 have hp : (0 : Int) < (s.size : Int) := by omega
 unfold FigR
 by_cases h9 : s.size ≤ 9
 ·rw [if_pos h9]
  obtain ⟨N, hN⟩ : ∃ N : Nat → Int, N = numTo s := ⟨_, rfl⟩
  have HS := hid (fun (k : Nat) (h : k < s.size) => show N (k + 1) = 10 * N k + ((s[k].toNat : Int) - 48) by rw [hN]; exact numTo_succ h)
  have HR := hid (fun (k : Nat) => show 0 ≤ N k ∧ N k ≤ 999999999 by rw [hN]; exact numTo_small hd h9 k)
  have hz : N 0 = 0 := by rw [hN]; rfl
  have hv : numD s.data.toList = N s.size := by rw [hN, numTo_all]
  rw [hv]
  have hn9 : ¬ (9 : Int) < (s.size : Int) := by omega
  clear hv hN hd
  go_enter func199, ntmps199
  go_wp2
  go_loopw [4, 5] (fun v i wr => wr = w ∧ ∃ k : Nat, k ≤ s.size ∧ i = .int .i64 k ∧ v = .int .i64 (N k)) (fun _ i _ => s.size - (intOf i).toNat)
  case atStart => exact ⟨rfl, 0, Nat.zero_le _, rfl, by rw [hz]⟩
  case round =>
   obtain ⟨rfl, k, hk, rfl, rfl⟩ := hrel
   by_cases hlt : k < s.size
   ·have hst := hid (HS.out k hlt)
    obtain ⟨r1, r2⟩ := HR.out k
    obtain ⟨c1, c2⟩ := HC.out k hlt
    have HFk := hid (HF.out k hlt)
    go_wp2_with (go_at_call 137; refine (HFk.out _).mono ?_; rintro e w5 ⟨rfl, rfl⟩)
    go_roundw
    case rel => exact ⟨by first | rfl | trivial, k + 1, by omega, by go_num, by rw [hst.out]; congr 1; omega⟩
    case measure => simp [intOf]; omega
   ·obtain rfl : k = s.size := by omega
    go_wp2
    refine bodyPost_ret (by simp [results, Tryz.results199, go_sem,]; try rfl) rfl ?_
    exact ⟨by first | rfl | (simp; omega), rfl⟩
 ·rw [if_neg h9]
  have hn9 : (9 : Int) < (s.size : Int) := by omega
  have HF0 := hid (HF.out 0 h0)
  obtain ⟨c1, c2⟩ := HC.out 0 h0
  clear hd HC HF
  go_enter func199, ntmps199
  go_wp2
  go_loopw [4, 5] (fun v i wr => wr = w ∧ i = .int .i64 0 ∧ v = .int .i64 0) (fun _ i _ => 0)
  case atStart => exact ⟨rfl, rfl, rfl⟩
  case round =>
   obtain ⟨rfl, rfl, rfl⟩ := hrel
   go_wp2_with (go_at_call 137; refine (HF0.out _).mono ?_; rintro e w5 ⟨rfl, rfl⟩)
   refine bodyPost_ret (by simp [results, Tryz.results199, go_sem,]; try rfl) rfl ?_
   exact ⟨rfl, rfl⟩
theorem arith_cases {t : ByteArray} (ha : arithT t = true) : ((t.toList == [43]) = true ∨ ((t.toList == [43]) = false ∧ (t.toList == [45]) = true) ∨ ((t.toList == [43]) = false ∧ (t.toList == [45]) = false ∧ (t.toList == [42]) = true)) := by
 unfold arithT isT at ha
 cases h1 : (t.toList == [43]) with
 | true => left; rfl
 | false =>
  cases h2 : (t.toList == [45]) with
  | true => right; left; exact ⟨rfl, rfl⟩
  | false =>
   rw [h1, h2] at ha
   right; right; refine ⟨rfl, rfl, ?_⟩
   rwa [Bool.false_or, Bool.false_or] at ha
theorem specConst_all (A : Option Addr) (n c : Nat) (ps : List PN) (m : Nat) (hF : TreeF ps m) : ∀ k, k < n → ∀ w, Nps w A n ps → Calls prog 160 #[.slice A n c, .int .i64 (k : Int)] w (ConstR (constV ps k) w) := by
 intro k
 induction k using Nat.strongRecOn with
 | ind k ih =>
 intro hk w hps
 obtain ⟨x, hx⟩ := hps.get hk
 have hlen := hps.len
 have hml := hF.tree.len
 have HIH := hid ih
 have HPS := hid hps
 have hcl := constN_lt hF.tree.good hF.par hx
 have HG := hid (hF.tree.good k x hx)
 obtain ⟨b, off, A', c', rfl, hblt, x0, x1, x2, x3, hxr⟩ := hps.at_ hk hx
 rw [hcl]
 have hb0 : Below w.heap.size w (w.alloc (.cells #[.int .i64 x.kind, .string x.text, .slice A' x.kids.length c', .bool x.blank] 48)) := grow_
 by_cases h2 : x.kind = 2
 ·rw [if_pos h2]
  have hN := hF.num k x hx h2
  obtain ⟨hp0, hp1, _⟩ := hF.numPos hx h2
  rw [h2] at x0
  clear hcl hps ih hxr hx
  obtain ⟨kd, tx, ks, bl⟩ := x
  simp only at *
  subst h2
  have HNU := hid (fun W => figures_any tx W hN hp0 hp1)
  show Calls _ _ _ _ (ConstR (FigR tx) w)
  unfold ConstR
  generalize FigR tx = V at HNU ⊢
  go_enter func160, ntmps160
  go_wp2_with (go_at_call 199; refine (HNU.out _).mono ?_; rintro e w1 ⟨rfl, rfl⟩)
  refine bodyPost_ret (by simp [results, Tryz.results160, go_sem,]; try rfl) rfl ?_
  exact ⟨rfl, hb0⟩
 rw [if_neg h2]
 have e2 : (x.kind == 2) = false := beq_eq_false_iff_ne.2 h2
 by_cases h11 : x.kind = 11
 ·rw [if_pos h11]
  have hp1 := hF.par k x hx h11
  obtain ⟨hq1, hq2⟩ := kid0_lt hF.tree.good hx (by rw [hp1]; omega)
  obtain ⟨b5, off5, rfl, hblt5, cv⟩ := int_at hxr (by omega) hq1
  simp only [Nat.add_zero] at cv
  have HC := hid (fun W (hW : Below w.heap.size w W) => HIH.out (kid0 x) hq2 (by omega) W (HPS.out.next hW))
  unfold ConstR at HC ⊢
  generalize constV ps (kid0 x) = V at HC ⊢
  have HB0 := hid hb0
  rw [h11] at x0 hb0 HB0 e2
  rw [hp1] at x2 hb0 HB0
  clear hcl hps ih hxr hx h2
  go_enter func160, ntmps160
  go_wp2_with fail
  refine (HC.out _ (by first | exact HB0.out | (rw [h11, hp1]; exact HB0.out))).mono ?_
  rintro e w2 ⟨rfl, h2⟩
  have hbb := below_next HB0.out h2
  clear x0 x1 x2 x3 cv
  go_wp2
  refine bodyPost_ret (by simp [results, Tryz.results160, go_sem,]; try rfl) rfl ?_
  exact ⟨rfl, hbb⟩
 rw [if_neg h11]
 have e11 : (x.kind == 11) = false := beq_eq_false_iff_ne.2 h11
 by_cases h7 : x.kind = 7
 ·rw [if_pos h7]
  have hk2 := hF.chain hx h7
  have hmem : ∀ v ∈ x.kids, v.toNat < k := fun v hv => by have := HG.out.2 v hv; omega
  have hnn : ∀ v ∈ x.kids, ((v.toNat : Nat) : Int) = v := fun v hv => by have := HG.out.2 v hv; omega
  have HI9 := hid (fun v (hv : v ∈ x.kids) => constV_in9 hF.tree.good hF.par hF.num v.toNat (by have := hmem v hv; omega))
  have HCV := hid (fun v (hv : v ∈ x.kids) W (hW : Below w.heap.size w W) => show Calls prog 160 #[.slice (some ⟨b, off, none⟩) n c, .int .i64 v] W (ConstR (constV ps v.toNat) W) by
    have := HIH.out v.toNat (hmem v hv) (by have := hmem v hv; omega) W (HPS.out.next hW)
    rwa [hnn v hv] at this)
  have HXR := hid (fun W (hW : Below w.heap.size w W) => hxr.next hW)
  have HB0 := hid hb0
  have hk12 := HG.out.1
  obtain ⟨go, hgo⟩ : ∃ go, constV ps = go := ⟨_, rfl⟩
  rw [hgo] at HI9 HCV ⊢
  have K := Blk.new w 48 #[.int .i64 x.kind, .string x.text, .slice A' x.kids.length c', .bool x.blank]
  rw [h7] at x0 hb0 HB0 e2 e11 K
  obtain ⟨kd, tx, ks, bl⟩ := x
  simp only at *
  clear hcl hps ih hxr hx h2 h11 hmem hnn hgo
  unfold ConstR at HCV ⊢
  cases ha : arithT tx with
  | false =>
   rw [if_neg (by decide)]
   unfold arithT isT at ha
   simp only [Bool.or_eq_false_iff] at ha
   obtain ⟨h1, h2, h3⟩ := ha
   have h1' : (tx.toList != [43]) = true := by rw [bne, h1]; rfl
   have h2' : (tx.toList != [45]) = true := by rw [bne, h2]; rfl
   have h3' : (tx.toList != [42]) = true := by rw [bne, h3]; rfl
   go_enter func160, ntmps160
   go_wp2
   refine bodyPost_ret (by simp [results, Tryz.results160, go_sem,]; try rfl) rfl ?_
   exact ⟨rfl, HB0.out⟩
  | true =>
   rw [if_pos rfl]
   have h3 := arith_cases ha
   have HA0 : Hid (ChAt go tx ks 0 0 (chainA go tx ks)) := .inl ⟨rfl, rfl, rfl⟩
   generalize chainA go tx ks = R at HA0 ⊢
   obtain ⟨v0, hd0⟩ : ∃ d, ks[0]? = some d := ⟨_, gE (by omega)⟩
   have HC0 := hid (HCV.out v0 (List.mem_of_getElem? hd0))
   obtain ⟨b5, off5, rfl, hblt5, cv⟩ := int_at (HXR.out w (Below.refl _ _)) (by omega) hd0
   simp only [Nat.add_zero] at cv
   have HST : Hid (∃ (a : Int) (ok : Bool), (go v0.toNat).getD 0 = a ∧ (go v0.toNat).isSome = ok ∧ (-1000000000 ≤ a ∧ a ≤ 1000000000) ∧ (ok = true → ChAt go tx ks 1 a R) ∧ (ok = false → R = none)) := by
    cases hg : go v0.toNat with
    | none => exact ⟨0, false, rfl, rfl, by omega, (fun h => by cases h), fun _ => chAt_bad HA0.out hd0 hg⟩
    | some a => exact ⟨a, true, rfl, rfl, HI9.out v0 (List.mem_of_getElem? hd0) a hg, (fun _ => chAt_first HA0.out hd0 hg), (fun h => by cases h)⟩
   obtain ⟨a0, ok0, he1, he2, hab, hok, hno⟩ := HST.out
   rw [he1, he2] at HC0
   have HOK := hid hok
   have HNO := hid hno
   have HK := hid K
   clear hd0 he1 he2 hok hno HST ha K
   go_enter func160, ntmps160
   go_upto_region 8 with fail
   go_cut [49] (fun s wx => s = .bool false ∧ Hid (Below (w.alloc (.cells #[.int .i64 7, .string tx, .slice (some ⟨b5, off5, none⟩) ks.length c', .bool bl] 48)).heap.size (w.alloc (.cells #[.int .i64 7, .string tx, .slice (some ⟨b5, off5, none⟩) ks.length c', .bool bl] 48)) wx))
   case first =>
    have ac1 := HK.out.q1
    have az := HK.out.lt
    rcases h3 with q1 | ⟨q1, q2⟩ | ⟨q1, q2, q3⟩
    ·have q1' : (tx.toList != [43]) = false := by rw [bne, q1]; rfl
     go_wp2_with fail
     all_goals (go_meet; exact ⟨by first | rfl | simp [q1], hid (Below.refl _ _)⟩)
    ·have q1' : (tx.toList != [43]) = true := by rw [bne, q1]; rfl
     have q2' : (tx.toList != [45]) = false := by rw [bne, q2]; rfl
     go_wp2_with fail
     all_goals (go_meet; exact ⟨by first | rfl | simp [q2], hid (Below.refl _ _)⟩)
    ·have q1' : (tx.toList != [43]) = true := by rw [bne, q1]; rfl
     have q2' : (tx.toList != [45]) = true := by rw [bne, q2]; rfl
     have q3' : (tx.toList != [42]) = false := by rw [bne, q3]; rfl
     go_wp2_with fail
     all_goals (go_meet; exact ⟨by first | rfl | simp [q3], hid (Below.refl _ _)⟩)
   case rest =>
   obtain ⟨rfl, hc⟩ := hcut
   have K2 := HK.out.next hc.out
   have hbw := below_next HB0.out hc.out
   have ac2 := K2.q2
   have az := K2.lt
   have cv2 := ((bcell hbw).1 _ _ hblt5).trans cv
   have HBW := hid hbw
   have HK2 := hid K2
   have hb5w := Nat.lt_of_lt_of_le hblt5 hbw.size
   clear HK hc K2 hbw cv hblt5 HB0 hb0 x0 x1 x2 x3 hblt
   go_wp2_with fail
   refine (HC0.out _ HBW.out).mono ?_
   rintro e w2 ⟨rfl, h2⟩
   have HK3 := hid (HK2.out.next h2)
   have HB2 := hid (below_next HBW.out h2)
   clear ac2 az cv2 HK2 HBW h2 hb5w
   go_wp2
   go_loopw [7, 8, 9] (fun s7 s8 s9 wr => ∃ (i : Nat) (a : Int) (ok : Bool), 1 ≤ i ∧ i ≤ ks.length ∧ s9 = .int .i64 i ∧ s7 = .int .i64 a ∧ s8 = .bool ok ∧ (-1000000000000000000 ≤ a ∧ a ≤ 1000000000000000000) ∧ Hid (ok = true → (-1000000000 ≤ a ∧ a ≤ 1000000000) ∧ ChAt go tx ks i a R) ∧ Hid (ok = false → R = none) ∧ Hid (Blk wr w.heap.size 48 #[.int .i64 7, .string tx, .slice (some ⟨b5, off5, none⟩) ks.length c', .bool bl]) ∧ Hid (Below w.heap.size w wr)) (fun _ s8 s9 _ => ks.length - (intOf s9).toNat)
   case atStart => exact ⟨1, a0, ok0, Nat.le_refl _, by omega, rfl, rfl, rfl, by omega, hid (fun h => ⟨hab, HOK.out h⟩), HNO.out, HK3.out, HB2.out⟩
   case round =>
    clear HOK HNO HK3 HB2
    obtain ⟨i, a, ok, hi1, hi2, rfl, rfl, rfl, hab2, HOK, HNO, HK3, HB2⟩ := hrel
    have ac1 := HK3.out.q1
    have ac2 := HK3.out.q2
    have az := HK3.out.lt
    cases ok with
    | false =>
     have hR := HNO.out rfl
     subst hR
     by_cases hlt : i < ks.length
     ·have hlt2 : (i : Int) < (ks.length : Int) := by omega
      go_wp2
      refine bodyPost_ret (by simp [results, Tryz.results160, go_sem,]; try rfl) rfl ?_
      exact ⟨rfl, HB2.out⟩
     ·have hlt2 : ¬ (i : Int) < (ks.length : Int) := by omega
      go_wp2
      refine bodyPost_ret (by simp [results, Tryz.results160, go_sem,]; try rfl) rfl ?_
      exact ⟨rfl, HB2.out⟩
    | true =>
     obtain ⟨hab3, hch⟩ := HOK.out rfl
     by_cases hlt : i < ks.length
     ·have hlt2 : (i : Int) < (ks.length : Int) := by omega
      obtain ⟨v, hd⟩ : ∃ d, ks[i]? = some d := ⟨_, List.getElem?_eq_getElem hlt⟩
      obtain ⟨b6, off6, e6, hblt6, cv⟩ := int_at (HXR.out wr HB2.out) hlt hd
      injection e6 with e6; injection e6 with e61 e62; subst e61; subst e62
      have HCi := hid (HCV.out v (List.mem_of_getElem? hd) wr HB2.out)
      have h9 := HI9.out v (List.mem_of_getElem? hd)
      have HCH := hid hch
      have HD := hid hd
      clear hd hch HOK HNO
      cases hg : go v.toNat with
      | none =>
       rw [hg] at HCi
       have hR : R = none := chAt_bad HCH.out HD.out hg
       subst hR
       clear HCH hg
       rcases h3 with q1 | ⟨q1, q2⟩ | ⟨q1, q2, q3⟩
       all_goals
        go_wp2_with fail
        refine HCi.out.mono ?_
        rintro e w5 ⟨rfl, h5⟩
        have HK5 := hid (HK3.out.next h5)
        have HB5 := hid (below_next HB2.out h5)
        clear ac1 ac2 az cv h5
        have ac1 := HK5.out.q1
        have az := HK5.out.lt
        go_wp2
        go_roundw
        case rel => exact ⟨i + 1, _, false, by omega, by omega, by go_num, rfl, rfl, by omega, hid (fun h => by cases h), hid (fun _ => (by first | rfl | trivial)), HK5.out, HB5.out⟩
        case measure => simp [intOf]; omega
      | some b9 =>
       rw [hg] at HCi
       have hb9 := h9 b9 hg
       have hpb := prod_le hab3 hb9
       have HNX := hid (fun h4 => chAt_next HCH.out (by omega) HD.out hg h4)
       have HOX := hid (fun h4 => chAt_out HCH.out (by omega) HD.out hg h4)
       have hsp : opV tx a b9 = a + b9 ∨ opV tx a b9 = a - b9 ∨ opV tx a b9 = a * b9 := by unfold opV; split; exact .inl rfl; split; exact .inr (.inl rfl); exact .inr (.inr rfl)
       clear HCH hg
       rcases h3 with q1 | ⟨q1, q2⟩ | ⟨q1, q2, q3⟩
       ·have hop : opV tx a b9 = a + b9 := by unfold opV isT; rw [q1]; rfl
        rw [hop] at HNX HOX
        cases hin : inB (a + b9) (-1000000000) 1000000000 with
        | true =>
         have HIN := hid (fun W => l01In_is' hin W)
         have hq := of_decide_eq_true hin
         have HN2 := hid (HNX.out hin)
         clear HNX HOX hop hin
         go_wp2_with fail
         refine HCi.out.mono ?_
         rintro e w5 ⟨rfl, h5⟩
         have HK5 := hid (HK3.out.next h5)
         have HB5 := hid (below_next HB2.out h5)
         clear ac1 ac2 az cv h5
         have ac1 := HK5.out.q1
         have az := HK5.out.lt
         go_wp2_with (go_at_call 97; refine (HIN.out _).mono ?_; rintro e w6 ⟨rfl, rfl⟩)
         go_roundw
         case rel => exact ⟨i + 1, a + b9, true, by omega, by omega, by go_num, rfl, rfl, by omega, hid (fun _ => ⟨hq, HN2.out⟩), hid (fun h => by cases h), HK5.out, HB5.out⟩
         case measure => simp [intOf]; omega
        | false =>
         have HIN := hid (fun W => l01In_is' hin W)
         have hR := HOX.out hin
         subst hR
         clear HNX HOX hop hin
         go_wp2_with fail
         refine HCi.out.mono ?_
         rintro e w5 ⟨rfl, h5⟩
         have HK5 := hid (HK3.out.next h5)
         have HB5 := hid (below_next HB2.out h5)
         clear ac1 ac2 az cv h5
         have ac1 := HK5.out.q1
         have az := HK5.out.lt
         go_wp2_with (go_at_call 97; refine (HIN.out _).mono ?_; rintro e w6 ⟨rfl, rfl⟩)
         go_roundw
         case rel => exact ⟨i + 1, a + b9, false, by omega, by omega, by go_num, rfl, rfl, by omega, hid (fun h => by cases h), hid (fun _ => (by first | rfl | trivial)), HK5.out, HB5.out⟩
         case measure => simp [intOf]; omega
       ·have hop : opV tx a b9 = a - b9 := by unfold opV isT; rw [q1, q2]; rfl
        rw [hop] at HNX HOX
        cases hin : inB (a - b9) (-1000000000) 1000000000 with
        | true =>
         have HIN := hid (fun W => l01In_is' hin W)
         have hq := of_decide_eq_true hin
         have HN2 := hid (HNX.out hin)
         clear HNX HOX hop hin
         go_wp2_with fail
         refine HCi.out.mono ?_
         rintro e w5 ⟨rfl, h5⟩
         have HK5 := hid (HK3.out.next h5)
         have HB5 := hid (below_next HB2.out h5)
         clear ac1 ac2 az cv h5
         have ac1 := HK5.out.q1
         have az := HK5.out.lt
         go_wp2_with (go_at_call 97; refine (HIN.out _).mono ?_; rintro e w6 ⟨rfl, rfl⟩)
         go_roundw
         case rel => exact ⟨i + 1, a - b9, true, by omega, by omega, by go_num, rfl, rfl, by omega, hid (fun _ => ⟨hq, HN2.out⟩), hid (fun h => by cases h), HK5.out, HB5.out⟩
         case measure => simp [intOf]; omega
        | false =>
         have HIN := hid (fun W => l01In_is' hin W)
         have hR := HOX.out hin
         subst hR
         clear HNX HOX hop hin
         go_wp2_with fail
         refine HCi.out.mono ?_
         rintro e w5 ⟨rfl, h5⟩
         have HK5 := hid (HK3.out.next h5)
         have HB5 := hid (below_next HB2.out h5)
         clear ac1 ac2 az cv h5
         have ac1 := HK5.out.q1
         have az := HK5.out.lt
         go_wp2_with (go_at_call 97; refine (HIN.out _).mono ?_; rintro e w6 ⟨rfl, rfl⟩)
         go_roundw
         case rel => exact ⟨i + 1, a - b9, false, by omega, by omega, by go_num, rfl, rfl, by omega, hid (fun h => by cases h), hid (fun _ => (by first | rfl | trivial)), HK5.out, HB5.out⟩
         case measure => simp [intOf]; omega
       ·have hop : opV tx a b9 = a * b9 := by unfold opV isT; rw [q1, q2]; rfl
        rw [hop] at HNX HOX
        cases hin : inB (a * b9) (-1000000000) 1000000000 with
        | true =>
         have HIN := hid (fun W => l01In_is' hin W)
         have hq := of_decide_eq_true hin
         have HN2 := hid (HNX.out hin)
         clear HNX HOX hop hin
         go_wp2_with fail
         refine HCi.out.mono ?_
         rintro e w5 ⟨rfl, h5⟩
         have HK5 := hid (HK3.out.next h5)
         have HB5 := hid (below_next HB2.out h5)
         clear ac1 ac2 az cv h5
         have ac1 := HK5.out.q1
         have az := HK5.out.lt
         go_wp2_with (go_at_call 97; refine (HIN.out _).mono ?_; rintro e w6 ⟨rfl, rfl⟩)
         go_roundw
         case rel => exact ⟨i + 1, a * b9, true, by omega, by omega, by go_num, rfl, rfl, by omega, hid (fun _ => ⟨hq, HN2.out⟩), hid (fun h => by cases h), HK5.out, HB5.out⟩
         case measure => simp [intOf]; omega
        | false =>
         have HIN := hid (fun W => l01In_is' hin W)
         have hR := HOX.out hin
         subst hR
         clear HNX HOX hop hin
         go_wp2_with fail
         refine HCi.out.mono ?_
         rintro e w5 ⟨rfl, h5⟩
         have HK5 := hid (HK3.out.next h5)
         have HB5 := hid (below_next HB2.out h5)
         clear ac1 ac2 az cv h5
         have ac1 := HK5.out.q1
         have az := HK5.out.lt
         go_wp2_with (go_at_call 97; refine (HIN.out _).mono ?_; rintro e w6 ⟨rfl, rfl⟩)
         go_roundw
         case rel => exact ⟨i + 1, a * b9, false, by omega, by omega, by go_num, rfl, rfl, by omega, hid (fun h => by cases h), hid (fun _ => (by first | rfl | trivial)), HK5.out, HB5.out⟩
         case measure => simp [intOf]; omega
     ·have hlt2 : ¬ (i : Int) < (ks.length : Int) := by omega
      have hR := chAt_end hch (by omega)
      subst hR
      go_wp2
      refine bodyPost_ret (by simp [results, Tryz.results160, go_sem,]; try rfl) rfl ?_
      exact ⟨rfl, HB2.out⟩
 rw [if_neg h7]
 have e7 : (x.kind == 7) = false := beq_eq_false_iff_ne.2 h7
 clear hcl hps ih hxr hx h2 h11 h7
 go_enter func160, ntmps160
 go_wp2
 refine bodyPost_ret (by simp [results, Tryz.results160, go_sem,]; try rfl) rfl ?_
 exact ⟨rfl, hb0⟩
def FoldR (v : Option Int) (w : World) (e : Ending) (w' : World) : Prop := ∃ q, e = .returned (.tuple #[.int .i64 q, .bool v.isSome]) ∧ (∀ u, v = some u → q = u) ∧ Below w.heap.size w w'
theorem specFoldable_any (A : Option Addr) (n c : Nat) (ps : List PN) (m : Nat) (hF : TreeF ps m) (k : Nat) (hk : k < n) (w : World) (hps : Nps w A n ps) :
  Calls prog 112 #[.slice A n c, .int .i64 (k : Int)] w (FoldR (leafV ps k) w) := by
 obtain ⟨x, hx⟩ := hps.get hk
 have HC := hid (specConst_all A n c ps m hF k hk w hps)
 rw [leafV_of hx]
 obtain ⟨b, off, A', c', rfl, hblt, x0, x1, x2, x3, hxr⟩ := hps.at_ hk hx
 unfold ConstR at HC
 by_cases h7 : x.kind = 7
 ·rw [if_pos h7]
  rw [h7] at x0
  clear hps hxr hx x1 x2 x3
  cases hv : constV ps k with
  | none =>
   rw [hv] at HC
   dsimp only
   go_enter func112, ntmps112
   go_wp2_with fail
   refine HC.out.mono ?_
   rintro e w2 ⟨rfl, h2⟩
   clear x0
   go_wp2
   refine bodyPost_ret (by simp [results, Tryz.results112, go_sem,]; try rfl) rfl ?_
   exact ⟨0, rfl, (fun u h => by cases h), grow_⟩
  | some v =>
   rw [hv] at HC
   dsimp only
   cases hin : inB v 0 999999999 with
   | true =>
    rw [if_pos (of_decide_eq_true hin)]
    have HIN := hid (fun W => l01In_is' hin W)
    go_enter func112, ntmps112
    go_wp2_with fail
    refine HC.out.mono ?_
    rintro e w2 ⟨rfl, h2⟩
    clear x0
    go_wp2_with (go_at_call 97; refine (HIN.out _).mono ?_; rintro e w6 ⟨rfl, rfl⟩)
    refine bodyPost_ret (by simp [results, Tryz.results112, go_sem,]; try rfl) rfl ?_
    exact ⟨v, rfl, (fun u h => Option.some.inj h), grow_⟩
   | false =>
    rw [if_neg (of_decide_eq_false hin)]
    have HIN := hid (fun W => l01In_is' hin W)
    go_enter func112, ntmps112
    go_wp2_with fail
    refine HC.out.mono ?_
    rintro e w2 ⟨rfl, h2⟩
    clear x0
    go_wp2_with (go_at_call 97; refine (HIN.out _).mono ?_; rintro e w6 ⟨rfl, rfl⟩)
    refine bodyPost_ret (by simp [results, Tryz.results112, go_sem,]; try rfl) rfl ?_
    exact ⟨v, rfl, (fun u h => by cases h), grow_⟩
 ·rw [if_neg h7]
  have e7 : (x.kind != 7) = true := by rw [bne, beq_eq_false_iff_ne.2 h7]; rfl
  clear hps hxr hx x1 x2 x3 h7
  go_enter func112, ntmps112
  go_wp2
  refine bodyPost_ret (by simp [results, Tryz.results112, go_sem,]; try rfl) rfl ?_
  exact ⟨0, rfl, (fun u h => by cases h), grow_⟩
end Go.Proofs.YtgaajcbklkchjaaGreatDoor

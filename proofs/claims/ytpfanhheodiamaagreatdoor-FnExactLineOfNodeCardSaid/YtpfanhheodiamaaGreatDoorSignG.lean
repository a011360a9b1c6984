
/-
  Contracts: has a node the text of its kind (impl.textFits). Written by program (gen_signg.py).
-/
import Derived.Test.YtpfanhheodiamaaGreatDoorSignF
namespace Go.Proofs.YtpfanhheodiamaaGreatDoor
open Go.RowKit
set_option linter.unusedVariables false
set_option linter.unusedSimpArgs false

theorem textB_name {kind : Int} (h : kind = 1 ∨ kind = 6 ∨ kind = 12 ∨ kind = 13 ∨ kind = 20 ∨ kind = 21) (s : ByteArray) : textB kind s = nameB s := by unfold textB; rw [if_pos h]
theorem textB_sign {kind : Int} {j : Int} (h : (kind = 2 ∧ j = 2) ∨ (kind = 3 ∧ j = 3) ∨ (kind = 19 ∧ j = 5)) (s : ByteArray) : textB kind s = signB s j := by
  rcases h with ⟨rfl, rfl⟩ | ⟨rfl, rfl⟩ | ⟨rfl, rfl⟩ <;> rfl
theorem textB_chain (s : ByteArray) : textB 7 s = chainB s := rfl
theorem textB_rest {kind : Int} (h : kind ≠ 1 ∧ kind ≠ 6 ∧ kind ≠ 12 ∧ kind ≠ 13 ∧ kind ≠ 20 ∧ kind ≠ 21 ∧ kind ≠ 2 ∧ kind ≠ 3 ∧ kind ≠ 19 ∧ kind ≠ 7) (s : ByteArray) : textB kind s = decide (s.size = 0) := by
  unfold textB; rw [if_neg (by omega), if_neg (by omega), if_neg (by omega), if_neg (by omega), if_neg (by omega)]
theorem size_zero_beq (s : ByteArray) : (s.toList == []) = decide (s.size = 0) := by
  by_cases h : s.size = 0
  · rw [decide_eq_true h, beq_iff_eq, ByteArray.toList_eq]; exact List.eq_nil_of_length_eq_zero (by rw [ba_len]; exact h)
  · rw [decide_eq_false h]; exact toList_ne_len h
set_option maxHeartbeats 1600000 in
theorem textFits_name (kind : Int) (s : ByteArray) (A : Option Addr) (n c : Nat) (z : Bool) (w : World) (hs : s.size ≤ maxLen) (hk : kind = 1 ∨ kind = 6 ∨ kind = 12 ∨ kind = 13 ∨ kind = 20 ∨ kind = 21) :
    Calls Tryz.prog 105 #[.agg #[.int .i64 kind, .string s, .slice A n c, .bool z]] w fun e w' => e = .returned (.bool (textB kind s)) ∧ Below w.heap.size w w' := by
  rw [textB_name hk]
  have H := Lib.hid (fun W => implIsName_any s W hs)
  generalize nameB s = u at H ⊢
  rcases hk with rfl | rfl | rfl | rfl | rfl | rfl
  all_goals
    go_enter Tryz.func105, Tryz.ntmps105
    go_wp2_with (go_at_call 144; refine (H.out _).mono ?_; rintro e w1 ⟨rfl, h2⟩)
    go_ret
    exact ⟨rfl, below_box h2⟩
set_option maxHeartbeats 1600000 in
theorem textFits_sign (kind : Int) (s : ByteArray) (A : Option Addr) (n c : Nat) (z : Bool) (w : World) (hs : s.size ≤ maxLen) (j : Int) (hk : (kind = 2 ∧ j = 2) ∨ (kind = 3 ∧ j = 3) ∨ (kind = 19 ∧ j = 5)) :
    Calls Tryz.prog 105 #[.agg #[.int .i64 kind, .string s, .slice A n c, .bool z]] w fun e w' => e = .returned (.bool (textB kind s)) ∧ Below w.heap.size w w' := by
  rw [textB_sign hk]
  have H := Lib.hid (fun W => implIsSign_any s j W hs (by omega))
  generalize signB s j = u at H ⊢
  rcases hk with ⟨rfl, rfl⟩ | ⟨rfl, rfl⟩ | ⟨rfl, rfl⟩
  all_goals
    go_enter Tryz.func105, Tryz.ntmps105
    go_wp2_with (go_at_call 145; refine (H.out _).mono ?_; rintro e w1 ⟨rfl, h2⟩)
    go_ret
    exact ⟨rfl, below_box h2⟩
set_option maxHeartbeats 1600000 in
theorem textFits_chain (s : ByteArray) (A : Option Addr) (n c : Nat) (z : Bool) (w : World) :
    Calls Tryz.prog 105 #[.agg #[.int .i64 7, .string s, .slice A n c, .bool z]] w fun e w' => e = .returned (.bool (textB 7 s)) ∧ Below w.heap.size w w' := by
  rw [textB_chain]
  cases h0 : (s.toList == [38, 38]) with
  | true =>
    have hk : chainB s = true := by unfold chainB; simp only [h0, Bool.or_true, Bool.true_or]
    rw [hk]; clear hk
    go_enter Tryz.func105, Tryz.ntmps105
    go_wp2
    go_ret
    exact ⟨rfl, (by repeat' (first | (with_reducible exact Below.refl _ _) | (with_reducible assumption) | (with_reducible refine below_drewN ?_ _) | (with_reducible refine Below.drew ?_) | (with_reducible refine Below.alloc ?_ ?_ _) | (with_reducible refine Below.setCell ?_ ?_ _) | go_size))⟩
  | false =>
  cases h1 : (s.toList == [124, 124]) with
  | true =>
    have hk : chainB s = true := by unfold chainB; simp only [h1, Bool.or_true, Bool.true_or]
    rw [hk]; clear hk
    go_enter Tryz.func105, Tryz.ntmps105
    go_wp2
    go_ret
    exact ⟨rfl, (by repeat' (first | (with_reducible exact Below.refl _ _) | (with_reducible assumption) | (with_reducible refine below_drewN ?_ _) | (with_reducible refine Below.drew ?_) | (with_reducible refine Below.alloc ?_ ?_ _) | (with_reducible refine Below.setCell ?_ ?_ _) | go_size))⟩
  | false =>
  cases h2 : (s.toList == [61, 61]) with
  | true =>
    have hk : chainB s = true := by unfold chainB; simp only [h2, Bool.or_true, Bool.true_or]
    rw [hk]; clear hk
    go_enter Tryz.func105, Tryz.ntmps105
    go_wp2
    go_ret
    exact ⟨rfl, (by repeat' (first | (with_reducible exact Below.refl _ _) | (with_reducible assumption) | (with_reducible refine below_drewN ?_ _) | (with_reducible refine Below.drew ?_) | (with_reducible refine Below.alloc ?_ ?_ _) | (with_reducible refine Below.setCell ?_ ?_ _) | go_size))⟩
  | false =>
  cases h3 : (s.toList == [60]) with
  | true =>
    have hk : chainB s = true := by unfold chainB; simp only [h3, Bool.or_true, Bool.true_or]
    rw [hk]; clear hk
    go_enter Tryz.func105, Tryz.ntmps105
    go_wp2
    go_ret
    exact ⟨rfl, (by repeat' (first | (with_reducible exact Below.refl _ _) | (with_reducible assumption) | (with_reducible refine below_drewN ?_ _) | (with_reducible refine Below.drew ?_) | (with_reducible refine Below.alloc ?_ ?_ _) | (with_reducible refine Below.setCell ?_ ?_ _) | go_size))⟩
  | false =>
  cases h4 : (s.toList == [43]) with
  | true =>
    have hk : chainB s = true := by unfold chainB; simp only [h4, Bool.or_true, Bool.true_or]
    rw [hk]; clear hk
    go_enter Tryz.func105, Tryz.ntmps105
    go_wp2
    go_ret
    exact ⟨rfl, (by repeat' (first | (with_reducible exact Below.refl _ _) | (with_reducible assumption) | (with_reducible refine below_drewN ?_ _) | (with_reducible refine Below.drew ?_) | (with_reducible refine Below.alloc ?_ ?_ _) | (with_reducible refine Below.setCell ?_ ?_ _) | go_size))⟩
  | false =>
  cases h5 : (s.toList == [45]) with
  | true =>
    have hk : chainB s = true := by unfold chainB; simp only [h5, Bool.or_true, Bool.true_or]
    rw [hk]; clear hk
    go_enter Tryz.func105, Tryz.ntmps105
    go_wp2
    go_ret
    exact ⟨rfl, (by repeat' (first | (with_reducible exact Below.refl _ _) | (with_reducible assumption) | (with_reducible refine below_drewN ?_ _) | (with_reducible refine Below.drew ?_) | (with_reducible refine Below.alloc ?_ ?_ _) | (with_reducible refine Below.setCell ?_ ?_ _) | go_size))⟩
  | false =>
  cases h6 : (s.toList == [42]) with
  | true =>
    have hk : chainB s = true := by unfold chainB; simp only [h6, Bool.or_true, Bool.true_or]
    rw [hk]; clear hk
    go_enter Tryz.func105, Tryz.ntmps105
    go_wp2
    go_ret
    exact ⟨rfl, (by repeat' (first | (with_reducible exact Below.refl _ _) | (with_reducible assumption) | (with_reducible refine below_drewN ?_ _) | (with_reducible refine Below.drew ?_) | (with_reducible refine Below.alloc ?_ ?_ _) | (with_reducible refine Below.setCell ?_ ?_ _) | go_size))⟩
  | false =>
  have hk : chainB s = false := by unfold chainB; simp only [h0, h1, h2, h3, h4, h5, h6, Bool.or_self]
  rw [hk]; clear hk
  go_enter Tryz.func105, Tryz.ntmps105
  go_wp2
  go_ret
  exact ⟨rfl, (by repeat' (first | (with_reducible exact Below.refl _ _) | (with_reducible assumption) | (with_reducible refine below_drewN ?_ _) | (with_reducible refine Below.drew ?_) | (with_reducible refine Below.alloc ?_ ?_ _) | (with_reducible refine Below.setCell ?_ ?_ _) | go_size))⟩
set_option maxHeartbeats 1600000 in
theorem textFits_rest (kind : Int) (s : ByteArray) (A : Option Addr) (n c : Nat) (z : Bool) (w : World) (hs : s.size ≤ maxLen) (hk : kind ≠ 1 ∧ kind ≠ 6 ∧ kind ≠ 12 ∧ kind ≠ 13 ∧ kind ≠ 20 ∧ kind ≠ 21 ∧ kind ≠ 2 ∧ kind ≠ 3 ∧ kind ≠ 19 ∧ kind ≠ 7) :
    Calls Tryz.prog 105 #[.agg #[.int .i64 kind, .string s, .slice A n c, .bool z]] w fun e w' => e = .returned (.bool (textB kind s)) ∧ Below w.heap.size w w' := by
  rw [textB_rest hk, ← size_zero_beq]
  have d1 : (kind == 1) = false := by rw [beq_eq_false_iff_ne]; omega
  have d6 : (kind == 6) = false := by rw [beq_eq_false_iff_ne]; omega
  have d12 : (kind == 12) = false := by rw [beq_eq_false_iff_ne]; omega
  have d13 : (kind == 13) = false := by rw [beq_eq_false_iff_ne]; omega
  have d20 : (kind == 20) = false := by rw [beq_eq_false_iff_ne]; omega
  have d21 : (kind == 21) = false := by rw [beq_eq_false_iff_ne]; omega
  have d2 : (kind == 2) = false := by rw [beq_eq_false_iff_ne]; omega
  have d3 : (kind == 3) = false := by rw [beq_eq_false_iff_ne]; omega
  have d19 : (kind == 19) = false := by rw [beq_eq_false_iff_ne]; omega
  have d7 : (kind == 7) = false := by rw [beq_eq_false_iff_ne]; omega
  clear hk hs
  go_enter Tryz.func105, Tryz.ntmps105
  go_wp2
  go_ret
  refine ⟨ret_bool ?_, (by repeat' (first | (with_reducible exact Below.refl _ _) | (with_reducible assumption) | (with_reducible refine below_drewN ?_ _) | (with_reducible refine Below.drew ?_) | (with_reducible refine Below.alloc ?_ ?_ _) | (with_reducible refine Below.setCell ?_ ?_ _) | go_size))⟩
  first | rfl | exact List.isEmpty_eq_beq_nil | simp
theorem textFits_any (kind : Int) (s : ByteArray) (A : Option Addr) (n c : Nat) (z : Bool) (w : World) (hs : s.size ≤ maxLen) :
    Calls Tryz.prog 105 #[.agg #[.int .i64 kind, .string s, .slice A n c, .bool z]] w fun e w' => e = .returned (.bool (textB kind s)) ∧ Below w.heap.size w w' := by
  by_cases h1 : kind = 1 ∨ kind = 6 ∨ kind = 12 ∨ kind = 13 ∨ kind = 20 ∨ kind = 21
  · exact textFits_name kind s A n c z w hs h1
  · by_cases h2 : kind = 2
    · exact textFits_sign kind s A n c z w hs 2 (.inl ⟨h2, rfl⟩)
    · by_cases h3 : kind = 3
      · exact textFits_sign kind s A n c z w hs 3 (.inr (.inl ⟨h3, rfl⟩))
      · by_cases h4 : kind = 19
        · exact textFits_sign kind s A n c z w hs 5 (.inr (.inr ⟨h4, rfl⟩))
        · by_cases h5 : kind = 7
          · subst h5; exact textFits_chain s A n c z w
          · exact textFits_rest kind s A n c z w hs (by omega)
end Go.Proofs.YtpfanhheodiamaaGreatDoor


/-
  Contracts: bytes of signs (isFirst, isFigure, isInner, isPlain; l04First, l04Figure, l04Plain), key words.
-/
import Derived.Test.YtpfanhheodiamaaGreatDoorSignA
namespace Go.Proofs.YtpfanhheodiamaaGreatDoor
open Go.RowKit
set_option linter.unusedVariables false
set_option linter.unusedSimpArgs false

theorem firstC_yes {c : UInt8} (h : ((97 : Int) ≤ c.toNat ∧ (c.toNat : Int) ≤ 122) ∨ ((65 : Int) ≤ c.toNat ∧ (c.toNat : Int) ≤ 90) ∨ (c.toNat : Int) = 95) : true = firstC c := (decide_eq_true h).symm
theorem firstC_no {c : UInt8} (h : ¬ (((97 : Int) ≤ c.toNat ∧ (c.toNat : Int) ≤ 122) ∨ ((65 : Int) ≤ c.toNat ∧ (c.toNat : Int) ≤ 90) ∨ (c.toNat : Int) = 95)) : false = firstC c := (decide_eq_false h).symm
theorem figC_yes {c : UInt8} (h : (48 : Int) ≤ c.toNat ∧ (c.toNat : Int) ≤ 57) : true = figC c := (decide_eq_true h).symm
theorem figC_no {c : UInt8} (h : ¬ ((48 : Int) ≤ c.toNat ∧ (c.toNat : Int) ≤ 57)) : false = figC c := (decide_eq_false h).symm
theorem plainC_yes {c : UInt8} (h : (32 : Int) ≤ c.toNat ∧ (c.toNat : Int) ≤ 126) : true = plainC c := (decide_eq_true h).symm
theorem plainC_no {c : UInt8} (h : ¬ ((32 : Int) ≤ c.toNat ∧ (c.toNat : Int) ≤ 126)) : false = plainC c := (decide_eq_false h).symm

set_option maxHeartbeats 800000 in
theorem specFirst_any (c : UInt8) (w : World) : Calls Tryz.prog 117 #[.int .u8 c.toNat] w fun e w' => e = .returned (.bool (firstC c)) ∧ w = w' := by
  by_cases h1 : (97 : Int) ≤ c.toNat
  all_goals by_cases h2 : (c.toNat : Int) ≤ 122
  all_goals by_cases h3 : (65 : Int) ≤ c.toNat
  all_goals by_cases h4 : (c.toNat : Int) ≤ 90
  all_goals by_cases h5 : (c.toNat : Int) = 95
  all_goals try omega
  all_goals
    go_enter Tryz.func117, Tryz.ntmps117
    go_wp2
    go_ret
    refine ⟨ret_bool ?_, rfl⟩
    first | exact firstC_yes (c := c) (by omega) | exact firstC_no (c := c) (by omega) | (have d : ((c.toNat : Int) == 95) = false := (by rw [beq_eq_false_iff_ne]; omega); rw [d]; exact firstC_no (c := c) (by omega)) | (have d : decide ((c.toNat : Int) = 95) = false := decide_eq_false (by omega); rw [d]; exact firstC_no (c := c) (by omega))
set_option maxHeartbeats 800000 in
theorem implFirst_any (c : UInt8) (w : World) : Calls Tryz.prog 121 #[.int .u8 c.toNat] w fun e w' => e = .returned (.bool (firstC c)) ∧ w = w' := by
  by_cases h1 : (97 : Int) ≤ c.toNat
  all_goals by_cases h2 : (c.toNat : Int) ≤ 122
  all_goals by_cases h3 : (65 : Int) ≤ c.toNat
  all_goals by_cases h4 : (c.toNat : Int) ≤ 90
  all_goals by_cases h5 : (c.toNat : Int) = 95
  all_goals try omega
  all_goals
    go_enter Tryz.func121, Tryz.ntmps121
    go_wp2
    go_ret
    refine ⟨ret_bool ?_, rfl⟩
    first | exact firstC_yes (c := c) (by omega) | exact firstC_no (c := c) (by omega) | (have d : ((c.toNat : Int) == 95) = false := (by rw [beq_eq_false_iff_ne]; omega); rw [d]; exact firstC_no (c := c) (by omega)) | (have d : decide ((c.toNat : Int) = 95) = false := decide_eq_false (by omega); rw [d]; exact firstC_no (c := c) (by omega))
set_option maxHeartbeats 400000 in
theorem specFigure_any (c : UInt8) (w : World) : Calls Tryz.prog 118 #[.int .u8 c.toNat] w fun e w' => e = .returned (.bool (figC c)) ∧ w = w' := by
  by_cases h1 : (48 : Int) ≤ c.toNat
  all_goals by_cases h2 : (c.toNat : Int) ≤ 57
  all_goals
    go_enter Tryz.func118, Tryz.ntmps118
    go_wp2
    go_ret
    refine ⟨ret_bool ?_, rfl⟩
    first | exact figC_yes (by omega) | exact figC_no (by omega)
set_option maxHeartbeats 400000 in
theorem implFigure_any (c : UInt8) (w : World) : Calls Tryz.prog 124 #[.int .u8 c.toNat] w fun e w' => e = .returned (.bool (figC c)) ∧ w = w' := by
  by_cases h1 : (48 : Int) ≤ c.toNat
  all_goals by_cases h2 : (c.toNat : Int) ≤ 57
  all_goals
    go_enter Tryz.func124, Tryz.ntmps124
    go_wp2
    go_ret
    refine ⟨ret_bool ?_, rfl⟩
    first | exact figC_yes (by omega) | exact figC_no (by omega)
set_option maxHeartbeats 400000 in
theorem specPlain_any (c : UInt8) (w : World) : Calls Tryz.prog 153 #[.int .u8 c.toNat] w fun e w' => e = .returned (.bool (plainC c)) ∧ w = w' := by
  by_cases h1 : (32 : Int) ≤ c.toNat
  all_goals by_cases h2 : (c.toNat : Int) ≤ 126
  all_goals
    go_enter Tryz.func153, Tryz.ntmps153
    go_wp2
    go_ret
    refine ⟨ret_bool ?_, rfl⟩
    first | exact plainC_yes (by omega) | exact plainC_no (by omega)
set_option maxHeartbeats 400000 in
theorem implInner_any (c : UInt8) (w : World) : Calls Tryz.prog 123 #[.int .u8 c.toNat] w fun e w' => e = .returned (.bool (innerC c)) ∧ w = w' := by
  have H1 := Lib.hid (fun (b : Bool) (hb : firstC c = b) (W : World) => show Calls Tryz.prog 121 #[.int .u8 (c.toNat : Int)] W fun e w' => e = .returned (.bool b) ∧ W = w' by rw [← hb]; exact implFirst_any c W)
  cases hb : firstC c with
  | true =>
    have H2 := Lib.hid (H1.out _ hb)
    have hi : innerC c = true := by unfold innerC; rw [hb]; rfl
    rw [hi]
    clear H1 hb hi
    go_enter Tryz.func123, Tryz.ntmps123
    go_wp2_with (go_at_call 121; refine (H2.out _).mono ?_; rintro e w1 ⟨rfl, rfl⟩)
    go_ret
    exact ⟨rfl, rfl⟩
  | false =>
    have H2 := Lib.hid (H1.out _ hb)
    have hi : innerC c = figC c := by unfold innerC; rw [hb]; rfl
    rw [hi]
    clear H1 hb hi
    go_enter Tryz.func123, Tryz.ntmps123
    go_wp2_with (first | (go_at_call 121; refine (H2.out _).mono ?_; rintro e w1 ⟨rfl, rfl⟩) | (go_at_call 124; refine (implFigure_any c _).mono ?_; rintro e w1 ⟨rfl, rfl⟩))
    go_ret
    exact ⟨rfl, rfl⟩
set_option maxHeartbeats 400000 in
theorem implNotEnd_any (c : UInt8) (w : World) : Calls Tryz.prog 127 #[.int .u8 c.toNat] w fun e w' => e = .returned (.bool (c != 10)) ∧ w = w' := by
  by_cases h : (c.toNat : Int) = 10
  · have hc : c = 10 := by apply UInt8.toNat_inj.1; show c.toNat = 10; omega
    subst hc
    go_enter Tryz.func127, Tryz.ntmps127
    go_wp2
    go_ret
    exact ⟨rfl, rfl⟩
  · have hc : (c != 10) = true := by
      rw [bne_iff_ne]; intro e; subst e; exact h rfl
    rw [hc]
    have h2 : ((c.toNat : Int) == 10) = false := by rw [beq_eq_false_iff_ne]; exact h
    have h3 : ((c.toNat : Int) != 10) = true := by rw [bne_iff_ne]; exact h
    go_enter Tryz.func127, Tryz.ntmps127
    go_wp2
    go_ret
    refine ⟨ret_bool ?_, rfl⟩
    first | rfl | exact h3 | simp [h2] | simpa using h
set_option maxHeartbeats 400000 in
theorem implPlain_any (s : ByteArray) (w : World) (hs : s.size ≤ maxLen) : Calls Tryz.prog 129 #[.string s] w fun e w' => e = .returned (.bool (allB plainC s)) ∧ w = w' := by
  unfold maxLen at hs
  go_enter Tryz.func129, Tryz.ntmps129
  go_wp2
  go_loop [3] (fun i => ∃ k : Nat, k ≤ s.size ∧ AllTo plainC s k ∧ i = .int .i64 k) (fun i => s.size - (intOf i).toNat)
  case atStart => exact ⟨0, Nat.zero_le _, allTo_zero _ s, rfl⟩
  case round =>
    obtain ⟨k, hk, ha, rfl⟩ := hrel
    by_cases hlt : k < s.size
    · by_cases h1 : (s[k].toNat : Int) < 32
      · have hn := Lib.hid (allTo_no hlt (plainC_no (by omega)).symm)
        go_wp2
        go_ret
        exact ⟨ret_bool hn.out.symm, rfl⟩
      · by_cases h2 : (126 : Int) < s[k].toNat
        · have hn := Lib.hid (allTo_no hlt (plainC_no (by omega)).symm)
          go_wp2
          go_ret
          exact ⟨ret_bool hn.out.symm, rfl⟩
        · have hn := allTo_step ha hlt (plainC_yes (by omega)).symm
          go_wp2
          go_round
          case rel => exact ⟨k + 1, by omega, hn, by go_num⟩
          case measure => simp [intOf]; omega
    · have hn := Lib.hid (allTo_all ha (by omega))
      go_wp2
      go_ret
      exact ⟨ret_bool hn.out.symm, rfl⟩
/-- Is a text a key word? -/
def keyB (s : ByteArray) : Bool :=
  s.toList == [99, 108, 97, 115, 115] || s.toList == [118, 97, 114] || s.toList == [105, 102] || s.toList == [101, 108, 115, 101] || s.toList == [119, 104, 105, 108, 101] || s.toList == [114, 101, 116, 117, 114, 110]
set_option maxHeartbeats 400000 in
theorem implKey_any (s : ByteArray) (w : World) : Calls Tryz.prog 174 #[.string s] w fun e w' => e = .returned (.bool (keyB s)) ∧ w = w' := by
  cases h0 : (s.toList == [99, 108, 97, 115, 115]) with
  | true =>
    have hk : keyB s = true := by unfold keyB; simp only [h0, Bool.or_true, Bool.true_or]
    rw [hk]; clear hk
    go_enter Tryz.func174, Tryz.ntmps174
    go_wp2
    go_ret
    exact ⟨rfl, rfl⟩
  | false =>
  cases h1 : (s.toList == [118, 97, 114]) with
  | true =>
    have hk : keyB s = true := by unfold keyB; simp only [h1, Bool.or_true, Bool.true_or]
    rw [hk]; clear hk
    go_enter Tryz.func174, Tryz.ntmps174
    go_wp2
    go_ret
    exact ⟨rfl, rfl⟩
  | false =>
  cases h2 : (s.toList == [105, 102]) with
  | true =>
    have hk : keyB s = true := by unfold keyB; simp only [h2, Bool.or_true, Bool.true_or]
    rw [hk]; clear hk
    go_enter Tryz.func174, Tryz.ntmps174
    go_wp2
    go_ret
    exact ⟨rfl, rfl⟩
  | false =>
  cases h3 : (s.toList == [101, 108, 115, 101]) with
  | true =>
    have hk : keyB s = true := by unfold keyB; simp only [h3, Bool.or_true, Bool.true_or]
    rw [hk]; clear hk
    go_enter Tryz.func174, Tryz.ntmps174
    go_wp2
    go_ret
    exact ⟨rfl, rfl⟩
  | false =>
  cases h4 : (s.toList == [119, 104, 105, 108, 101]) with
  | true =>
    have hk : keyB s = true := by unfold keyB; simp only [h4, Bool.or_true, Bool.true_or]
    rw [hk]; clear hk
    go_enter Tryz.func174, Tryz.ntmps174
    go_wp2
    go_ret
    exact ⟨rfl, rfl⟩
  | false =>
  cases h5 : (s.toList == [114, 101, 116, 117, 114, 110]) with
  | true =>
    have hk : keyB s = true := by unfold keyB; simp only [h5, Bool.or_true, Bool.true_or]
    rw [hk]; clear hk
    go_enter Tryz.func174, Tryz.ntmps174
    go_wp2
    go_ret
    exact ⟨rfl, rfl⟩
  | false =>
  have hk : keyB s = false := by unfold keyB; simp only [h0, h1, h2, h3, h4, h5, Bool.or_self]
  rw [hk]; clear hk
  go_enter Tryz.func174, Tryz.ntmps174
  go_wp2
  go_ret
  exact ⟨rfl, rfl⟩
set_option maxHeartbeats 400000 in
theorem specKey_any (s : ByteArray) (w : World) : Calls Tryz.prog 184 #[.string s] w fun e w' => e = .returned (.bool (keyB s)) ∧ w = w' := by
  cases h0 : (s.toList == [99, 108, 97, 115, 115]) with
  | true =>
    have hk : keyB s = true := by unfold keyB; simp only [h0, Bool.or_true, Bool.true_or]
    rw [hk]; clear hk
    go_enter Tryz.func184, Tryz.ntmps184
    go_wp2
    go_ret
    exact ⟨rfl, rfl⟩
  | false =>
  cases h1 : (s.toList == [118, 97, 114]) with
  | true =>
    have hk : keyB s = true := by unfold keyB; simp only [h1, Bool.or_true, Bool.true_or]
    rw [hk]; clear hk
    go_enter Tryz.func184, Tryz.ntmps184
    go_wp2
    go_ret
    exact ⟨rfl, rfl⟩
  | false =>
  cases h2 : (s.toList == [105, 102]) with
  | true =>
    have hk : keyB s = true := by unfold keyB; simp only [h2, Bool.or_true, Bool.true_or]
    rw [hk]; clear hk
    go_enter Tryz.func184, Tryz.ntmps184
    go_wp2
    go_ret
    exact ⟨rfl, rfl⟩
  | false =>
  cases h3 : (s.toList == [101, 108, 115, 101]) with
  | true =>
    have hk : keyB s = true := by unfold keyB; simp only [h3, Bool.or_true, Bool.true_or]
    rw [hk]; clear hk
    go_enter Tryz.func184, Tryz.ntmps184
    go_wp2
    go_ret
    exact ⟨rfl, rfl⟩
  | false =>
  cases h4 : (s.toList == [119, 104, 105, 108, 101]) with
  | true =>
    have hk : keyB s = true := by unfold keyB; simp only [h4, Bool.or_true, Bool.true_or]
    rw [hk]; clear hk
    go_enter Tryz.func184, Tryz.ntmps184
    go_wp2
    go_ret
    exact ⟨rfl, rfl⟩
  | false =>
  cases h5 : (s.toList == [114, 101, 116, 117, 114, 110]) with
  | true =>
    have hk : keyB s = true := by unfold keyB; simp only [h5, Bool.or_true, Bool.true_or]
    rw [hk]; clear hk
    go_enter Tryz.func184, Tryz.ntmps184
    go_wp2
    go_ret
    exact ⟨rfl, rfl⟩
  | false =>
  have hk : keyB s = false := by unfold keyB; simp only [h0, h1, h2, h3, h4, h5, Bool.or_self]
  rw [hk]; clear hk
  go_enter Tryz.func184, Tryz.ntmps184
  go_wp2
  go_ret
  exact ⟨rfl, rfl⟩
/-- Is a text the sign of a chain? -/
def chainB (s : ByteArray) : Bool :=
  s.toList == [38, 38] || s.toList == [124, 124] || s.toList == [61, 61] || s.toList == [60] || s.toList == [43] || s.toList == [45] || s.toList == [42]
set_option maxHeartbeats 400000 in
theorem specChain_any (s : ByteArray) (w : World) : Calls Tryz.prog 172 #[.string s] w fun e w' => e = .returned (.bool (chainB s)) ∧ w = w' := by
  cases h0 : (s.toList == [38, 38]) with
  | true =>
    have hk : chainB s = true := by unfold chainB; simp only [h0, Bool.or_true, Bool.true_or]
    rw [hk]; clear hk
    go_enter Tryz.func172, Tryz.ntmps172
    go_wp2
    go_ret
    exact ⟨rfl, rfl⟩
  | false =>
  cases h1 : (s.toList == [124, 124]) with
  | true =>
    have hk : chainB s = true := by unfold chainB; simp only [h1, Bool.or_true, Bool.true_or]
    rw [hk]; clear hk
    go_enter Tryz.func172, Tryz.ntmps172
    go_wp2
    go_ret
    exact ⟨rfl, rfl⟩
  | false =>
  cases h2 : (s.toList == [61, 61]) with
  | true =>
    have hk : chainB s = true := by unfold chainB; simp only [h2, Bool.or_true, Bool.true_or]
    rw [hk]; clear hk
    go_enter Tryz.func172, Tryz.ntmps172
    go_wp2
    go_ret
    exact ⟨rfl, rfl⟩
  | false =>
  cases h3 : (s.toList == [60]) with
  | true =>
    have hk : chainB s = true := by unfold chainB; simp only [h3, Bool.or_true, Bool.true_or]
    rw [hk]; clear hk
    go_enter Tryz.func172, Tryz.ntmps172
    go_wp2
    go_ret
    exact ⟨rfl, rfl⟩
  | false =>
  cases h4 : (s.toList == [43]) with
  | true =>
    have hk : chainB s = true := by unfold chainB; simp only [h4, Bool.or_true, Bool.true_or]
    rw [hk]; clear hk
    go_enter Tryz.func172, Tryz.ntmps172
    go_wp2
    go_ret
    exact ⟨rfl, rfl⟩
  | false =>
  cases h5 : (s.toList == [45]) with
  | true =>
    have hk : chainB s = true := by unfold chainB; simp only [h5, Bool.or_true, Bool.true_or]
    rw [hk]; clear hk
    go_enter Tryz.func172, Tryz.ntmps172
    go_wp2
    go_ret
    exact ⟨rfl, rfl⟩
  | false =>
  cases h6 : (s.toList == [42]) with
  | true =>
    have hk : chainB s = true := by unfold chainB; simp only [h6, Bool.or_true, Bool.true_or]
    rw [hk]; clear hk
    go_enter Tryz.func172, Tryz.ntmps172
    go_wp2
    go_ret
    exact ⟨rfl, rfl⟩
  | false =>
  have hk : chainB s = false := by unfold chainB; simp only [h0, h1, h2, h3, h4, h5, h6, Bool.or_self]
  rw [hk]; clear hk
  go_enter Tryz.func172, Tryz.ntmps172
  go_wp2
  go_ret
  exact ⟨rfl, rfl⟩
end Go.Proofs.YtpfanhheodiamaaGreatDoor


/-
  Contracts: whether a piece is right, of the reference (spec.l04Plain, l08Plain, l08Split).
-/
import Derived.Test.YtfapdhfjcnehhaaDoorPieceE
namespace Go.Proofs.YtfapdhfjcnehhaaDoor
open Go.RowKit
set_option linter.unusedVariables false

def plI (c : Int) : Bool := decide (32 ≤ c ∧ c ≤ 126)
set_option maxHeartbeats 400000 in
theorem l04Plain_any (c : Int) (w : World) : Calls Tryd.prog 117 #[.int .u8 c] w fun e w' => e = .returned (.bool (plI c)) ∧ w = w' := by
  by_cases h1 : 32 ≤ c
  · by_cases h2 : c ≤ 126
    · go_enter Tryd.func117, Tryd.ntmps117
      go_wp2
      go_ret
      exact ⟨ret_bool (show true = plI c from (decide_eq_true ⟨h1, h2⟩).symm), rfl⟩
    · go_enter Tryd.func117, Tryd.ntmps117
      go_wp2
      go_ret
      exact ⟨ret_bool (show false = plI c from (decide_eq_false (by omega)).symm), rfl⟩
  · have h1' : c < 32 := by omega
    go_enter Tryd.func117, Tryd.ntmps117
    go_wp2
    go_ret
    exact ⟨ret_bool (show false = plI c from (decide_eq_false (by omega)).symm), rfl⟩
set_option maxHeartbeats 400000 in
theorem l08Plain_any (s : ByteArray) (w : World) (hs : s.size ≤ maxLen) : Calls Tryd.prog 97 #[.string s] w fun e w' => e = .returned (.bool (plainB s)) ∧ w = w' := by
  unfold maxLen at hs
  go_enter Tryd.func97, Tryd.ntmps97
  go_wp2
  go_loop [3] (fun i => ∃ k : Nat, k ≤ s.size ∧ PlTo s k ∧ i = .int .i64 k) (fun i => s.size - (intOf i).toNat)
  case atStart => exact ⟨0, Nat.zero_le _, plTo_zero s, rfl⟩
  case round =>
    obtain ⟨k, hk, ha, rfl⟩ := hrel
    by_cases hlt : k < s.size
    · have HC := Lib.hid (fun (b : Bool) (hb : pl s[k] = b) (W : World) => show Calls Tryd.prog 117 #[.int .u8 (s[k].toNat : Int)] W fun e w' => e = .returned (.bool b) ∧ W = w' by rw [← hb]; exact l04Plain_any _ W)
      cases hp : pl s[k] with
      | false =>
        have hn := Lib.hid (plTo_no hlt hp)
        have HC2 := Lib.hid (HC.out _ hp)
        clear HC hp
        go_wp2_with (go_at_call 117; refine (HC2.out _).mono ?_; rintro e w1 ⟨rfl, rfl⟩)
        go_ret
        exact ⟨ret_bool hn.out.symm, rfl⟩
      | true =>
        have hn := plTo_step ha hlt hp
        have HC2 := Lib.hid (HC.out _ hp)
        clear HC hp
        go_wp2_with (go_at_call 117; refine (HC2.out _).mono ?_; rintro e w1 ⟨rfl, rfl⟩)
        go_round
        case rel => exact ⟨k + 1, by omega, hn, by go_num⟩
        case measure => simp [intOf]; omega
    · have hn := Lib.hid (plTo_all ha (by omega))
      go_wp2
      go_ret
      exact ⟨ret_bool hn.out.symm, rfl⟩
end Go.Proofs.YtfapdhfjcnehhaaDoor

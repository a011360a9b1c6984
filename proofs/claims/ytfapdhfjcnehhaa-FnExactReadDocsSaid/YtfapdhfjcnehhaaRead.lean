
/-
  Files read from a text: plain words; the head of a file (spec.l31Head).
-/
import Derived.Test.YtfapdhfjcnehhaaDocT
import Derived.Test.YtfapdhfjcnehhaaLines
import Derived.Lib.Strings
namespace Go.Proofs.Ytfapdhfjcnehhaa
open Go.RowKit
set_option linter.unusedVariables false

def mark4 : ByteArray := ⟨#[61, 61, 61, 32]⟩
theorem toList_eq_of {x y : ByteArray} (h : x = y) : x.toList = y.data.toList := by rw [h, ByteArray.toList_eq]
theorem toList_ne_of {x y : ByteArray} (h : x ≠ y) : ¬ x.toList = y.data.toList := fun e => h (ba_ext (by rw [← ByteArray.toList_eq]; exact e))
/-- The name of a line that begins a file. -/
def headOf (s : ByteArray) : Option ByteArray := if s.extract 0 4 = mark4 ∧ nmOk (s.extract 4 s.size) = true then some (s.extract 4 s.size) else none
theorem nmOk_empty {s : ByteArray} (h : s.size = 0) : nmOk s = false := by
  unfold nmOk inB; rw [h]; simp
theorem head_short {s : ByteArray} (h : s.size < 5) : headOf s = none := by
  unfold headOf
  rw [if_neg]
  rintro ⟨_, h2⟩
  rw [nmOk_empty (by rw [ByteArray.size_extract]; omega)] at h2
  cases h2
theorem head_other {s : ByteArray} (h : s.extract 0 4 ≠ mark4) : headOf s = none := by
  unfold headOf
  rw [if_neg]
  rintro ⟨h1, _⟩
  exact h h1
theorem head_name {s : ByteArray} (h : nmOk (s.extract 4 s.size) = false) : headOf s = none := by
  unfold headOf
  rw [if_neg]
  rintro ⟨_, h1⟩
  rw [h] at h1; cases h1
theorem head_yes {s : ByteArray} (h : s.extract 0 4 = mark4) (h2 : nmOk (s.extract 4 s.size) = true) : headOf s = some (s.extract 4 s.size) := by
  unfold headOf
  rw [if_pos ⟨h, h2⟩]
/-- What the head of a line comes to. -/
def HeadP (r : Option ByteArray) (w : World) (e : Ending) (w' : World) : Prop :=
  w = w' ∧ e = .returned (.tuple #[.string (r.getD ⟨#[]⟩), .bool r.isSome])
set_option maxHeartbeats 800000 in
theorem l31Head_any (s : ByteArray) (w : World) (hs : s.size ≤ 4194304) : Calls Try.prog 52 #[.string s] w (HeadP (headOf s) w) := by
  by_cases h5 : s.size < 5
  · rw [head_short h5]
    go_enter Try.func52, Try.ntmps52
    go_wp2
    go_ret2
    exact ⟨rfl, rfl⟩
  · by_cases h4 : s.extract 0 4 = mark4
    · have h4' := toList_eq_of h4
      have hz : (s.extract 4 s.size).size ≤ maxLen := by rw [ByteArray.size_extract]; unfold maxLen; omega
      cases hn : nmOk (s.extract 4 s.size) with
      | false =>
        rw [head_name hn]
        have H9 := Lib.hid (fun w => show Calls Try.prog 57 #[.string (s.extract 4 s.size)] w fun e w' => e = .returned (.bool false) ∧ w = w' by
          have h := l31Name_any (s.extract 4 s.size) w hz
          rwa [hn] at h)
        clear hn h4 hz
        go_enter Try.func52, Try.ntmps52
        go_wp2_with (go_at_call 57; refine (H9.out _).mono ?_; rintro e w1 ⟨rfl, rfl⟩)
        go_ret2
        exact ⟨rfl, rfl⟩
      | true =>
        rw [head_yes h4 hn]
        have H9 := Lib.hid (fun w => show Calls Try.prog 57 #[.string (s.extract 4 s.size)] w fun e w' => e = .returned (.bool true) ∧ w = w' by
          have h := l31Name_any (s.extract 4 s.size) w hz
          rwa [hn] at h)
        clear hn h4 hz
        go_enter Try.func52, Try.ntmps52
        go_wp2_with (go_at_call 57; refine (H9.out _).mono ?_; rintro e w1 ⟨rfl, rfl⟩)
        go_ret2
        exact ⟨rfl, rfl⟩
    · rw [head_other h4]
      have h4' := toList_ne_of h4
      clear h4
      go_enter Try.func52, Try.ntmps52
      go_wp2
      go_ret2
      exact ⟨rfl, rfl⟩
end Go.Proofs.Ytfapdhfjcnehhaa

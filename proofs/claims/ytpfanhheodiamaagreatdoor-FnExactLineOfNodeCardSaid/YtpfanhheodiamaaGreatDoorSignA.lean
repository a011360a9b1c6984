
/-
  Texts of signs, in plain words: names, figures, quoted texts, notes.
-/
import Derived.Test.YtpfanhheodiamaaGreatDoorBase
import Derived.Test.YtpfanhheodiamaaGreatDoorMemB
import Derived.Test.YtpfanhheodiamaaGreatDoorChecked
namespace Go.Proofs.YtpfanhheodiamaaGreatDoor
open Go.RowKit
set_option linter.unusedVariables false

/-- All bytes of a text are as wanted; those ahead of k are. -/
def allB (p : UInt8 → Bool) (s : ByteArray) : Bool := s.data.toList.all p
def AllTo (p : UInt8 → Bool) (s : ByteArray) (k : Nat) : Prop := (s.data.toList.take k).all p = true
section
variable {p : UInt8 → Bool} {s : ByteArray} {k : Nat}
theorem allTo_zero (p : UInt8 → Bool) (s : ByteArray) : AllTo p s 0 := by simp [AllTo]
theorem allTo_step (h : AllTo p s k) (hk : k < s.size) (hc : p s[k] = true) : AllTo p s (k + 1) := by
  unfold AllTo at h ⊢
  rw [List.take_succ_eq_append_getElem (by simpa using hk), List.all_append, h]
  simp only [List.all_cons, List.all_nil, Bool.and_true, Bool.true_and]
  exact hc
theorem allTo_no (hk : k < s.size) (hc : p s[k] = false) : allB p s = false := by
  unfold allB
  rw [List.all_eq_false]
  exact ⟨s[k], by rw [show s[k] = s.data.toList[k]'(by simpa using hk) from rfl]; exact List.getElem_mem _, by simp [hc]⟩
theorem allTo_all (h : AllTo p s k) (hk : k = s.size) : allB p s = true := by
  unfold AllTo at h; unfold allB
  rwa [List.take_of_length_le (by simp [hk])] at h
theorem allB_at (h : allB p s = true) (hk : k < s.size) : p s[k] = true := by
  cases hc : p s[k] with
  | true => rfl
  | false => rw [allTo_no hk hc] at h; cases h
end
def firstC (c : UInt8) : Bool := decide ((97 ≤ (c.toNat : Int) ∧ (c.toNat : Int) ≤ 122) ∨ (65 ≤ (c.toNat : Int) ∧ (c.toNat : Int) ≤ 90) ∨ (c.toNat : Int) = 95)
def figC (c : UInt8) : Bool := decide (48 ≤ (c.toNat : Int) ∧ (c.toNat : Int) ≤ 57)
def innerC (c : UInt8) : Bool := firstC c || figC c
def plainC (c : UInt8) : Bool := decide (32 ≤ (c.toNat : Int) ∧ (c.toNat : Int) ≤ 126)
/-- How many bytes at the beginning are as wanted. -/
def runN (p : UInt8 → Bool) : List UInt8 → Nat
  | [] => 0
  | c :: l => if p c then runN p l + 1 else 0
theorem runN_le (p : UInt8 → Bool) (l : List UInt8) : runN p l ≤ l.length := by
  induction l with
  | nil => exact Nat.le_refl _
  | cons c l ih => unfold runN; split <;> simp <;> omega
theorem runN_all (p : UInt8 → Bool) (l : List UInt8) : runN p l = l.length ↔ l.all p = true := by
  induction l with
  | nil => simp [runN]
  | cons c l ih =>
    unfold runN
    by_cases h : p c = true
    · rw [if_pos h, List.length_cons, List.all_cons, h, Bool.true_and, ← ih]; omega
    · rw [if_neg h, List.length_cons, List.all_cons, Bool.eq_false_iff.2 h]; simp
/-- A run that is the whole text: all of it is as wanted. -/
theorem run_whole (p : UInt8 → Bool) (s : ByteArray) : runN p s.data.toList = s.size ↔ allB p s = true := by
  have h := runN_all p s.data.toList
  rw [ba_len] at h
  exact h
/-- Where a walk over the run stands. -/
theorem runN_step {p : UInt8 → Bool} {s : ByteArray} {k : Nat} (h : AllTo p s k) (hk : k < s.size) (hc : p s[k] = false) : runN p s.data.toList = k := by
  have key : ∀ (l : List UInt8) (k : Nat) (hk : k < l.length), (l.take k).all p = true → p l[k] = false → runN p l = k := by
    intro l
    induction l with
    | nil => intro k hk; simp at hk
    | cons c l ih =>
      intro k hk h hc
      cases k with
      | zero => simp only [List.getElem_cons_zero] at hc; unfold runN; rw [if_neg (by rw [hc]; decide)]
      | succ k =>
        simp only [List.take_succ_cons, List.all_cons, Bool.and_eq_true] at h
        simp only [List.getElem_cons_succ] at hc
        unfold runN
        rw [if_pos h.1, ih k (by simpa using hk) h.2 hc]
  exact key s.data.toList k (by rw [ba_len]; exact hk) h hc
theorem runN_end {p : UInt8 → Bool} {s : ByteArray} {k : Nat} (h : AllTo p s k) (hk : k = s.size) : runN p s.data.toList = k := by
  rw [(run_whole p s).2 (allTo_all h hk), hk]
end Go.Proofs.YtpfanhheodiamaaGreatDoor


/-
  Options read from a text: the reference's way.
-/
import Derived.Test.YtfapdhfjcnehhaaDoorReadOptW
namespace Go.Proofs.YtfapdhfjcnehhaaDoor
open Go.RowKit
set_option linter.unusedVariables false

set_option maxHeartbeats 800000 in
theorem behind_any (p w0 : ByteArray) (w : World) (hp : p.size ≤ 4194304) (hw : w0.size ≤ 100) :
    Calls Tryd.prog 66 #[.string p, .string w0] w fun e w' => e = .returned (.tuple #[.int .i64 (behindD p w0).1, .bool (behindD p w0).2]) ∧ Below w.heap.size w w' := by
  by_cases h1 : p.size ≤ w0.size
  · have hst := Lib.hid (show behindD p w0 = (0, false) by unfold behindD; rw [if_pos (.inl h1)])
    go_enter Tryd.func66, Tryd.ntmps66
    go_wp2
    go_ret2
    exact ⟨by rw [hst.out]; rfl, (by repeat' (first | (with_reducible exact Below.refl _ _) | (with_reducible assumption) | (with_reducible refine below_drewN ?_ _) | (with_reducible refine Below.drew ?_) | (with_reducible refine Below.alloc ?_ ?_ _) | (with_reducible refine Below.setCell ?_ ?_ _) | go_size))⟩
  have i1 : (w0.size : Int) ≤ p.size := by omega
  by_cases h2 : p.extract 0 w0.size = w0
  · have hst := Lib.hid (show behindD p w0 = readDec (p.extract w0.size p.size) by unfold behindD; rw [if_neg]; rintro (g | g) <;> contradiction)
    have HR := Lib.hid (fun W => specReadDecimal_any (p.extract w0.size p.size) W (by simp; omega))
    have q : ((p.extract 0 w0.size).toList == w0.toList) = true := by rw [h2]; simp
    clear h2
    go_enter Tryd.func66, Tryd.ntmps66
    go_wp2_with (go_at_call 99; refine (HR.out _).mono ?_; rintro e w2 ⟨rfl, h2⟩)
    go_ret2
    exact ⟨by rw [hst.out]; rfl, h2⟩
  · have hst := Lib.hid (show behindD p w0 = (0, false) by unfold behindD; rw [if_pos (.inr h2)])
    have q : ((p.extract 0 w0.size).toList == w0.toList) = false := by
      rw [beq_eq_false_iff_ne]; intro e; exact h2 (ba_ext (by rw [← ByteArray.toList_eq, e, ByteArray.toList_eq]))
    clear h2
    go_enter Tryd.func66, Tryd.ntmps66
    go_wp2
    go_ret2
    exact ⟨by rw [hst.out]; rfl, (by repeat' (first | (with_reducible exact Below.refl _ _) | (with_reducible assumption) | (with_reducible refine below_drewN ?_ _) | (with_reducible refine Below.drew ?_) | (with_reducible refine Below.alloc ?_ ?_ _) | (with_reducible refine Below.setCell ?_ ?_ _) | go_size))⟩

def RoR (r : OptD × Bool) (w : World) (e : Ending) (w' : World) : Prop := e = .returned (.tuple #[optV r.1, .bool r.2]) ∧ Below w.heap.size w w'
theorem infoBool : (Tryd.prog.info? 4).map (fun i => (i.zero, i.size, i.bytes)) = some (some (.bool false), 1, 1) := by kernel_rfl
def seeCells (s : Nat → Bool) : Array Value := #[.bool (s 0), .bool (s 1), .bool (s 2), .bool (s 3), .bool (s 4)]
theorem words_sz (l : List UInt8) : ∀ acc x, x ∈ wordsGo acc l → x.size ≤ acc.length + l.length := by
  have hw : ∀ acc x, x ∈ wordOf acc → x.size ≤ acc.length := by
    intro acc x hx
    unfold wordOf at hx
    split at hx
    · cases hx
    · rw [List.mem_singleton.1 hx]; exact Nat.le_of_eq (size_mk _)
  induction l with
  | nil => intro acc x hx; rw [wordsGo] at hx; have := hw _ _ hx; simpa using this
  | cons c l ih =>
    intro acc x hx
    rw [wordsGo] at hx
    split at hx
    · rcases List.mem_append.1 hx with h | h
      · have := hw _ _ h; simp; omega
      · have := ih _ _ h; simp at this ⊢; omega
    · have := ih _ _ hx; simp at this ⊢; omega
theorem parts_sz {t p : ByteArray} {k : Nat} (h : (partsOf t).1[k]? = some p) : p.size ≤ t.size := by
  have h1 := List.mem_of_getElem? h
  unfold partsOf at h1
  split at h1
  · cases h1
  · have := words_sz _ _ _ h1; rw [ba_len] at this; simpa using this
theorem parts_len (t : ByteArray) : (partsOf t).1.length ≤ 10 := by
  unfold partsOf
  split
  · simp
  · rename_i h; simp at h; simpa using h.2.2
end Go.Proofs.YtfapdhfjcnehhaaDoor

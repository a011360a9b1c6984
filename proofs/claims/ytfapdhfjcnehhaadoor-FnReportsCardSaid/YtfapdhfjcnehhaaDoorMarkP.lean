
/-
  Plain lemmas: cells of a block of the call's own are marked in place, row by row.
-/
import Derived.Test.YtfapdhfjcnehhaaDoorMem
import Derived.Test.YtfapdhfjcnehhaaDoorMark
namespace Go.Proofs.YtfapdhfjcnehhaaDoor
open Go.RowKit

def setRow (xs : List Value) (i : Nat) : List Value → List Value
  | [] => xs
  | v :: r => setRow (xs.set i v) (i + 1) r
theorem setRow_len (r : List Value) : ∀ (xs : List Value) (i : Nat), (setRow xs i r).length = xs.length := by
  induction r with
  | nil => intro xs i; rfl
  | cons v r ih => intro xs i; rw [setRow, ih, List.length_set]
theorem setRow_get (r : List Value) : ∀ (xs : List Value) (i x : Nat), i + r.length ≤ xs.length → (setRow xs i r)[x]? = if i ≤ x ∧ x < i + r.length then r[x - i]? else xs[x]? := by
  induction r with
  | nil => intro xs i x h; rw [setRow, if_neg (by simp)]
  | cons v r ih =>
    intro xs i x h
    simp only [List.length_cons] at h
    rw [setRow, ih _ _ _ (by rw [List.length_set]; omega)]
    by_cases h1 : i + 1 ≤ x ∧ x < i + 1 + r.length
    · rw [if_pos h1, if_pos ⟨by omega, by simp only [List.length_cons]; omega⟩, show x - i = (x - (i + 1)) + 1 by omega, List.getElem?_cons_succ]
    · rw [if_neg h1, List.getElem?_set]
      by_cases h2 : i = x
      · subst h2
        rw [if_pos rfl, if_pos (by omega), if_pos ⟨by omega, by simp only [List.length_cons]; omega⟩]
        simp
      · rw [if_neg h2, if_neg]
        intro h3
        simp only [List.length_cons] at h3
        omega

/-- The first j rows are the marks' own. -/
def MarkedTo (xs M : List Value) (size j : Nat) : Prop := xs.length = M.length ∧ ∀ x, x < j * size → xs[x]? = M[x]?
theorem marked_zero {xs M : List Value} {size : Nat} (h : xs.length = M.length) : MarkedTo xs M size 0 := ⟨h, fun x hx => absurd hx (by omega)⟩
theorem marked_step {xs M row : List Value} {size j : Nat} (h : MarkedTo xs M size j) (hr : row.length = size) (hl : (j + 1) * size ≤ M.length) (hM : ∀ y, y < size → M[j * size + y]? = row[y]?) :
    MarkedTo (setRow xs (j * size) row) M size (j + 1) := by
  obtain ⟨h1, h2⟩ := h
  have e : (j + 1) * size = j * size + size := by rw [Nat.add_mul]; omega
  refine ⟨by rw [setRow_len, h1], fun x hx => ?_⟩
  rw [setRow_get _ _ _ _ (by omega)]
  by_cases h3 : j * size ≤ x ∧ x < j * size + row.length
  · rw [if_pos h3]
    have h4 := hM (x - j * size) (by omega)
    rw [show j * size + (x - j * size) = x by omega] at h4
    exact h4.symm
  · rw [if_neg h3]
    exact h2 x (by omega)
theorem marked_all {xs M : List Value} {size n : Nat} (h : MarkedTo xs M size n) (hl : M.length = n * size) : xs = M := by
  obtain ⟨h1, h2⟩ := h
  apply List.ext_getElem?
  intro x
  by_cases hx : x < n * size
  · exact h2 x hx
  · rw [List.getElem?_eq_none (by omega), List.getElem?_eq_none (by omega)]

/-- The marks of n rows. -/
def marksOf (row : Int → List Value) (size : Nat) (k : Int) (n : Nat) : List Value := (List.range n).flatMap (fun i => row (k + (size * i : Nat)))
theorem marks_len {row : Int → List Value} {size : Nat} (h : ∀ k, (row k).length = size) (k : Int) (n : Nat) : (marksOf row size k n).length = n * size := by
  unfold marksOf
  rw [flat_len _ (fun _ => h _), List.length_range]
theorem marks_get {row : Int → List Value} {size : Nat} (h : ∀ k, (row k).length = size) (k : Int) (n j : Nat) (hj : j < n) : ∀ y, y < size → (marksOf row size k n)[j * size + y]? = (row (k + (size * j : Nat)))[y]? := by
  intro y hy
  unfold marksOf
  have h1 : (row (k + (size * j : Nat)))[y]? = some ((row (k + (size * j : Nat)))[y]'(by rw [h]; exact hy)) := List.getElem?_eq_getElem _
  rw [h1]
  exact flat_get (fun i : Nat => row (k + (size * i : Nat))) (fun _ => h _) (l := List.range n) (i := j) (d := j) (by simp [hj]) h1
theorem marks_one {row : Int → List Value} {size : Nat} (h : ∀ k, (row k).length = size) {k q : Int} {n j : Nat} (hj : j < n) (hq : q = k + (size * j : Nat)) {y : Nat} {v : Value} (hv : (row q)[y]? = some v) : (marksOf row size k n)[j * size + y]? = some v := by
  subst hq
  have hy : y < size := by have := (List.getElem?_eq_some_iff.1 hv).1; rw [h] at this; exact this
  rw [marks_get h k n j hj y hy, hv]

theorem grow_set {a w : World} {g : Nat} (h : a.grownBy w (some g)) (o : Nat) (u : Value) : a.grownBy (w.setCell ⟨g, o, none⟩ u) (some g) :=
  ⟨h.os, h.tape, h.output, by simpa [World.setCell] using h.size, fun i hi hne => (Below.heap_setCell w ⟨g, o, none⟩ u i (fun e => hne (by rw [e]))).trans (h.block i hi hne)⟩
theorem grow_below {a w w2 : World} {row : Option Nat} (h : a.grownBy w row) (hb : Below w.heap.size w w2) : a.grownBy w2 row :=
  ⟨hb.os.trans h.os, hb.tape.trans h.tape, hb.output.trans h.output, Nat.le_trans h.size hb.size, fun i hi hne => (hb.block i (Nat.lt_of_lt_of_le hi h.size)).trans (h.block i hi hne)⟩
section
variable {w w' : World} {g : Nat} {t : TypeId} {cap : Nat} {xs : List Value}
theorem Own.fits (h : Own w g t cap xs) : xs.length ≤ cap := by obtain ⟨rest, hb, hs⟩ := h; rw [List.length_append] at hs; omega
theorem Own.set (h : Own w g t cap xs) {i : Nat} (hi : i < xs.length) (u : Value) : Own (w.setCell ⟨g, i, none⟩ u) g t cap (xs.set i u) := by
  obtain ⟨rest, hb, hs⟩ := h
  refine ⟨rest, ?_, by simpa using hs⟩
  have h2 := hb.set_ i u
  have e : ((xs ++ rest).toArray).setIfInBounds i u = ((xs.set i u) ++ rest).toArray := by
    simp [List.set_append_left _ _ hi]
  rwa [e] at h2
end
end Go.Proofs.YtfapdhfjcnehhaaDoor

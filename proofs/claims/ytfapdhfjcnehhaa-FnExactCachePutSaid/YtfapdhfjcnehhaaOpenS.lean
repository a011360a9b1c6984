
/-
  Arguments opened: slices of structs read as lists. Written by program (openers.py).
-/
import Derived.Test.YtfapdhfjcnehhaaOpen
import Derived.Test.YtfapdhfjcnehhaaFamDoc
import Derived.Test.YtfapdhfjcnehhaaFamChange
import Derived.Test.YtfapdhfjcnehhaaFamEntry
namespace Go.Proofs.Ytfapdhfjcnehhaa
open Go.RowKit Go.WideShapes Go.ChangeShapes Go.Joins Go.Deep
set_option linter.unusedVariables false
section
variable {H : Type} {enc : TypeId × Value → H} {W : World} {base : Nat} {v : Value} {d : DataW H} {p : List MemPlace} {hd : Bool}
theorem cellsDocE : Try.prog.cellsOf 57 = 2 := by kernel_rfl
set_option maxRecDepth 100000 in
theorem open_docs_cells {cs : List Value} {fuel : Nat} {x : DataW H × List MemPlace} (hf : DataW.trod enc Try.prog W 0 (fun _ => true) hd fuel 22 cs = some x) :
    ∃ (A : Option Addr) (n c : Nat) (l : List DocD), cs = [.slice A n c] ∧ (l.length = n ∧ n ≤ maxLen ∧ Rd W 2 A n (l.flatMap docCells) ∧ ∀ d ∈ l, OkDoc d) := by
  rcases open_slice_fields Try.underlying22 Try.underlying57 (by kernel_rfl) cellsDocE hf with ⟨h1, _⟩ | ⟨a, n, c, m, D, Pl, h1, _, hle, hmax, hm, hx, hi⟩
  · exact ⟨none, 0, 0, [], h1, rfl, Nat.zero_le _, Rd.none_ _ _ _, fun d hd => by cases hd⟩
  · have key : ∀ i, i < n → ∃ d : DocD, OkDoc d ∧ ∀ j v, (docCells d)[j]? = some v → W.cell? (a.add (i * 2 + j)) = some v := by
      intro i hin
      obtain ⟨ys, nn, _, _, _, hfl⟩ := hi i (by simp at hm; omega)
      obtain ⟨v0, y0, g0, _, t0⟩ := hfl 0 _ rfl
      obtain ⟨x0, e0, _, o0⟩ := DataW.trod_string Try.underlying9 t0
      obtain ⟨v1, y1, g1, _, t1⟩ := hfl 1 _ rfl
      obtain ⟨x1, e1, _, o1⟩ := DataW.trod_string Try.underlying9 t1
      simp only [List.cons.injEq, and_true] at e0 e1
      subst e0 e1
      refine ⟨(x0, x1), ⟨o0, o1⟩, fun j v hj => ?_⟩
      match j, hj with
      | 0, hj => obtain rfl := Option.some.inj hj; exact g0
      | 1, hj => obtain rfl := Option.some.inj hj; exact g1
      | j + 2, hj => simp [docCells] at hj
    obtain ⟨l, hl, hr, ho⟩ := rd_of_elems (W := W) (a := a) (n := n) docCells OkDoc docCells_len (by omega) key
    exact ⟨some a, n, c, l, h1, hl, by omega, hr, ho⟩
set_option maxRecDepth 100000 in
theorem open_docs (hv : Value.okWide Try.prog W .any base 22 v) (h : DataW.Trod enc Try.prog W 0 (fun _ => true) hd 22 v d p) :
    ∃ (A : Option Addr) (n c : Nat) (l : List DocD), v = .slice A n c ∧ (l.length = n ∧ n ≤ maxLen ∧ Rd W 2 A n (l.flatMap docCells) ∧ ∀ d ∈ l, OkDoc d) := by
  obtain ⟨A, n, c, rfl⟩ := okWide_slice Try.underlying22 hv
  obtain ⟨fuel, hf⟩ := h
  obtain ⟨A', n', c', l, h1, hh⟩ := open_docs_cells hf
  simp only [Value.cells, List.cons.injEq, Value.slice.injEq, and_true] at h1
  obtain ⟨rfl, rfl, rfl⟩ := h1
  exact ⟨_, _, _, l, rfl, hh⟩
theorem cellsEntryE : Try.prog.cellsOf 39 = 5 := by kernel_rfl
set_option maxRecDepth 100000 in
theorem open_entries_cells {cs : List Value} {fuel : Nat} {x : DataW H × List MemPlace} (hf : DataW.trod enc Try.prog W 0 (fun _ => true) hd fuel 35 cs = some x) :
    ∃ (A : Option Addr) (n c : Nat) (l : List EntryD), cs = [.slice A n c] ∧ (l.length = n ∧ n ≤ maxLen ∧ Rd W 5 A n (l.flatMap entryCells) ∧ ∀ d ∈ l, OkEntry d) := by
  rcases open_slice_fields Try.underlying35 Try.underlying39 (by kernel_rfl) cellsEntryE hf with ⟨h1, _⟩ | ⟨a, n, c, m, D, Pl, h1, _, hle, hmax, hm, hx, hi⟩
  · exact ⟨none, 0, 0, [], h1, rfl, Nat.zero_le _, Rd.none_ _ _ _, fun d hd => by cases hd⟩
  · have key : ∀ i, i < n → ∃ d : EntryD, OkEntry d ∧ ∀ j v, (entryCells d)[j]? = some v → W.cell? (a.add (i * 5 + j)) = some v := by
      intro i hin
      obtain ⟨ys, nn, _, _, _, hfl⟩ := hi i (by simp at hm; omega)
      obtain ⟨v0, y0, g0, _, t0⟩ := hfl 0 _ rfl
      obtain ⟨x0, e0, _, o0⟩ := DataW.trod_string Try.underlying9 t0
      obtain ⟨v1, y1, g1, _, t1⟩ := hfl 1 _ rfl
      obtain ⟨x1, e1, _, o1⟩ := DataW.trod_int Try.underlying3 t1
      obtain ⟨v2, y2, g2, _, t2⟩ := hfl 2 _ rfl
      obtain ⟨x2, e2, _, o2⟩ := DataW.trod_int Try.underlying3 t2
      obtain ⟨v3, y3, g3, _, t3⟩ := hfl 3 _ rfl
      obtain ⟨x3, e3, _, o3⟩ := DataW.trod_string Try.underlying9 t3
      obtain ⟨v4, y4, g4, _, t4⟩ := hfl 4 _ rfl
      obtain ⟨x4, e4, _, o4⟩ := DataW.trod_int Try.underlying3 t4
      simp only [List.cons.injEq, and_true] at e0 e1 e2 e3 e4
      subst e0 e1 e2 e3 e4
      refine ⟨(x0, x1, x2, x3, x4), ⟨o0, o3⟩, fun j v hj => ?_⟩
      match j, hj with
      | 0, hj => obtain rfl := Option.some.inj hj; exact g0
      | 1, hj => obtain rfl := Option.some.inj hj; exact g1
      | 2, hj => obtain rfl := Option.some.inj hj; exact g2
      | 3, hj => obtain rfl := Option.some.inj hj; exact g3
      | 4, hj => obtain rfl := Option.some.inj hj; exact g4
      | j + 5, hj => simp [entryCells] at hj
    obtain ⟨l, hl, hr, ho⟩ := rd_of_elems (W := W) (a := a) (n := n) entryCells OkEntry entryCells_len (by omega) key
    exact ⟨some a, n, c, l, h1, hl, by omega, hr, ho⟩
set_option maxRecDepth 100000 in
theorem open_entries (hv : Value.okWide Try.prog W .any base 35 v) (h : DataW.Trod enc Try.prog W 0 (fun _ => true) hd 35 v d p) :
    ∃ (A : Option Addr) (n c : Nat) (l : List EntryD), v = .slice A n c ∧ (l.length = n ∧ n ≤ maxLen ∧ Rd W 5 A n (l.flatMap entryCells) ∧ ∀ d ∈ l, OkEntry d) := by
  obtain ⟨A, n, c, rfl⟩ := okWide_slice Try.underlying35 hv
  obtain ⟨fuel, hf⟩ := h
  obtain ⟨A', n', c', l, h1, hh⟩ := open_entries_cells hf
  simp only [Value.cells, List.cons.injEq, Value.slice.injEq, and_true] at h1
  obtain ⟨rfl, rfl, rfl⟩ := h1
  exact ⟨_, _, _, l, rfl, hh⟩
end
end Go.Proofs.Ytfapdhfjcnehhaa


/-
  Arguments opened: slices of bytes, of integers, of strings read as lists.
-/
import Derived.Test.YtfapdhfjcnehhaaOpen
import Derived.Test.YtfapdhfjcnehhaaMemB
import Derived.Test.YtfapdhfjcnehhaaOpenS
import Derived.SliceStrings
namespace Go.Proofs.Ytfapdhfjcnehhaa
open Go.RowKit Go.WideShapes Go.ChangeShapes Go.Joins Go.Deep
set_option linter.unusedVariables false
section
variable {H : Type} {enc : TypeId × Value → H} {W : World} {base : Nat} {v : Value} {d : DataW H} {p : List MemPlace} {hd : Bool}
theorem map_of_flat {α : Type} (f : α → Value) (l : List α) : l.flatMap (fun x => [f x]) = l.map f := by
  induction l with
  | nil => rfl
  | cons x l ih => simp [ih]
theorem cellsU8 : Try.prog.cellsOf 5 = 1 := by kernel_rfl
set_option maxRecDepth 100000 in
theorem open_bytes (hv : Value.okWide Try.prog W .any base 65 v) (h : DataW.Trod enc Try.prog W 0 (fun _ => true) hd 65 v d p) :
    ∃ (A : Option Addr) (n c : Nat) (l : List Int), v = .slice A n c ∧ (l.length = n ∧ n ≤ maxLen ∧ Rd W 1 A n (u8cells l) ∧ ∀ x ∈ l, 0 ≤ x ∧ x ≤ 255) := by
  obtain ⟨A, n, c, rfl⟩ := okWide_slice Try.underlying65 hv
  obtain ⟨fuel, hf⟩ := h
  rcases open_ints Try.underlying65 Try.underlying5 cellsU8 hf with ⟨h1, _⟩ | ⟨a, n', c', zs, h1, _, hle, hmax, hm, hx, hi, hw⟩
  · simp only [Value.cells, List.cons.injEq, Value.slice.injEq, and_true] at h1
    obtain ⟨rfl, rfl, rfl⟩ := h1
    exact ⟨none, 0, 0, [], rfl, rfl, Nat.zero_le _, Rd.none_ _ _ _, fun d hd => by cases hd⟩
  · simp only [Value.cells, List.cons.injEq, Value.slice.injEq, and_true] at h1
    obtain ⟨rfl, rfl, rfl⟩ := h1
    simp only [if_true] at hm
    have key : ∀ i, i < n → ∃ x : Int, (0 ≤ x ∧ x ≤ 255) ∧ ∀ j u, ([Value.int .u8 x])[j]? = some u → W.cell? (a.add (i * 1 + j)) = some u := by
      intro i hin
      refine ⟨zs[i]'(by omega), bounds_u8 (hw _ (List.getElem_mem _)), fun j u hj => ?_⟩
      match j, hj with
      | 0, hj =>
        obtain rfl := Option.some.inj hj
        have h3 := hi i (by omega)
        simp only [Nat.mul_one, Nat.add_zero]
        rw [h3, List.getD_eq_getElem?_getD, List.getElem?_eq_getElem (by omega)]; rfl
      | j + 1, hj => simp at hj
    obtain ⟨l, hl, hr, ho⟩ := rd_of_elems (W := W) (a := a) (n := n) (fun x => [Value.int .u8 x]) (fun x => 0 ≤ x ∧ x ≤ 255) (size := 1) (fun _ => rfl) (by omega) key
    exact ⟨some a, n, c, l, rfl, hl, by omega, by rw [map_of_flat] at hr; exact hr, ho⟩
theorem cellsCacheE : Try.prog.cellsOf 37 = 4 := by kernel_rfl
set_option maxRecDepth 100000 in
theorem open_cache (hv : Value.okWide Try.prog W .any base 37 v) (h : DataW.Trod enc Try.prog W 0 (fun _ => true) hd 37 v d p) :
    ∃ (m : Int) (A : Option Addr) (n c : Nat) (l : List EntryD) (h k : Int), v = .agg #[.int .i64 m, .slice A n c, .int .i64 h, .int .i64 k] ∧ (l.length = n ∧ n ≤ maxLen ∧ Rd W 5 A n (l.flatMap entryCells) ∧ ∀ d ∈ l, OkEntry d) := by
  obtain ⟨v0, v1, v2, v3, y0, y1, y2, y3, n, rfl, _, _, h0, h1, h2, h3⟩ := open_agg4 Try.underlying37 (by kernel_rfl) cellsCacheE hv h
  obtain ⟨a0, e0, _, _⟩ := DataW.trod_int Try.underlying3 h0
  obtain ⟨a2, e2, _, _⟩ := DataW.trod_int Try.underlying3 h2
  obtain ⟨a3, e3, _, _⟩ := DataW.trod_int Try.underlying3 h3
  simp only [List.cons.injEq, and_true] at e0 e2 e3
  subst e0 e2 e3
  obtain ⟨A, n, c, l, e1, hh⟩ := open_entries_cells h1
  simp only [List.cons.injEq, and_true] at e1
  subst e1
  exact ⟨a0, A, n, c, l, a2, a3, rfl, hh⟩
end
end Go.Proofs.Ytfapdhfjcnehhaa

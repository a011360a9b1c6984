
/-
  Arguments opened: slices of bytes, of integers, of strings read as lists.
-/
import Derived.Test.YtfapdhfjcnehhaaDoorOpen
import Derived.Test.YtfapdhfjcnehhaaDoorMemB
import Derived.SliceStrings
namespace Go.Proofs.YtfapdhfjcnehhaaDoor
open Go.RowKit Go.WideShapes Go.ChangeShapes Go.Joins Go.Deep
set_option linter.unusedVariables false
section
variable {H : Type} {enc : TypeId × Value → H} {W : World} {base : Nat} {v : Value} {d : DataW H} {p : List MemPlace} {hd : Bool}
theorem map_of_flat {α : Type} (f : α → Value) (l : List α) : l.flatMap (fun x => [f x]) = l.map f := by
  induction l with
  | nil => rfl
  | cons x l ih => simp [ih]
theorem cellsU8 : Tryd.prog.cellsOf 5 = 1 := by kernel_rfl
set_option maxRecDepth 100000 in
theorem open_bytes (hv : Value.okWide Tryd.prog W .any base 45 v) (h : DataW.Trod enc Tryd.prog W 0 (fun _ => true) hd 45 v d p) :
    ∃ (A : Option Addr) (n c : Nat) (l : List Int), v = .slice A n c ∧ (l.length = n ∧ n ≤ maxLen ∧ Rd W 1 A n (u8cells l) ∧ ∀ x ∈ l, 0 ≤ x ∧ x ≤ 255) := by
  obtain ⟨A, n, c, rfl⟩ := okWide_slice Tryd.underlying45 hv
  obtain ⟨fuel, hf⟩ := h
  rcases open_ints Tryd.underlying45 Tryd.underlying5 cellsU8 hf with ⟨h1, _⟩ | ⟨a, n', c', zs, h1, _, hle, hmax, hm, hx, hi, hw⟩
  · simp only [Value.cells, List.cons.injEq, Value.slice.injEq, and_true] at h1
    obtain ⟨rfl, rfl, rfl⟩ := h1
    exact ⟨none, 0, 0, [], rfl, rfl, Nat.zero_le _, Rd.none_ _ _ _, fun d hd => by cases hd⟩
  · simp only [Value.cells, List.cons.injEq, Value.slice.injEq, and_true] at h1
    obtain ⟨rfl, rfl, rfl⟩ := h1
    simp only [if_true] at hm
    have key : ∀ i, i < n → ∃ x : Int, (0 ≤ x ∧ x ≤ 255) ∧ ∀ j u, ([Value.int .u8 x])[j]? = some u → W.cell? (a.add (i * 1 + j)) = some u := by
      intro i hin
      refine ⟨zs[i]'(by omega), bounds_u8 (hw _ (List.getElem_mem _)), fun j u hj => ?_⟩
      match j, hj with
      | 0, hj =>
        obtain rfl := Option.some.inj hj
        have h3 := hi i (by omega)
        simp only [Nat.mul_one, Nat.add_zero]
        rw [h3, List.getD_eq_getElem?_getD, List.getElem?_eq_getElem (by omega)]; rfl
      | j + 1, hj => simp at hj
    obtain ⟨l, hl, hr, ho⟩ := rd_of_elems (W := W) (a := a) (n := n) (fun x => [Value.int .u8 x]) (fun x => 0 ≤ x ∧ x ≤ 255) (size := 1) (fun _ => rfl) (by omega) key
    exact ⟨some a, n, c, l, rfl, hl, by omega, by rw [map_of_flat] at hr; exact hr, ho⟩
end
end Go.Proofs.YtfapdhfjcnehhaaDoor

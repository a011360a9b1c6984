
/-
  Arguments opened: one entry of a cache.
-/
import Derived.Test.YtfapdhfjcnehhaaOpen
namespace Go.Proofs.Ytfapdhfjcnehhaa
open Go.RowKit Go.WideShapes Go.ChangeShapes Go.Joins Go.Deep
set_option linter.unusedVariables false
section
variable {H : Type} {enc : TypeId × Value → H} {W : World} {base : Nat} {v : Value} {d : DataW H} {p : List MemPlace} {sp : Nat → Bool} {hd : Bool}
theorem cellsEntry1 : Try.prog.cellsOf 39 = 5 := by kernel_rfl
set_option maxRecDepth 100000 in
theorem open_entry (hv : Value.okWide Try.prog W .any base 39 v) (h : DataW.Trod enc Try.prog W 0 sp hd 39 v d p) :
    ∃ (s : ByteArray) (a b : Int) (t : ByteArray) (c : Int), v = .agg #[.string s, .int .i64 a, .int .i64 b, .string t, .int .i64 c] ∧ s.size ≤ maxLen ∧ t.size ≤ maxLen := by
  obtain ⟨v0, v1, v2, v3, v4, y0, y1, y2, y3, y4, n, rfl, _, _, h0, h1, h2, h3, h4⟩ := open_agg5 Try.underlying39 (by kernel_rfl) cellsEntry1 hv h
  obtain ⟨s, e0, _, hs⟩ := DataW.trod_string Try.underlying9 h0
  obtain ⟨a, e1, _, _⟩ := DataW.trod_int Try.underlying3 h1
  obtain ⟨b, e2, _, _⟩ := DataW.trod_int Try.underlying3 h2
  obtain ⟨t, e3, _, ht⟩ := DataW.trod_string Try.underlying9 h3
  obtain ⟨c, e4, _, _⟩ := DataW.trod_int Try.underlying3 h4
  simp only [List.cons.injEq, and_true] at e0 e1 e2 e3 e4
  subst e0 e1 e2 e3 e4
  exact ⟨s, a, b, t, c, rfl, hs, ht⟩
end
end Go.Proofs.Ytfapdhfjcnehhaa

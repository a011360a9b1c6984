
/-
  Arguments opened: a piece (its rules, chunks, spans and ties read as lists).
-/
import Derived.Test.YtfapdhfjcnehhaaDoorOpen
import Derived.Test.YtfapdhfjcnehhaaDoorFamRule
import Derived.Test.YtfapdhfjcnehhaaDoorFamChunk
import Derived.Test.YtfapdhfjcnehhaaDoorFamSpan
import Derived.Test.YtfapdhfjcnehhaaDoorFamTie
namespace Go.Proofs.YtfapdhfjcnehhaaDoor
open Go.RowKit Go.WideShapes Go.ChangeShapes Go.Joins Go.Deep
set_option linter.unusedVariables false
section
variable {H : Type} {enc : TypeId × Value → H} {W : World} {base : Nat} {v : Value} {d : DataW H} {p : List MemPlace} {hd : Bool}
theorem cellsRuleE : Tryd.prog.cellsOf 148 = 2 := by kernel_rfl
set_option maxRecDepth 100000 in
theorem open_rules_cells {cs : List Value} {fuel : Nat} {x : DataW H × List MemPlace} (hf : DataW.trod enc Tryd.prog W 0 (fun _ => true) hd fuel 65 cs = some x) :
    ∃ (A : Option Addr) (n c : Nat) (l : List RuleD), cs = [.slice A n c] ∧ (l.length = n ∧ n ≤ maxLen ∧ Rd W 2 A n (l.flatMap ruleCells) ∧ ∀ d ∈ l, OkRule d) := by
  rcases open_slice_fields Tryd.underlying65 Tryd.underlying148 (by kernel_rfl) cellsRuleE hf with ⟨h1, _⟩ | ⟨a, n, c, m, D, Pl, h1, _, hle, hmax, hm, hx, hi⟩
  · exact ⟨none, 0, 0, [], h1, rfl, Nat.zero_le _, Rd.none_ _ _ _, fun d hd => by cases hd⟩
  · have key : ∀ i, i < n → ∃ d : RuleD, OkRule d ∧ ∀ j v, (ruleCells d)[j]? = some v → W.cell? (a.add (i * 2 + j)) = some v := by
      intro i hin
      obtain ⟨ys, nn, _, _, _, hfl⟩ := hi i (by simp at hm; omega)
      obtain ⟨v0, y0, g0, _, t0⟩ := hfl 0 _ rfl
      obtain ⟨x0, e0, _, o0⟩ := DataW.trod_int Tryd.underlying3 t0
      obtain ⟨v1, y1, g1, _, t1⟩ := hfl 1 _ rfl
      obtain ⟨x1, e1, _, o1⟩ := DataW.trod_int Tryd.underlying3 t1
      simp only [List.cons.injEq, and_true] at e0 e1
      subst e0 e1
      refine ⟨(x0, x1), trivial, fun j v hj => ?_⟩
      match j, hj with
      | 0, hj => obtain rfl := Option.some.inj hj; exact g0
      | 1, hj => obtain rfl := Option.some.inj hj; exact g1
      | j + 2, hj => simp [ruleCells] at hj
    obtain ⟨l, hl, hr, ho⟩ := rd_of_elems (W := W) (a := a) (n := n) ruleCells OkRule ruleCells_len (by omega) key
    exact ⟨some a, n, c, l, h1, hl, by omega, hr, ho⟩
set_option maxRecDepth 100000 in
theorem open_rules (hv : Value.okWide Tryd.prog W .any base 65 v) (h : DataW.Trod enc Tryd.prog W 0 (fun _ => true) hd 65 v d p) :
    ∃ (A : Option Addr) (n c : Nat) (l : List RuleD), v = .slice A n c ∧ (l.length = n ∧ n ≤ maxLen ∧ Rd W 2 A n (l.flatMap ruleCells) ∧ ∀ d ∈ l, OkRule d) := by
  obtain ⟨A, n, c, rfl⟩ := okWide_slice Tryd.underlying65 hv
  obtain ⟨fuel, hf⟩ := h
  obtain ⟨A', n', c', l, h1, hh⟩ := open_rules_cells hf
  simp only [Value.cells, List.cons.injEq, Value.slice.injEq, and_true] at h1
  obtain ⟨rfl, rfl, rfl⟩ := h1
  exact ⟨_, _, _, l, rfl, hh⟩
theorem cellsSpanE : Tryd.prog.cellsOf 151 = 3 := by kernel_rfl
set_option maxRecDepth 100000 in
theorem open_spans_cells {cs : List Value} {fuel : Nat} {x : DataW H × List MemPlace} (hf : DataW.trod enc Tryd.prog W 0 (fun _ => true) hd fuel 67 cs = some x) :
    ∃ (A : Option Addr) (n c : Nat) (l : List SpanD), cs = [.slice A n c] ∧ (l.length = n ∧ n ≤ maxLen ∧ Rd W 3 A n (l.flatMap spanCells) ∧ ∀ d ∈ l, OkSpan d) := by
  rcases open_slice_fields Tryd.underlying67 Tryd.underlying151 (by kernel_rfl) cellsSpanE hf with ⟨h1, _⟩ | ⟨a, n, c, m, D, Pl, h1, _, hle, hmax, hm, hx, hi⟩
  · exact ⟨none, 0, 0, [], h1, rfl, Nat.zero_le _, Rd.none_ _ _ _, fun d hd => by cases hd⟩
  · have key : ∀ i, i < n → ∃ d : SpanD, OkSpan d ∧ ∀ j v, (spanCells d)[j]? = some v → W.cell? (a.add (i * 3 + j)) = some v := by
      intro i hin
      obtain ⟨ys, nn, _, _, _, hfl⟩ := hi i (by simp at hm; omega)
      obtain ⟨v0, y0, g0, _, t0⟩ := hfl 0 _ rfl
      obtain ⟨x0, e0, _, o0⟩ := DataW.trod_int Tryd.underlying3 t0
      obtain ⟨v1, y1, g1, _, t1⟩ := hfl 1 _ rfl
      obtain ⟨x1, e1, _, o1⟩ := DataW.trod_int Tryd.underlying3 t1
      obtain ⟨v2, y2, g2, _, t2⟩ := hfl 2 _ rfl
      obtain ⟨x2, e2, _, o2⟩ := DataW.trod_int Tryd.underlying3 t2
      simp only [List.cons.injEq, and_true] at e0 e1 e2
      subst e0 e1 e2
      refine ⟨(x0, x1, x2), trivial, fun j v hj => ?_⟩
      match j, hj with
      | 0, hj => obtain rfl := Option.some.inj hj; exact g0
      | 1, hj => obtain rfl := Option.some.inj hj; exact g1
      | 2, hj => obtain rfl := Option.some.inj hj; exact g2
      | j + 3, hj => simp [spanCells] at hj
    obtain ⟨l, hl, hr, ho⟩ := rd_of_elems (W := W) (a := a) (n := n) spanCells OkSpan spanCells_len (by omega) key
    exact ⟨some a, n, c, l, h1, hl, by omega, hr, ho⟩
set_option maxRecDepth 100000 in
theorem open_spans (hv : Value.okWide Tryd.prog W .any base 67 v) (h : DataW.Trod enc Tryd.prog W 0 (fun _ => true) hd 67 v d p) :
    ∃ (A : Option Addr) (n c : Nat) (l : List SpanD), v = .slice A n c ∧ (l.length = n ∧ n ≤ maxLen ∧ Rd W 3 A n (l.flatMap spanCells) ∧ ∀ d ∈ l, OkSpan d) := by
  obtain ⟨A, n, c, rfl⟩ := okWide_slice Tryd.underlying67 hv
  obtain ⟨fuel, hf⟩ := h
  obtain ⟨A', n', c', l, h1, hh⟩ := open_spans_cells hf
  simp only [Value.cells, List.cons.injEq, Value.slice.injEq, and_true] at h1
  obtain ⟨rfl, rfl, rfl⟩ := h1
  exact ⟨_, _, _, l, rfl, hh⟩
theorem cellsTieE : Tryd.prog.cellsOf 153 = 2 := by kernel_rfl
set_option maxRecDepth 100000 in
theorem open_ties_cells {cs : List Value} {fuel : Nat} {x : DataW H × List MemPlace} (hf : DataW.trod enc Tryd.prog W 0 (fun _ => true) hd fuel 68 cs = some x) :
    ∃ (A : Option Addr) (n c : Nat) (l : List TieD), cs = [.slice A n c] ∧ (l.length = n ∧ n ≤ maxLen ∧ Rd W 2 A n (l.flatMap tieCells) ∧ ∀ d ∈ l, OkTie d) := by
  rcases open_slice_fields Tryd.underlying68 Tryd.underlying153 (by kernel_rfl) cellsTieE hf with ⟨h1, _⟩ | ⟨a, n, c, m, D, Pl, h1, _, hle, hmax, hm, hx, hi⟩
  · exact ⟨none, 0, 0, [], h1, rfl, Nat.zero_le _, Rd.none_ _ _ _, fun d hd => by cases hd⟩
  · have key : ∀ i, i < n → ∃ d : TieD, OkTie d ∧ ∀ j v, (tieCells d)[j]? = some v → W.cell? (a.add (i * 2 + j)) = some v := by
      intro i hin
      obtain ⟨ys, nn, _, _, _, hfl⟩ := hi i (by simp at hm; omega)
      obtain ⟨v0, y0, g0, _, t0⟩ := hfl 0 _ rfl
      obtain ⟨x0, e0, _, o0⟩ := DataW.trod_int Tryd.underlying3 t0
      obtain ⟨v1, y1, g1, _, t1⟩ := hfl 1 _ rfl
      obtain ⟨x1, e1, _, o1⟩ := DataW.trod_int Tryd.underlying3 t1
      simp only [List.cons.injEq, and_true] at e0 e1
      subst e0 e1
      refine ⟨(x0, x1), trivial, fun j v hj => ?_⟩
      match j, hj with
      | 0, hj => obtain rfl := Option.some.inj hj; exact g0
      | 1, hj => obtain rfl := Option.some.inj hj; exact g1
      | j + 2, hj => simp [tieCells] at hj
    obtain ⟨l, hl, hr, ho⟩ := rd_of_elems (W := W) (a := a) (n := n) tieCells OkTie tieCells_len (by omega) key
    exact ⟨some a, n, c, l, h1, hl, by omega, hr, ho⟩
set_option maxRecDepth 100000 in
theorem open_ties (hv : Value.okWide Tryd.prog W .any base 68 v) (h : DataW.Trod enc Tryd.prog W 0 (fun _ => true) hd 68 v d p) :
    ∃ (A : Option Addr) (n c : Nat) (l : List TieD), v = .slice A n c ∧ (l.length = n ∧ n ≤ maxLen ∧ Rd W 2 A n (l.flatMap tieCells) ∧ ∀ d ∈ l, OkTie d) := by
  obtain ⟨A, n, c, rfl⟩ := okWide_slice Tryd.underlying68 hv
  obtain ⟨fuel, hf⟩ := h
  obtain ⟨A', n', c', l, h1, hh⟩ := open_ties_cells hf
  simp only [Value.cells, List.cons.injEq, Value.slice.injEq, and_true] at h1
  obtain ⟨rfl, rfl, rfl⟩ := h1
  exact ⟨_, _, _, l, rfl, hh⟩
theorem cellsStrE : Tryd.prog.cellsOf 9 = 1 := by kernel_rfl
theorem cellsIntE : Tryd.prog.cellsOf 3 = 1 := by kernel_rfl
theorem cellsBoolE : Tryd.prog.cellsOf 4 = 1 := by kernel_rfl
theorem cellsChunkE : Tryd.prog.cellsOf 146 = 5 := by kernel_rfl
theorem cellsSplitE : Tryd.prog.cellsOf 144 = 4 := by kernel_rfl
set_option maxRecDepth 100000 in
theorem open_chunks_cells {cs : List Value} {fuel : Nat} {x : DataW H × List MemPlace} (hf : DataW.trod enc Tryd.prog W 0 (fun _ => true) hd fuel 66 cs = some x) :
    ∃ (A : Option Addr) (n c : Nat) (l : List ChunkD), cs = [.slice A n c] ∧ (l.length = n ∧ n ≤ maxLen ∧ Rd W 5 A n (l.flatMap chunkCells) ∧ ∀ d ∈ l, OkChunk d) := by
  rcases open_slice Tryd.underlying66 hf with ⟨h1, _⟩ | ⟨a, n, c, m, nn, D, Pl, h1, _, hle, hmax, hm, hx, hi⟩
  · exact ⟨none, 0, 0, [], h1, rfl, Nat.zero_le _, Rd.none_ _ _ _, fun d hd => by cases hd⟩
  · have key : ∀ i, i < n → ∃ d : ChunkD, OkChunk d ∧ ∀ j v, (chunkCells d)[j]? = some v → W.cell? (a.add (i * 5 + j)) = some v := by
      intro i hin
      obtain ⟨cs', hc, ht'⟩ := hi i (by simp at hm; omega)
      rw [cellsChunkE] at hc
      obtain ⟨_, hcl, hat⟩ := World.cells?_some hc
      obtain ⟨xs, n1, _, _, _, hxl, hg⟩ := DataW.trod_struct Tryd.underlying146 ht'
      match cs', hcl, xs, hxl with
      | [k0, k1, k2, k3, k4], _, [y0, y1], _ =>
        have t0 : DataW.trod enc Tryd.prog W 0 (fun _ => true) hd n1 9 [k0] = some y0 := by simpa [cellsStrE] using hg 0 _ rfl
        have t1 : DataW.trod enc Tryd.prog W 0 (fun _ => true) hd n1 144 [k1, k2, k3, k4] = some y1 := by simpa [cellsSplitE] using hg 1 _ rfl
        obtain ⟨zs, n2, _, _, _, hzl, hg2⟩ := DataW.trod_struct Tryd.underlying144 t1
        match zs, hzl with
        | [z0, z1, z2, z3], _ =>
          have s0 : DataW.trod enc Tryd.prog W 0 (fun _ => true) hd n2 3 [k1] = some z0 := by simpa [cellsIntE] using hg2 0 _ rfl
          have s1 : DataW.trod enc Tryd.prog W 0 (fun _ => true) hd n2 3 [k2] = some z1 := by simpa [cellsIntE] using hg2 1 _ rfl
          have s2 : DataW.trod enc Tryd.prog W 0 (fun _ => true) hd n2 4 [k3] = some z2 := by simpa [cellsBoolE] using hg2 2 _ rfl
          have s3 : DataW.trod enc Tryd.prog W 0 (fun _ => true) hd n2 3 [k4] = some z3 := by simpa [cellsIntE] using hg2 3 _ rfl
          obtain ⟨x0, e0, _, o0⟩ := DataW.trod_string Tryd.underlying9 t0
          obtain ⟨x1, e1, _, _⟩ := DataW.trod_int Tryd.underlying3 s0
          obtain ⟨x2, e2, _, _⟩ := DataW.trod_int Tryd.underlying3 s1
          obtain ⟨x3, e3, _⟩ := DataW.trod_bool Tryd.underlying4 s2
          obtain ⟨x4, e4, _, _⟩ := DataW.trod_int Tryd.underlying3 s3
          simp only [List.cons.injEq, and_true] at e0 e1 e2 e3 e4
          subst e0 e1 e2 e3 e4
          refine ⟨(x0, x1, x2, x3, x4), o0, fun j v hj => ?_⟩
          have hlt : j < 5 := by have := (List.getElem?_eq_some_iff.1 hj).1; simpa [chunkCells] using this
          rw [← add_add, hat j hlt]; exact hj
    obtain ⟨l, hl, hr, ho⟩ := rd_of_elems (W := W) (a := a) (n := n) chunkCells OkChunk chunkCells_len (by omega) key
    exact ⟨some a, n, c, l, h1, hl, by omega, hr, ho⟩
theorem cellsPieceE : Tryd.prog.cellsOf 70 = 5 := by kernel_rfl
set_option maxRecDepth 100000 in
theorem open_piece (hv : Value.okWide Tryd.prog W .any base 70 v) (h : DataW.Trod enc Tryd.prog W 0 (fun _ => true) hd 70 v d p) :
    ∃ (m : Int) (A0 : Option Addr) (n0 c0 : Nat) (l0 : List RuleD) (A1 : Option Addr) (n1 c1 : Nat) (l1 : List ChunkD) (A2 : Option Addr) (n2 c2 : Nat) (l2 : List SpanD) (A3 : Option Addr) (n3 c3 : Nat) (l3 : List TieD),
      v = .agg #[.int .i64 m, .slice A0 n0 c0, .slice A1 n1 c1, .slice A2 n2 c2, .slice A3 n3 c3] ∧
      ((l0.length = n0 ∧ n0 ≤ maxLen ∧ Rd W 2 A0 n0 (l0.flatMap ruleCells)) ∧ (l1.length = n1 ∧ n1 ≤ maxLen ∧ Rd W 5 A1 n1 (l1.flatMap chunkCells) ∧ ∀ d ∈ l1, OkChunk d) ∧ (l2.length = n2 ∧ n2 ≤ maxLen ∧ Rd W 3 A2 n2 (l2.flatMap spanCells)) ∧ (l3.length = n3 ∧ n3 ≤ maxLen ∧ Rd W 2 A3 n3 (l3.flatMap tieCells))) := by
  obtain ⟨v0, v1, v2, v3, v4, y0, y1, y2, y3, y4, n, rfl, _, _, h0, h1, h2, h3, h4⟩ := open_agg5 Tryd.underlying70 (by kernel_rfl) cellsPieceE hv h
  obtain ⟨a0, e0, _, _⟩ := DataW.trod_int Tryd.underlying3 h0
  obtain ⟨A0, n0, c0, l0, e1, q10, q11, q12, _⟩ := open_rules_cells h1
  obtain ⟨A1, n1, c1, l1, e2, hh2⟩ := open_chunks_cells h2
  obtain ⟨A2, n2, c2, l2, e3, q30, q31, q32, _⟩ := open_spans_cells h3
  obtain ⟨A3, n3, c3, l3, e4, q40, q41, q42, _⟩ := open_ties_cells h4
  simp only [List.cons.injEq, and_true] at e0 e1 e2 e3 e4
  subst e0 e1 e2 e3 e4
  exact ⟨a0, A0, n0, c0, l0, A1, n1, c1, l1, A2, n2, c2, l2, A3, n3, c3, l3, rfl, ⟨q10, q11, q12⟩, hh2, ⟨q30, q31, q32⟩, ⟨q40, q41, q42⟩⟩
end
end Go.Proofs.YtfapdhfjcnehhaaDoor


/-
  Contracts: a piece copied, and compared with one that reads alike (laws.toPiece, eqPiece).
-/
import Derived.Test.YtfapdhfjcnehhaaDoorPieceA
namespace Go.Proofs.YtfapdhfjcnehhaaDoor
open Go.RowKit
set_option linter.unusedVariables false

/-- A piece whose slices lie in blocks of the call's own. -/
def PieceR (m : Int) (n0 : Nat) (l0 : List RuleD) (n1 : Nat) (l1 : List ChunkD) (n2 : Nat) (l2 : List SpanD) (n3 : Nat) (l3 : List TieD) (w : World) (e : Ending) (w' : World) : Prop :=
  ∃ g0 g1 g2 g3 : Nat, e = .returned (.agg #[.int .i64 m, .slice (some ⟨g0, 0, none⟩) n0 n0, .slice (some ⟨g1, 0, none⟩) n1 n1, .slice (some ⟨g2, 0, none⟩) n2 n2, .slice (some ⟨g3, 0, none⟩) n3 n3]) ∧
    RdP w' (some ⟨g0, 0, none⟩) n0 l0 (some ⟨g1, 0, none⟩) n1 l1 (some ⟨g2, 0, none⟩) n2 l2 (some ⟨g3, 0, none⟩) n3 l3 ∧ Below w.heap.size w w'
set_option maxRecDepth 100000 in
set_option maxHeartbeats 1600000 in
theorem toPiece_any (m : Int) (A0 : Option Addr) (n0 c0 : Nat) (l0 : List RuleD) (A1 : Option Addr) (n1 c1 : Nat) (l1 : List ChunkD) (A2 : Option Addr) (n2 c2 : Nat) (l2 : List SpanD) (A3 : Option Addr) (n3 c3 : Nat) (l3 : List TieD) (w : World) (hl : Hid (LenP n0 l0 n1 l1 n2 l2 n3 l3)) (hr : RdP w A0 n0 l0 A1 n1 l1 A2 n2 l2 A3 n3 l3) (hn : n0 ≤ 1048576 ∧ n1 ≤ 1048576 ∧ n2 ≤ 1048576 ∧ n3 ≤ 1048576) :
    Calls Tryd.prog 42 #[.agg #[.int .i64 m, .slice A0 n0 c0, .slice A1 n1 c1, .slice A2 n2 c2, .slice A3 n3 c3]] w (PieceR m n0 l0 n1 l1 n2 l2 n3 l3 w) := by
  have HR := Lib.hid (fun W (hW : Below w.heap.size w W) => hr.next hW)
  obtain ⟨q0, q1, q2, q3⟩ := hn
  clear hr
  go_enter Tryd.func42, Tryd.ntmps42
  go_wp2_with fail
  refine (toRuleS_any A0 n0 c0 l0 _ q0 hl.out.1 (HR.out _ (by repeat' (first | (with_reducible exact Below.refl _ _) | (with_reducible assumption) | (with_reducible refine below_drewN ?_ _) | (with_reducible refine Below.drew ?_) | (with_reducible refine Below.alloc ?_ ?_ _) | (with_reducible refine Below.setCell ?_ ?_ _) | go_size))).1).mono ?_
  rintro e w2 ⟨rfl, o0, h2⟩
  have K1 := Blk.fresh3 h2
  have K2 := Blk.fresh2 h2
  have K3 := Blk.fresh h2
  have hb := below_next3 (Below.refl _ _) h2
  simp only [World.size_alloc] at K2 K3 o0 ⊢
  clear h2
  have z1 := K1.lt
  have z2 := K2.lt
  have z3 := K3.lt
  have f2 := K2.frozen
  have f3 := K3.frozen
  have d0 : w2.cell? ⟨w.heap.size, 0, none⟩ = some (.int .i64 m) := K1.cell 0
  have d1 : w2.cell? ⟨w.heap.size, 1, none⟩ = some (.slice A0 n0 c0) := K1.cell 1
  have d2 : w2.cell? ⟨w.heap.size, 2, none⟩ = some (.slice A1 n1 c1) := K1.cell 2
  have d3 : w2.cell? ⟨w.heap.size, 3, none⟩ = some (.slice A2 n2 c2) := K1.cell 3
  have d4 : w2.cell? ⟨w.heap.size, 4, none⟩ = some (.slice A3 n3 c3) := K1.cell 4
  have e0 : w2.cell? ⟨w.heap.size + 1 + 1, 0, none⟩ = some (.int .i64 m) := K3.cell 0
  have e1 : w2.cell? ⟨w.heap.size + 1 + 1, 1, none⟩ = some (.slice none 0 0) := K3.cell 1
  have e2 : w2.cell? ⟨w.heap.size + 1 + 1, 2, none⟩ = some (.slice none 0 0) := K3.cell 2
  have e3 : w2.cell? ⟨w.heap.size + 1 + 1, 3, none⟩ = some (.slice none 0 0) := K3.cell 3
  have e4 : w2.cell? ⟨w.heap.size + 1 + 1, 4, none⟩ = some (.slice none 0 0) := K3.cell 4
  obtain ⟨g0, hg0⟩ : ∃ g0, g0 = w.heap.size + 1 + 1 + 1 := ⟨_, rfl⟩
  rw [← hg0] at o0 ⊢
  have HG0 := Lib.hid hg0
  clear hg0
  have zg := o0.lt
  go_wp2_with fail
  obtain ⟨w3, hw3⟩ : ∃ w3, w3 = w2.setCell ⟨w.heap.size + 1 + 1, 1, none⟩ (.slice (some ⟨g0, 0, none⟩) n0 n0) := ⟨_, rfl⟩
  rw [← hw3]
  have hz0 : w.heap.size + 1 + 1 < g0 := by have := HG0.out; omega
  have hne0 : g0 ≠ w.heap.size + 1 + 1 := by omega
  clear d0 e0 d1 e1 d2 e2 d3 e3 d4 e4 z1 z2 z3 f2 f3 zg
  have p0 := o0.far (p := ⟨w.heap.size + 1 + 1, 1, none⟩) hne0 (.slice (some ⟨g0, 0, none⟩) n0 n0)
  rw [← hw3] at p0
  have L1 := K1.far (p := ⟨w.heap.size + 1 + 1, 1, none⟩) (by dsimp only; omega) (.slice (some ⟨g0, 0, none⟩) n0 n0)
  have L2 := K2.far (p := ⟨w.heap.size + 1 + 1, 1, none⟩) (by dsimp only; omega) (.slice (some ⟨g0, 0, none⟩) n0 n0)
  have L3 := K3.set_ 1 (.slice (some ⟨g0, 0, none⟩) n0 n0)
  have hb3 := hb.setCell (p := ⟨w.heap.size + 1 + 1, 1, none⟩) (by dsimp only; omega) (.slice (some ⟨g0, 0, none⟩) n0 n0)
  rw [← hw3] at L1 L2 L3 hb3
  clear hw3 K1 K2 K3 hb o0
  refine (toChunkS_any A1 n1 c1 l1 _ q1 hl.out.2.1 (HR.out _ hb3).2.1).mono ?_
  rintro e w2 ⟨rfl, o1, h2⟩
  obtain ⟨g1, hg1⟩ : ∃ g1, g1 = w3.heap.size := ⟨_, rfl⟩
  rw [← hg1] at o1 ⊢
  have HG1 := Lib.hid hg1
  clear hg1
  have y3 := L3.lt
  have K1 := L1.next h2
  have K2 := L2.next h2
  have K3 := L3.next h2
  have hb := below_next hb3 h2
  have o0 := p0.next h2
  clear h2 hb3 L1 L2 L3 p0
  replace K3 : Blk w2 (w.heap.size + 1 + 1) 52 #[.int .i64 m, .slice (some ⟨g0, 0, none⟩) n0 n0, .slice none 0 0, .slice none 0 0, .slice none 0 0] := K3
  have z1 := K1.lt
  have z2 := K2.lt
  have z3 := K3.lt
  have f2 := K2.frozen
  have f3 := K3.frozen
  have d0 : w2.cell? ⟨w.heap.size, 0, none⟩ = some (.int .i64 m) := K1.cell 0
  have d1 : w2.cell? ⟨w.heap.size, 1, none⟩ = some (.slice A0 n0 c0) := K1.cell 1
  have d2 : w2.cell? ⟨w.heap.size, 2, none⟩ = some (.slice A1 n1 c1) := K1.cell 2
  have d3 : w2.cell? ⟨w.heap.size, 3, none⟩ = some (.slice A2 n2 c2) := K1.cell 3
  have d4 : w2.cell? ⟨w.heap.size, 4, none⟩ = some (.slice A3 n3 c3) := K1.cell 4
  have e0 : w2.cell? ⟨w.heap.size + 1 + 1, 0, none⟩ = some (.int .i64 m) := K3.cell 0
  have e1 : w2.cell? ⟨w.heap.size + 1 + 1, 1, none⟩ = some (.slice (some ⟨g0, 0, none⟩) n0 n0) := K3.cell 1
  have e2 : w2.cell? ⟨w.heap.size + 1 + 1, 2, none⟩ = some (.slice none 0 0) := K3.cell 2
  have e3 : w2.cell? ⟨w.heap.size + 1 + 1, 3, none⟩ = some (.slice none 0 0) := K3.cell 3
  have e4 : w2.cell? ⟨w.heap.size + 1 + 1, 4, none⟩ = some (.slice none 0 0) := K3.cell 4
  have zg := o1.lt
  go_wp2_with fail
  obtain ⟨w3, hw3⟩ : ∃ w3, w3 = w2.setCell ⟨w.heap.size + 1 + 1, 2, none⟩ (.slice (some ⟨g1, 0, none⟩) n1 n1) := ⟨_, rfl⟩
  rw [← hw3]
  have hz1 : w.heap.size + 1 + 1 < g1 := by have := HG1.out; omega
  have hne1 : g1 ≠ w.heap.size + 1 + 1 := by omega
  clear d0 e0 d1 e1 d2 e2 d3 e3 d4 e4 z1 z2 z3 f2 f3 zg
  have p0 := o0.far (p := ⟨w.heap.size + 1 + 1, 2, none⟩) hne0 (.slice (some ⟨g1, 0, none⟩) n1 n1)
  rw [← hw3] at p0
  have p1 := o1.far (p := ⟨w.heap.size + 1 + 1, 2, none⟩) hne1 (.slice (some ⟨g1, 0, none⟩) n1 n1)
  rw [← hw3] at p1
  have L1 := K1.far (p := ⟨w.heap.size + 1 + 1, 2, none⟩) (by dsimp only; omega) (.slice (some ⟨g1, 0, none⟩) n1 n1)
  have L2 := K2.far (p := ⟨w.heap.size + 1 + 1, 2, none⟩) (by dsimp only; omega) (.slice (some ⟨g1, 0, none⟩) n1 n1)
  have L3 := K3.set_ 2 (.slice (some ⟨g1, 0, none⟩) n1 n1)
  have hb3 := hb.setCell (p := ⟨w.heap.size + 1 + 1, 2, none⟩) (by dsimp only; omega) (.slice (some ⟨g1, 0, none⟩) n1 n1)
  rw [← hw3] at L1 L2 L3 hb3
  clear hw3 K1 K2 K3 hb o0 o1
  refine (toSpanS_any A2 n2 c2 l2 _ q2 hl.out.2.2.1 (HR.out _ hb3).2.2.1).mono ?_
  rintro e w2 ⟨rfl, o2, h2⟩
  obtain ⟨g2, hg2⟩ : ∃ g2, g2 = w3.heap.size := ⟨_, rfl⟩
  rw [← hg2] at o2 ⊢
  have HG2 := Lib.hid hg2
  clear hg2
  have y3 := L3.lt
  have K1 := L1.next h2
  have K2 := L2.next h2
  have K3 := L3.next h2
  have hb := below_next hb3 h2
  have o0 := p0.next h2
  have o1 := p1.next h2
  clear h2 hb3 L1 L2 L3 p0 p1
  replace K3 : Blk w2 (w.heap.size + 1 + 1) 52 #[.int .i64 m, .slice (some ⟨g0, 0, none⟩) n0 n0, .slice (some ⟨g1, 0, none⟩) n1 n1, .slice none 0 0, .slice none 0 0] := K3
  have z1 := K1.lt
  have z2 := K2.lt
  have z3 := K3.lt
  have f2 := K2.frozen
  have f3 := K3.frozen
  have d0 : w2.cell? ⟨w.heap.size, 0, none⟩ = some (.int .i64 m) := K1.cell 0
  have d1 : w2.cell? ⟨w.heap.size, 1, none⟩ = some (.slice A0 n0 c0) := K1.cell 1
  have d2 : w2.cell? ⟨w.heap.size, 2, none⟩ = some (.slice A1 n1 c1) := K1.cell 2
  have d3 : w2.cell? ⟨w.heap.size, 3, none⟩ = some (.slice A2 n2 c2) := K1.cell 3
  have d4 : w2.cell? ⟨w.heap.size, 4, none⟩ = some (.slice A3 n3 c3) := K1.cell 4
  have e0 : w2.cell? ⟨w.heap.size + 1 + 1, 0, none⟩ = some (.int .i64 m) := K3.cell 0
  have e1 : w2.cell? ⟨w.heap.size + 1 + 1, 1, none⟩ = some (.slice (some ⟨g0, 0, none⟩) n0 n0) := K3.cell 1
  have e2 : w2.cell? ⟨w.heap.size + 1 + 1, 2, none⟩ = some (.slice (some ⟨g1, 0, none⟩) n1 n1) := K3.cell 2
  have e3 : w2.cell? ⟨w.heap.size + 1 + 1, 3, none⟩ = some (.slice none 0 0) := K3.cell 3
  have e4 : w2.cell? ⟨w.heap.size + 1 + 1, 4, none⟩ = some (.slice none 0 0) := K3.cell 4
  have zg := o2.lt
  go_wp2_with fail
  obtain ⟨w3, hw3⟩ : ∃ w3, w3 = w2.setCell ⟨w.heap.size + 1 + 1, 3, none⟩ (.slice (some ⟨g2, 0, none⟩) n2 n2) := ⟨_, rfl⟩
  rw [← hw3]
  have hz2 : w.heap.size + 1 + 1 < g2 := by have := HG2.out; omega
  have hne2 : g2 ≠ w.heap.size + 1 + 1 := by omega
  clear d0 e0 d1 e1 d2 e2 d3 e3 d4 e4 z1 z2 z3 f2 f3 zg
  have p0 := o0.far (p := ⟨w.heap.size + 1 + 1, 3, none⟩) hne0 (.slice (some ⟨g2, 0, none⟩) n2 n2)
  rw [← hw3] at p0
  have p1 := o1.far (p := ⟨w.heap.size + 1 + 1, 3, none⟩) hne1 (.slice (some ⟨g2, 0, none⟩) n2 n2)
  rw [← hw3] at p1
  have p2 := o2.far (p := ⟨w.heap.size + 1 + 1, 3, none⟩) hne2 (.slice (some ⟨g2, 0, none⟩) n2 n2)
  rw [← hw3] at p2
  have L1 := K1.far (p := ⟨w.heap.size + 1 + 1, 3, none⟩) (by dsimp only; omega) (.slice (some ⟨g2, 0, none⟩) n2 n2)
  have L2 := K2.far (p := ⟨w.heap.size + 1 + 1, 3, none⟩) (by dsimp only; omega) (.slice (some ⟨g2, 0, none⟩) n2 n2)
  have L3 := K3.set_ 3 (.slice (some ⟨g2, 0, none⟩) n2 n2)
  have hb3 := hb.setCell (p := ⟨w.heap.size + 1 + 1, 3, none⟩) (by dsimp only; omega) (.slice (some ⟨g2, 0, none⟩) n2 n2)
  rw [← hw3] at L1 L2 L3 hb3
  clear hw3 K1 K2 K3 hb o0 o1 o2
  refine (toTieS_any A3 n3 c3 l3 _ q3 hl.out.2.2.2 (HR.out _ hb3).2.2.2).mono ?_
  rintro e w2 ⟨rfl, o3, h2⟩
  obtain ⟨g3, hg3⟩ : ∃ g3, g3 = w3.heap.size := ⟨_, rfl⟩
  rw [← hg3] at o3 ⊢
  have HG3 := Lib.hid hg3
  clear hg3
  have y3 := L3.lt
  have K1 := L1.next h2
  have K2 := L2.next h2
  have K3 := L3.next h2
  have hb := below_next hb3 h2
  have o0 := p0.next h2
  have o1 := p1.next h2
  have o2 := p2.next h2
  clear h2 hb3 L1 L2 L3 p0 p1 p2
  replace K3 : Blk w2 (w.heap.size + 1 + 1) 52 #[.int .i64 m, .slice (some ⟨g0, 0, none⟩) n0 n0, .slice (some ⟨g1, 0, none⟩) n1 n1, .slice (some ⟨g2, 0, none⟩) n2 n2, .slice none 0 0] := K3
  have z1 := K1.lt
  have z2 := K2.lt
  have z3 := K3.lt
  have f2 := K2.frozen
  have f3 := K3.frozen
  have d0 : w2.cell? ⟨w.heap.size, 0, none⟩ = some (.int .i64 m) := K1.cell 0
  have d1 : w2.cell? ⟨w.heap.size, 1, none⟩ = some (.slice A0 n0 c0) := K1.cell 1
  have d2 : w2.cell? ⟨w.heap.size, 2, none⟩ = some (.slice A1 n1 c1) := K1.cell 2
  have d3 : w2.cell? ⟨w.heap.size, 3, none⟩ = some (.slice A2 n2 c2) := K1.cell 3
  have d4 : w2.cell? ⟨w.heap.size, 4, none⟩ = some (.slice A3 n3 c3) := K1.cell 4
  have e0 : w2.cell? ⟨w.heap.size + 1 + 1, 0, none⟩ = some (.int .i64 m) := K3.cell 0
  have e1 : w2.cell? ⟨w.heap.size + 1 + 1, 1, none⟩ = some (.slice (some ⟨g0, 0, none⟩) n0 n0) := K3.cell 1
  have e2 : w2.cell? ⟨w.heap.size + 1 + 1, 2, none⟩ = some (.slice (some ⟨g1, 0, none⟩) n1 n1) := K3.cell 2
  have e3 : w2.cell? ⟨w.heap.size + 1 + 1, 3, none⟩ = some (.slice (some ⟨g2, 0, none⟩) n2 n2) := K3.cell 3
  have e4 : w2.cell? ⟨w.heap.size + 1 + 1, 4, none⟩ = some (.slice none 0 0) := K3.cell 4
  have zg := o3.lt
  have hz3 : w.heap.size + 1 + 1 < g3 := by have := HG3.out; omega
  have hne3 : g3 ≠ w.heap.size + 1 + 1 := by omega
  have b0 : w2.cell? ⟨w.heap.size + 1, 0, none⟩ = some (.int .i64 0) := K2.cell 0
  have b1 : w2.cell? ⟨w.heap.size + 1, 1, none⟩ = some (.slice none 0 0) := K2.cell 1
  have b2 : w2.cell? ⟨w.heap.size + 1, 2, none⟩ = some (.slice none 0 0) := K2.cell 2
  have b3 : w2.cell? ⟨w.heap.size + 1, 3, none⟩ = some (.slice none 0 0) := K2.cell 3
  have b4 : w2.cell? ⟨w.heap.size + 1, 4, none⟩ = some (.slice none 0 0) := K2.cell 4
  clear K1 K2 K3
  go_wp2
  refine bodyPost_ret (by simp [results, Tryd.results42, go_sem, b0, b1, b2, b3, b4]; try rfl) rfl ?_
  refine ⟨g0, g1, g2, g3, rfl, ?_, (by repeat' (first | (with_reducible exact Below.refl _ _) | (with_reducible assumption) | (with_reducible refine below_drewN ?_ _) | (with_reducible refine Below.drew ?_) | (with_reducible refine Below.alloc ?_ ?_ _) | (with_reducible refine Below.setCell ?_ ?_ _) | go_size))⟩
  have hx : ∀ g, g ≠ w.heap.size + 1 → g ≠ w.heap.size + 1 + 1 → True := fun _ _ _ => trivial
  refine ⟨?_, ?_, ?_, ?_⟩
  · refine Own.rd (size := 2) (n := n0) (g := g0) (cap := n0 * 2) (t := 92) ?_ (by rw [flat_len ruleCells ruleCells_len, hl.out.1])
    repeat (first | (with_reducible exact o0) | (with_reducible refine Own.far ?_ (by dsimp only; omega) _))
  · refine Own.rd (size := 5) (n := n1) (g := g1) (cap := n1 * 5) (t := 96) ?_ (by rw [flat_len chunkCells chunkCells_len, hl.out.2.1])
    repeat (first | (with_reducible exact o1) | (with_reducible refine Own.far ?_ (by dsimp only; omega) _))
  · refine Own.rd (size := 3) (n := n2) (g := g2) (cap := n2 * 3) (t := 99) ?_ (by rw [flat_len spanCells spanCells_len, hl.out.2.2.1])
    repeat (first | (with_reducible exact o2) | (with_reducible refine Own.far ?_ (by dsimp only; omega) _))
  · refine Own.rd (size := 2) (n := n3) (g := g3) (cap := n3 * 2) (t := 101) ?_ (by rw [flat_len tieCells tieCells_len, hl.out.2.2.2])
    repeat (first | (with_reducible exact o3) | (with_reducible refine Own.far ?_ (by dsimp only; omega) _))
set_option maxRecDepth 100000 in
set_option maxHeartbeats 1600000 in
theorem eqPiece_same (m : Int) (A0 : Option Addr) (n0 c0 : Nat) (l0 : List RuleD) (A1 : Option Addr) (n1 c1 : Nat) (l1 : List ChunkD) (A2 : Option Addr) (n2 c2 : Nat) (l2 : List SpanD) (A3 : Option Addr) (n3 c3 : Nat) (l3 : List TieD) (B0 : Option Addr) (k0 : Nat) (B1 : Option Addr) (k1 : Nat) (B2 : Option Addr) (k2 : Nat) (B3 : Option Addr) (k3 : Nat) (w : World) (hl : Hid (LenP n0 l0 n1 l1 n2 l2 n3 l3)) (hr : RdP w A0 n0 l0 A1 n1 l1 A2 n2 l2 A3 n3 l3) (hr2 : RdP w B0 n0 l0 B1 n1 l1 B2 n2 l2 B3 n3 l3) (hn : n0 ≤ 1048576 ∧ n1 ≤ 1048576 ∧ n2 ≤ 1048576 ∧ n3 ≤ 1048576) :
    Calls Tryd.prog 43 #[.agg #[.int .i64 m, .slice A0 n0 c0, .slice A1 n1 c1, .slice A2 n2 c2, .slice A3 n3 c3], .agg #[.int .i64 m, .slice B0 n0 k0, .slice B1 n1 k1, .slice B2 n2 k2, .slice B3 n3 k3]] w fun e w' => e = .returned (.bool true) ∧ Below w.heap.size w w' := by
  have hb := Below.refl w.heap.size w
  obtain ⟨q0, q1, q2, q3⟩ := hn
  obtain ⟨r0, r1, r2, r3⟩ := hr
  obtain ⟨s0, s1, s2, s3⟩ := hr2
  go_enter Tryd.func43, Tryd.ntmps43
  go_wp2_with fail
  refine (eqRuleS_same A0 B0 n0 c0 k0 l0 _ (by omega) hl.out.1 ((r0.alloc _).alloc _) ((s0.alloc _).alloc _)).mono ?_
  rintro e w2 ⟨rfl, h2⟩
  replace r1 := by first | exact r1.next h2 | exact r1.next1 h2 | exact r1.next2 h2
  replace r2 := by first | exact r2.next h2 | exact r2.next1 h2 | exact r2.next2 h2
  replace r3 := by first | exact r3.next h2 | exact r3.next1 h2 | exact r3.next2 h2
  replace s1 := by first | exact s1.next h2 | exact s1.next1 h2 | exact s1.next2 h2
  replace s2 := by first | exact s2.next h2 | exact s2.next1 h2 | exact s2.next2 h2
  replace s3 := by first | exact s3.next h2 | exact s3.next1 h2 | exact s3.next2 h2
  have K1 := Blk.fresh2 h2
  have K2 := Blk.fresh h2
  replace hb := by first | exact below_next hb h2 | exact below_next1 hb h2 | exact below_next2 hb h2
  clear h2
  have cK1 := K1.cell
  have fK1 := K1.frozen
  have zK1 := K1.lt
  have cK2 := K2.cell
  have fK2 := K2.frozen
  have zK2 := K2.lt
  simp only [World.size_alloc] at K2 cK2 fK2 zK2
  go_wp2_with fail
  refine (eqChunkS_same A1 B1 n1 c1 k1 l1 _ (by omega) hl.out.2.1 r1 s1).mono ?_
  rintro e w2 ⟨rfl, h2⟩
  clear cK1 fK1 zK1
  replace K1 := by first | exact K1.next h2 | exact K1.next1 h2 | exact K1.next2 h2
  clear cK2 fK2 zK2
  replace K2 := by first | exact K2.next h2 | exact K2.next1 h2 | exact K2.next2 h2
  replace r2 := by first | exact r2.next h2 | exact r2.next1 h2 | exact r2.next2 h2
  replace r3 := by first | exact r3.next h2 | exact r3.next1 h2 | exact r3.next2 h2
  replace s2 := by first | exact s2.next h2 | exact s2.next1 h2 | exact s2.next2 h2
  replace s3 := by first | exact s3.next h2 | exact s3.next1 h2 | exact s3.next2 h2
  replace hb := by first | exact below_next hb h2 | exact below_next1 hb h2 | exact below_next2 hb h2
  clear h2
  have cK1 := K1.cell
  have fK1 := K1.frozen
  have zK1 := K1.lt
  have cK2 := K2.cell
  have fK2 := K2.frozen
  have zK2 := K2.lt
  go_wp2_with fail
  refine (eqSpanS_same A2 B2 n2 c2 k2 l2 _ (by omega) hl.out.2.2.1 r2 s2).mono ?_
  rintro e w2 ⟨rfl, h2⟩
  clear cK1 fK1 zK1
  replace K1 := by first | exact K1.next h2 | exact K1.next1 h2 | exact K1.next2 h2
  clear cK2 fK2 zK2
  replace K2 := by first | exact K2.next h2 | exact K2.next1 h2 | exact K2.next2 h2
  replace r3 := by first | exact r3.next h2 | exact r3.next1 h2 | exact r3.next2 h2
  replace s3 := by first | exact s3.next h2 | exact s3.next1 h2 | exact s3.next2 h2
  replace hb := by first | exact below_next hb h2 | exact below_next1 hb h2 | exact below_next2 hb h2
  clear h2
  have cK1 := K1.cell
  have fK1 := K1.frozen
  have zK1 := K1.lt
  have cK2 := K2.cell
  have fK2 := K2.frozen
  have zK2 := K2.lt
  go_wp2_with fail
  refine (eqTieS_same A3 B3 n3 c3 k3 l3 _ (by omega) hl.out.2.2.2 r3 s3).mono ?_
  rintro e w2 ⟨rfl, h2⟩
  clear cK1 fK1 zK1
  replace K1 := by first | exact K1.next h2 | exact K1.next1 h2 | exact K1.next2 h2
  clear cK2 fK2 zK2
  replace K2 := by first | exact K2.next h2 | exact K2.next1 h2 | exact K2.next2 h2
  replace hb := by first | exact below_next hb h2 | exact below_next1 hb h2 | exact below_next2 hb h2
  clear h2
  have cK1 := K1.cell
  have fK1 := K1.frozen
  have zK1 := K1.lt
  have cK2 := K2.cell
  have fK2 := K2.frozen
  have zK2 := K2.lt
  go_wp2
  go_ret
  exact ⟨rfl, hb⟩
end Go.Proofs.YtfapdhfjcnehhaaDoor

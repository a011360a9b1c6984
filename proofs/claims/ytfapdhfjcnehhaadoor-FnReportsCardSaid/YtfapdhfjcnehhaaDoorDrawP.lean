
/-
  Plain words for a drawn piece: its block and its slices in blocks of the call's own; what an append to one of them leaves.
-/
import Derived.Test.YtfapdhfjcnehhaaDoorPieceH
import Derived.Test.YtfapdhfjcnehhaaDoorCur
import Derived.Test.YtfapdhfjcnehhaaDoorMine
import Derived.Deep.RegionHeld3
import Derived.Deep.AppendLies
import Derived.Maps.AppendAt
namespace Go.Proofs.YtfapdhfjcnehhaaDoor
open Go.RowKit
set_option linter.unusedVariables false

theorem blk_put {w : World} {g i : Nat} {t : TypeId} {cs cs' : Array Value} {u : Value} (h : Blk w g t cs) (he : cs.setIfInBounds i u = cs') : Blk (w.setCell ⟨g, i, none⟩ u) g t cs' := by
  rw [← he]; exact h.set_ i u
theorem grown_undrew {w w' : World} {row : Option Nat} (h : w.drew.grownBy w' row) : w.grownBy w' row := ⟨h.os, h.tape, h.output, h.size, h.block⟩
theorem grown_row {a w w' : World} {g : Nat} {row : Option Nat} (h : a.grownBy w (some g)) (hg : w.grownBy w' row) (hr : ∀ q, row = some q → a.heap.size ≤ q) : a.grownBy w' (some g) :=
  ⟨hg.os.trans h.os, hg.tape.trans h.tape, hg.output.trans h.output, Nat.le_trans h.size hg.size, fun i hi hne => (hg.block i (Nat.lt_of_lt_of_le hi h.size) (fun e => by have := hr i e.symm; omega)).trans (h.block i hi hne)⟩
theorem grown_below {a w w' : World} {g : Nat} (h : a.grownBy w (some g)) (hb : Below w.heap.size w w') : a.grownBy w' (some g) :=
  ⟨hb.os.trans h.os, hb.tape.trans h.tape, hb.output.trans h.output, Nat.le_trans h.size hb.size, fun i hi hne => (hb.block i (Nat.lt_of_lt_of_le hi h.size)).trans (h.block i hi hne)⟩
theorem grown_one (w : World) (p : Addr) (u : Value) : w.grownBy (w.setCell p u) (some p.block) :=
  ⟨rfl, rfl, rfl, by simp [World.setCell], fun i hi hne => Below.heap_setCell w p u i (fun e => hne (by rw [e]))⟩
theorem Mine.ne_blk {w : World} {B g s n c : Nat} {e t : TypeId} {A : Option Addr} {xs : List Value} {cs : Array Value} (h : Mine w B e s A n c xs) (hb : Blk w g t cs) (hne : e ≠ t) : ∀ q, (Value.slice A n c).ownBlock = some q → g ≠ q := by
  intro q hq e2
  subst e2
  rw [ownBlk] at hq
  rcases h.own with ⟨rfl, _⟩ | ⟨g', rfl, _, _, _, r, hr, _⟩
  · simp at hq
  · simp at hq
    subst hq
    have := hr.symm.trans hb
    injection this with this
    injection this with _ this
    exact hne this
theorem Mine.row_ge {w : World} {B s n c : Nat} {e : TypeId} {A : Option Addr} {xs : List Value} (h : Mine w B e s A n c xs) : ∀ q, (Value.slice A n c).ownBlock = some q → B ≤ q := fun q hq => (h.blk (by rw [← ownBlk A n c]; exact hq)).1
theorem Mine.far {w : World} {B s n c : Nat} {e t : TypeId} {A : Option Addr} {xs : List Value} {g o : Nat} {cs : Array Value} (h : Mine w B e s A n c xs) (hb : Blk w g t cs) (hne : e ≠ t) (u : Value) : Mine (w.setCell ⟨g, o, none⟩ u) B e s A n c xs := by
  refine h.grown (grown_one w ⟨g, o, none⟩ u) (fun q hq => .inr (fun h2 => ?_))
  have hq2 : g = q := by injection hq
  exact Mine.ne_blk (n := n) (c := c) h hb hne q (by rw [ownBlk]; exact h2) hq2
def PcA (w : World) (B gP : Nat) (m : Int) (A0 : Option Addr) (n0 c0 : Nat) (l0 : List RuleD) (A1 : Option Addr) (n1 c1 : Nat) (l1 : List ChunkD) (A2 : Option Addr) (n2 c2 : Nat) (l2 : List SpanD) (A3 : Option Addr) (n3 c3 : Nat) (l3 : List TieD) : Prop :=
  Blk w gP 52 #[.int .i64 m, .slice A0 n0 c0, .slice A1 n1 c1, .slice A2 n2 c2, .slice A3 n3 c3] ∧ B ≤ gP ∧ Mine w B 92 2 A0 n0 c0 (l0.flatMap ruleCells) ∧ Mine w B 96 5 A1 n1 c1 (l1.flatMap chunkCells) ∧ Mine w B 99 3 A2 n2 c2 (l2.flatMap spanCells) ∧ Mine w B 101 2 A3 n3 c3 (l3.flatMap tieCells)
section
variable {w w' : World} {B gP : Nat} {m : Int} {A0 : Option Addr} {n0 c0 : Nat} {l0 : List RuleD} {A1 : Option Addr} {n1 c1 : Nat} {l1 : List ChunkD} {A2 : Option Addr} {n2 c2 : Nat} {l2 : List SpanD} {A3 : Option Addr} {n3 c3 : Nat} {l3 : List TieD}
theorem PcA.next (h : PcA w B gP m A0 n0 c0 l0 A1 n1 c1 l1 A2 n2 c2 l2 A3 n3 c3 l3) (hb : Below w.heap.size w w') : PcA w' B gP m A0 n0 c0 l0 A1 n1 c1 l1 A2 n2 c2 l2 A3 n3 c3 l3 := ⟨h.1.next hb, h.2.1, h.2.2.1.next hb, h.2.2.2.1.next hb, h.2.2.2.2.1.next hb, h.2.2.2.2.2.next hb⟩
theorem PcA.alloc (h : PcA w B gP m A0 n0 c0 l0 A1 n1 c1 l1 A2 n2 c2 l2 A3 n3 c3 l3) (o : Obj) : PcA (w.alloc o) B gP m A0 n0 c0 l0 A1 n1 c1 l1 A2 n2 c2 l2 A3 n3 c3 l3 := h.next ((Below.refl _ _).alloc (Nat.le_refl _) o)
theorem PcA.cur {g : Nat} (h : PcA w B gP m A0 n0 c0 l0 A1 n1 c1 l1 A2 n2 c2 l2 A3 n3 c3 l3) (hg : w.grownBy w' (some g)) (hB : g < B) : PcA w' B gP m A0 n0 c0 l0 A1 n1 c1 l1 A2 n2 c2 l2 A3 n3 c3 l3 := by
  have key : ∀ q, some g = some q → q < B := fun q e => by injection e with e; omega
  exact ⟨h.1.turned hg (fun q e => by have := key q e; have := h.2.1; omega), h.2.1, h.2.2.1.grown hg (fun q e => .inl (key q e)), h.2.2.2.1.grown hg (fun q e => .inl (key q e)), h.2.2.2.2.1.grown hg (fun q e => .inl (key q e)), h.2.2.2.2.2.grown hg (fun q e => .inl (key q e))⟩
theorem PcA.put0 (h : PcA w B gP m A0 n0 c0 l0 A1 n1 c1 l1 A2 n2 c2 l2 A3 n3 c3 l3) (hg : w.grownBy w' (Value.slice A0 n0 c0).ownBlock) (d : RuleD) {g cap : Nat} (hown : w'.ownsRow B 92 2 (.slice (some ⟨g, 0, none⟩) (n0 + 1) cap) (n0 + 1) (l0.flatMap ruleCells ++ ruleCells d)) :
    PcA (w'.setCell ⟨gP, 1, none⟩ (.slice (some ⟨g, 0, none⟩) (n0 + 1) cap)) B gP m (some ⟨g, 0, none⟩) (n0 + 1) cap (l0 ++ [d]) A1 n1 c1 l1 A2 n2 c2 l2 A3 n3 c3 l3 := by
  have hK := h.1.turned hg (h.2.2.1.ne_blk h.1 (by decide))
  have hM : Mine w' B 92 2 (some ⟨g, 0, none⟩) (n0 + 1) cap ((l0 ++ [d]).flatMap ruleCells) := by rw [List.flatMap_append]; simpa [Mine] using hown
  have h1 := h.2.2.2.1.grown hg (fun q e => .inr (Mine.apart h.2.2.2.1 h.2.2.1 (by decide) (by rw [← ownBlk A0 n0 c0]; exact e)))
  have h2 := h.2.2.2.2.1.grown hg (fun q e => .inr (Mine.apart h.2.2.2.2.1 h.2.2.1 (by decide) (by rw [← ownBlk A0 n0 c0]; exact e)))
  have h3 := h.2.2.2.2.2.grown hg (fun q e => .inr (Mine.apart h.2.2.2.2.2 h.2.2.1 (by decide) (by rw [← ownBlk A0 n0 c0]; exact e)))
  exact ⟨blk_put hK rfl, h.2.1, hM.far hK (by decide) _, h1.far hK (by decide) _, h2.far hK (by decide) _, h3.far hK (by decide) _⟩
theorem PcA.put1 (h : PcA w B gP m A0 n0 c0 l0 A1 n1 c1 l1 A2 n2 c2 l2 A3 n3 c3 l3) (hg : w.grownBy w' (Value.slice A1 n1 c1).ownBlock) (d : ChunkD) {g cap : Nat} (hown : w'.ownsRow B 96 5 (.slice (some ⟨g, 0, none⟩) (n1 + 1) cap) (n1 + 1) (l1.flatMap chunkCells ++ chunkCells d)) :
    PcA (w'.setCell ⟨gP, 2, none⟩ (.slice (some ⟨g, 0, none⟩) (n1 + 1) cap)) B gP m A0 n0 c0 l0 (some ⟨g, 0, none⟩) (n1 + 1) cap (l1 ++ [d]) A2 n2 c2 l2 A3 n3 c3 l3 := by
  have hK := h.1.turned hg (h.2.2.2.1.ne_blk h.1 (by decide))
  have hM : Mine w' B 96 5 (some ⟨g, 0, none⟩) (n1 + 1) cap ((l1 ++ [d]).flatMap chunkCells) := by rw [List.flatMap_append]; simpa [Mine] using hown
  have h0 := h.2.2.1.grown hg (fun q e => .inr (Mine.apart h.2.2.1 h.2.2.2.1 (by decide) (by rw [← ownBlk A1 n1 c1]; exact e)))
  have h2 := h.2.2.2.2.1.grown hg (fun q e => .inr (Mine.apart h.2.2.2.2.1 h.2.2.2.1 (by decide) (by rw [← ownBlk A1 n1 c1]; exact e)))
  have h3 := h.2.2.2.2.2.grown hg (fun q e => .inr (Mine.apart h.2.2.2.2.2 h.2.2.2.1 (by decide) (by rw [← ownBlk A1 n1 c1]; exact e)))
  exact ⟨blk_put hK rfl, h.2.1, h0.far hK (by decide) _, hM.far hK (by decide) _, h2.far hK (by decide) _, h3.far hK (by decide) _⟩
theorem PcA.put2 (h : PcA w B gP m A0 n0 c0 l0 A1 n1 c1 l1 A2 n2 c2 l2 A3 n3 c3 l3) (hg : w.grownBy w' (Value.slice A2 n2 c2).ownBlock) (d : SpanD) {g cap : Nat} (hown : w'.ownsRow B 99 3 (.slice (some ⟨g, 0, none⟩) (n2 + 1) cap) (n2 + 1) (l2.flatMap spanCells ++ spanCells d)) :
    PcA (w'.setCell ⟨gP, 3, none⟩ (.slice (some ⟨g, 0, none⟩) (n2 + 1) cap)) B gP m A0 n0 c0 l0 A1 n1 c1 l1 (some ⟨g, 0, none⟩) (n2 + 1) cap (l2 ++ [d]) A3 n3 c3 l3 := by
  have hK := h.1.turned hg (h.2.2.2.2.1.ne_blk h.1 (by decide))
  have hM : Mine w' B 99 3 (some ⟨g, 0, none⟩) (n2 + 1) cap ((l2 ++ [d]).flatMap spanCells) := by rw [List.flatMap_append]; simpa [Mine] using hown
  have h0 := h.2.2.1.grown hg (fun q e => .inr (Mine.apart h.2.2.1 h.2.2.2.2.1 (by decide) (by rw [← ownBlk A2 n2 c2]; exact e)))
  have h1 := h.2.2.2.1.grown hg (fun q e => .inr (Mine.apart h.2.2.2.1 h.2.2.2.2.1 (by decide) (by rw [← ownBlk A2 n2 c2]; exact e)))
  have h3 := h.2.2.2.2.2.grown hg (fun q e => .inr (Mine.apart h.2.2.2.2.2 h.2.2.2.2.1 (by decide) (by rw [← ownBlk A2 n2 c2]; exact e)))
  exact ⟨blk_put hK rfl, h.2.1, h0.far hK (by decide) _, h1.far hK (by decide) _, hM.far hK (by decide) _, h3.far hK (by decide) _⟩
theorem PcA.put3 (h : PcA w B gP m A0 n0 c0 l0 A1 n1 c1 l1 A2 n2 c2 l2 A3 n3 c3 l3) (hg : w.grownBy w' (Value.slice A3 n3 c3).ownBlock) (d : TieD) {g cap : Nat} (hown : w'.ownsRow B 101 2 (.slice (some ⟨g, 0, none⟩) (n3 + 1) cap) (n3 + 1) (l3.flatMap tieCells ++ tieCells d)) :
    PcA (w'.setCell ⟨gP, 4, none⟩ (.slice (some ⟨g, 0, none⟩) (n3 + 1) cap)) B gP m A0 n0 c0 l0 A1 n1 c1 l1 A2 n2 c2 l2 (some ⟨g, 0, none⟩) (n3 + 1) cap (l3 ++ [d]) := by
  have hK := h.1.turned hg (h.2.2.2.2.2.ne_blk h.1 (by decide))
  have hM : Mine w' B 101 2 (some ⟨g, 0, none⟩) (n3 + 1) cap ((l3 ++ [d]).flatMap tieCells) := by rw [List.flatMap_append]; simpa [Mine] using hown
  have h0 := h.2.2.1.grown hg (fun q e => .inr (Mine.apart h.2.2.1 h.2.2.2.2.2 (by decide) (by rw [← ownBlk A3 n3 c3]; exact e)))
  have h1 := h.2.2.2.1.grown hg (fun q e => .inr (Mine.apart h.2.2.2.1 h.2.2.2.2.2 (by decide) (by rw [← ownBlk A3 n3 c3]; exact e)))
  have h2 := h.2.2.2.2.1.grown hg (fun q e => .inr (Mine.apart h.2.2.2.2.1 h.2.2.2.2.2 (by decide) (by rw [← ownBlk A3 n3 c3]; exact e)))
  exact ⟨blk_put hK rfl, h.2.1, h0.far hK (by decide) _, h1.far hK (by decide) _, h2.far hK (by decide) _, hM.far hK (by decide) _⟩
end
/-- How the draw of a piece stands: its piece, its cursor, the result's block; only the cursor's block and new ones have turned. -/
def St (w0 w : World) (g : Nat) (A : Option Addr) (n c : Nat) (l : List Int) (gP : Nat) (m : Int) (A0 : Option Addr) (n0 c0 : Nat) (l0 : List RuleD) (A1 : Option Addr) (n1 c1 : Nat) (l1 : List ChunkD) (A2 : Option Addr) (n2 c2 : Nat) (l2 : List SpanD) (A3 : Option Addr) (n3 c3 : Nat) (l3 : List TieD) : Prop :=
  PcA w w0.heap.size gP m A0 n0 c0 l0 A1 n1 c1 l1 A2 n2 c2 l2 A3 n3 c3 l3 ∧ CurX w g A n c l ∧ Blk w w0.heap.size 52 #[.int .i64 0, .slice none 0 0, .slice none 0 0, .slice none 0 0, .slice none 0 0] ∧ w0.grownBy w (some g) ∧ w0.heap.size < gP ∧ g < w0.heap.size ∧ (0 < n → ∀ b off, A = some ⟨b, off, none⟩ → b < w0.heap.size)
section
variable {w0 w w' : World} {g n c gP : Nat} {A : Option Addr} {l : List Int} {m : Int} {A0 : Option Addr} {n0 c0 : Nat} {l0 : List RuleD} {A1 : Option Addr} {n1 c1 : Nat} {l1 : List ChunkD} {A2 : Option Addr} {n2 c2 : Nat} {l2 : List SpanD} {A3 : Option Addr} {n3 c3 : Nat} {l3 : List TieD}
theorem St.call (h : St w0 w g A n c l gP m A0 n0 c0 l0 A1 n1 c1 l1 A2 n2 c2 l2 A3 n3 c3 l3) (hc : CurX w' g A n c l) (hg : w.grownBy w' (some g)) : St w0 w' g A n c l gP m A0 n0 c0 l0 A1 n1 c1 l1 A2 n2 c2 l2 A3 n3 c3 l3 := by
  obtain ⟨h1, h2, h3, h4, h5, h6, h7⟩ := h
  exact ⟨h1.cur hg h6, hc, h3.turned hg (fun q e => by injection e with e; omega), grownBy_trans h4 hg, h5, h6, h7⟩
theorem St.next (h : St w0 w g A n c l gP m A0 n0 c0 l0 A1 n1 c1 l1 A2 n2 c2 l2 A3 n3 c3 l3) (hb : Below w.heap.size w w') : St w0 w' g A n c l gP m A0 n0 c0 l0 A1 n1 c1 l1 A2 n2 c2 l2 A3 n3 c3 l3 := by
  obtain ⟨h1, h2, h3, h4, h5, h6, h7⟩ := h
  exact ⟨h1.next hb, h2.next hb, h3.next hb, grown_below h4 hb, h5, h6, h7⟩
theorem St.alloc (h : St w0 w g A n c l gP m A0 n0 c0 l0 A1 n1 c1 l1 A2 n2 c2 l2 A3 n3 c3 l3) (o : Obj) : St w0 (w.alloc o) g A n c l gP m A0 n0 c0 l0 A1 n1 c1 l1 A2 n2 c2 l2 A3 n3 c3 l3 := h.next ((Below.refl _ _).alloc (Nat.le_refl _) o)
theorem St.drew (h : St w0 w g A n c l gP m A0 n0 c0 l0 A1 n1 c1 l1 A2 n2 c2 l2 A3 n3 c3 l3) : St w0 w.drew g A n c l gP m A0 n0 c0 l0 A1 n1 c1 l1 A2 n2 c2 l2 A3 n3 c3 l3 := h.next ((Below.refl _ _).drew)
theorem St.put0 (h : St w0 w g A n c l gP m A0 n0 c0 l0 A1 n1 c1 l1 A2 n2 c2 l2 A3 n3 c3 l3) (hg : w.grownBy w' (Value.slice A0 n0 c0).ownBlock) (d : RuleD) {q cap : Nat} (hown : w'.ownsRow w0.heap.size 92 2 (.slice (some ⟨q, 0, none⟩) (n0 + 1) cap) (n0 + 1) (l0.flatMap ruleCells ++ ruleCells d)) :
    St w0 (w'.setCell ⟨gP, 1, none⟩ (.slice (some ⟨q, 0, none⟩) (n0 + 1) cap)) g A n c l gP m (some ⟨q, 0, none⟩) (n0 + 1) cap (l0 ++ [d]) A1 n1 c1 l1 A2 n2 c2 l2 A3 n3 c3 l3 := by
  obtain ⟨h1, h2, h3, h4, h5, h6, h7⟩ := h
  have hr := h1.2.2.1.row_ge
  refine ⟨h1.put0 hg d hown, (h2.turned hg (fun x e => ⟨by have := hr x e; omega, fun hn b off eA => by have := hr x e; have := h7 hn b off eA; omega⟩)).far (p := ⟨gP, 1, none⟩) ⟨by dsimp only; omega, fun hn b off eA => by have := h7 hn b off eA; dsimp only; omega⟩ _, (h3.turned hg (h1.2.2.1.ne_blk h3 (by decide))).far (by dsimp only; omega) _, grown_row (grown_row h4 hg hr) (grown_one _ _ _) (fun x e => by injection e with e; subst e; dsimp only; omega), h5, h6, h7⟩
theorem St.put1 (h : St w0 w g A n c l gP m A0 n0 c0 l0 A1 n1 c1 l1 A2 n2 c2 l2 A3 n3 c3 l3) (hg : w.grownBy w' (Value.slice A1 n1 c1).ownBlock) (d : ChunkD) {q cap : Nat} (hown : w'.ownsRow w0.heap.size 96 5 (.slice (some ⟨q, 0, none⟩) (n1 + 1) cap) (n1 + 1) (l1.flatMap chunkCells ++ chunkCells d)) :
    St w0 (w'.setCell ⟨gP, 2, none⟩ (.slice (some ⟨q, 0, none⟩) (n1 + 1) cap)) g A n c l gP m A0 n0 c0 l0 (some ⟨q, 0, none⟩) (n1 + 1) cap (l1 ++ [d]) A2 n2 c2 l2 A3 n3 c3 l3 := by
  obtain ⟨h1, h2, h3, h4, h5, h6, h7⟩ := h
  have hr := h1.2.2.2.1.row_ge
  refine ⟨h1.put1 hg d hown, (h2.turned hg (fun x e => ⟨by have := hr x e; omega, fun hn b off eA => by have := hr x e; have := h7 hn b off eA; omega⟩)).far (p := ⟨gP, 2, none⟩) ⟨by dsimp only; omega, fun hn b off eA => by have := h7 hn b off eA; dsimp only; omega⟩ _, (h3.turned hg (h1.2.2.2.1.ne_blk h3 (by decide))).far (by dsimp only; omega) _, grown_row (grown_row h4 hg hr) (grown_one _ _ _) (fun x e => by injection e with e; subst e; dsimp only; omega), h5, h6, h7⟩
theorem St.put2 (h : St w0 w g A n c l gP m A0 n0 c0 l0 A1 n1 c1 l1 A2 n2 c2 l2 A3 n3 c3 l3) (hg : w.grownBy w' (Value.slice A2 n2 c2).ownBlock) (d : SpanD) {q cap : Nat} (hown : w'.ownsRow w0.heap.size 99 3 (.slice (some ⟨q, 0, none⟩) (n2 + 1) cap) (n2 + 1) (l2.flatMap spanCells ++ spanCells d)) :
    St w0 (w'.setCell ⟨gP, 3, none⟩ (.slice (some ⟨q, 0, none⟩) (n2 + 1) cap)) g A n c l gP m A0 n0 c0 l0 A1 n1 c1 l1 (some ⟨q, 0, none⟩) (n2 + 1) cap (l2 ++ [d]) A3 n3 c3 l3 := by
  obtain ⟨h1, h2, h3, h4, h5, h6, h7⟩ := h
  have hr := h1.2.2.2.2.1.row_ge
  refine ⟨h1.put2 hg d hown, (h2.turned hg (fun x e => ⟨by have := hr x e; omega, fun hn b off eA => by have := hr x e; have := h7 hn b off eA; omega⟩)).far (p := ⟨gP, 3, none⟩) ⟨by dsimp only; omega, fun hn b off eA => by have := h7 hn b off eA; dsimp only; omega⟩ _, (h3.turned hg (h1.2.2.2.2.1.ne_blk h3 (by decide))).far (by dsimp only; omega) _, grown_row (grown_row h4 hg hr) (grown_one _ _ _) (fun x e => by injection e with e; subst e; dsimp only; omega), h5, h6, h7⟩
theorem St.put3 (h : St w0 w g A n c l gP m A0 n0 c0 l0 A1 n1 c1 l1 A2 n2 c2 l2 A3 n3 c3 l3) (hg : w.grownBy w' (Value.slice A3 n3 c3).ownBlock) (d : TieD) {q cap : Nat} (hown : w'.ownsRow w0.heap.size 101 2 (.slice (some ⟨q, 0, none⟩) (n3 + 1) cap) (n3 + 1) (l3.flatMap tieCells ++ tieCells d)) :
    St w0 (w'.setCell ⟨gP, 4, none⟩ (.slice (some ⟨q, 0, none⟩) (n3 + 1) cap)) g A n c l gP m A0 n0 c0 l0 A1 n1 c1 l1 A2 n2 c2 l2 (some ⟨q, 0, none⟩) (n3 + 1) cap (l3 ++ [d]) := by
  obtain ⟨h1, h2, h3, h4, h5, h6, h7⟩ := h
  have hr := h1.2.2.2.2.2.row_ge
  refine ⟨h1.put3 hg d hown, (h2.turned hg (fun x e => ⟨by have := hr x e; omega, fun hn b off eA => by have := hr x e; have := h7 hn b off eA; omega⟩)).far (p := ⟨gP, 4, none⟩) ⟨by dsimp only; omega, fun hn b off eA => by have := h7 hn b off eA; dsimp only; omega⟩ _, (h3.turned hg (h1.2.2.2.2.2.ne_blk h3 (by decide))).far (by dsimp only; omega) _, grown_row (grown_row h4 hg hr) (grown_one _ _ _) (fun x e => by injection e with e; subst e; dsimp only; omega), h5, h6, h7⟩
end
end Go.Proofs.YtfapdhfjcnehhaaDoor

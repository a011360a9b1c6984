
/-
  Contracts: a piece copied (spec.l08Copy): one region of 20 operations in any of its orders, by an invariant.
-/
import Derived.Test.YtfapdhfjcnehhaaDoorDrawP
import Derived.Test.YtfapdhfjcnehhaaDoorInv
namespace Go.Proofs.YtfapdhfjcnehhaaDoor
open Go.RowKit
set_option linter.unusedVariables false

theorem one_rule {l : List RuleD} {u : Value} (h : u ∈ l.flatMap ruleCells) : u.oneCell' = true := by
  obtain ⟨d, _, hu⟩ := List.mem_flatMap.1 h
  simp [ruleCells] at hu
  rcases hu with rfl | rfl <;> rfl
theorem one_chunk {l : List ChunkD} {u : Value} (h : u ∈ l.flatMap chunkCells) : u.oneCell' = true := by
  obtain ⟨d, _, hu⟩ := List.mem_flatMap.1 h
  simp [chunkCells] at hu
  rcases hu with rfl | rfl | rfl | rfl | rfl <;> rfl
theorem one_span {l : List SpanD} {u : Value} (h : u ∈ l.flatMap spanCells) : u.oneCell' = true := by
  obtain ⟨d, _, hu⟩ := List.mem_flatMap.1 h
  simp [spanCells] at hu
  rcases hu with rfl | rfl | rfl <;> rfl
theorem one_tie {l : List TieD} {u : Value} (h : u ∈ l.flatMap tieCells) : u.oneCell' = true := by
  obtain ⟨d, _, hu⟩ := List.mem_flatMap.1 h
  simp [tieCells] at hu
  rcases hu with rfl | rfl <;> rfl
theorem run_app {P : Program} {o : Oper} {a : Act} {W W' : World} {s x t : Nat} {v y r : Value} (ho : o.op = .call { callee := .builtin .append, args := #[.tmp s, .tmp x], argTypes := #[t, t] })
    (hs : a.tmps[s]?.getD undef = v) (hx : a.tmps[x]?.getD undef = y) (hrun : (Builtin.append_ #[t, t] o.type #[v, y]).run P W = .ok r W') : (execOp a.eval o).run P W = .ok (.value r) W' := by
  have e1 : a.eval (.tmp s) = v := by show a.tmps.getD s undef = v; rw [Array.getD_eq_getD_getElem?]; exact hs
  have e2 : a.eval (.tmp x) = y := by show a.tmps.getD x undef = y; rw [Array.getD_eq_getD_getElem?]; exact hx
  unfold execOp
  simp only [ho, resolve, invoke, builtin, Sem.run_bind, Sem.run_pure, Result.andThen_ok, List.map_toArray, List.map_cons, List.map_nil, e1, e2, hrun]
theorem getD_set {L : Array Bool} {i j : Nat} (h : i < L.size) : (L.setIfInBounds i true).getD j false = (decide (i = j) || L.getD j false) := by
  by_cases e : i = j
  · subst e; simp [Array.getD, h]
  · rw [Array.getD_eq_getD_getElem?, Array.getD_eq_getD_getElem?, Array.getElem?_setIfInBounds, if_neg e]; simp [e]
theorem tmp_put {a : Act} {d j : Nat} {v : Value} (h : d < a.tmps.size) : (a.put (some d) v).tmps[j]?.getD undef = if d = j then v else a.tmps[j]?.getD undef := by
  show (a.tmps.setIfInBounds d v)[j]?.getD undef = _
  by_cases e : d = j
  · subst e; simp [h]
  · simp [e]
/-- One slice being copied: its four operations b .. b + 3 (make, address, load, append) into the slots b + 3 .. b + 6. -/
def Chain (L : Array Bool) (a : Act) (w : World) (B p b f : Nat) (e : TypeId) (s : Nat) (A : Option Addr) (n c : Nat) (xs : List Value) : Prop :=
  (L.getD b false = true → L.getD (b + 3) false = false → ∃ g, a.tmps[b + 3]?.getD undef = .slice (some ⟨g, 0, none⟩) 0 0 ∧ Mine w B e s (some ⟨g, 0, none⟩) 0 0 []) ∧
  (L.getD (b + 1) false = true → a.tmps[b + 4]?.getD undef = .pointer (some ⟨p, f, none⟩)) ∧
  (L.getD (b + 2) false = true → a.tmps[b + 5]?.getD undef = .slice A n c) ∧
  (L.getD (b + 3) false = true → ∃ A' c', a.tmps[b + 6]?.getD undef = .slice A' n c' ∧ Mine w B e s A' n c' xs)
section
variable {L : Array Bool} {a : Act} {w w' : World} {B p b f : Nat} {e : TypeId} {s : Nat} {A : Option Addr} {n c : Nat} {xs : List Value}
theorem Chain.world (h : Chain L a w B p b f e s A n c xs) (hM : ∀ A n c xs, Mine w B e s A n c xs → Mine w' B e s A n c xs) : Chain L a w' B p b f e s A n c xs :=
  ⟨fun h1 h2 => by obtain ⟨g, e1, e2⟩ := h.1 h1 h2; exact ⟨g, e1, hM _ _ _ _ e2⟩, h.2.1, h.2.2.1, fun h1 => by obtain ⟨A', c', e1, e2⟩ := h.2.2.2 h1; exact ⟨A', c', e1, hM _ _ _ _ e2⟩⟩
/-- Another operation has come up, whose slot is another. -/
theorem Chain.other (h : Chain L a w B p b f e s A n c xs) {i d : Nat} {v : Value} (hL : L.size = 20) (ha : a.tmps.size = 22) (hi : i < 20) (hd : d < 22) (hi2 : i < b ∨ b + 3 < i) (hd2 : d < b + 3 ∨ b + 6 < d) : Chain (L.setIfInBounds i true) (a.put (some d) v) w B p b f e s A n c xs := by
  have g : ∀ j, b ≤ j → j ≤ b + 3 → (L.setIfInBounds i true).getD j false = L.getD j false := fun j h1 h2 => by rw [getD_set (by omega), decide_eq_false (by omega), Bool.false_or]
  have t : ∀ j, b + 3 ≤ j → j ≤ b + 6 → (a.put (some d) v).tmps[j]?.getD undef = a.tmps[j]?.getD undef := fun j h1 h2 => by rw [tmp_put (by omega), if_neg (by omega)]
  unfold Chain
  rw [g b (by omega) (by omega), g (b + 1) (by omega) (by omega), g (b + 2) (by omega) (by omega), g (b + 3) (by omega) (by omega), t (b + 3) (by omega) (by omega), t (b + 4) (by omega) (by omega), t (b + 5) (by omega) (by omega), t (b + 6) (by omega) (by omega)]
  exact h
theorem Chain.other0 (h : Chain L a w B p b f e s A n c xs) {i : Nat} {v : Value} (hL : L.size = 20) (hi : i < 20) (hi2 : i < b ∨ b + 3 < i) : Chain (L.setIfInBounds i true) (a.put none v) w B p b f e s A n c xs := by
  have g : ∀ j, b ≤ j → j ≤ b + 3 → (L.setIfInBounds i true).getD j false = L.getD j false := fun j h1 h2 => by rw [getD_set (by omega), decide_eq_false (by omega), Bool.false_or]
  unfold Chain
  rw [g b (by omega) (by omega), g (b + 1) (by omega) (by omega), g (b + 2) (by omega) (by omega), g (b + 3) (by omega) (by omega)]
  exact h
theorem Chain.make (h : Chain L a w B p b f e s A n c xs) {g : Nat} (hL : L.size = 20) (ha : a.tmps.size = 22) (hb : b < 17) (hM : Mine w B e s (some ⟨g, 0, none⟩) 0 0 []) :
    Chain (L.setIfInBounds b true) (a.put (some (b + 3)) (.slice (some ⟨g, 0, none⟩) 0 0)) w B p b f e s A n c xs := by
  have g1 : ∀ j, b < j → (L.setIfInBounds b true).getD j false = L.getD j false := fun j h1 => by rw [getD_set (by omega), decide_eq_false (by omega), Bool.false_or]
  have t : ∀ j, b + 3 < j → (a.put (some (b + 3)) (.slice (some ⟨g, 0, none⟩) 0 0)).tmps[j]?.getD undef = a.tmps[j]?.getD undef := fun j h1 => by rw [tmp_put (by omega), if_neg (by omega)]
  unfold Chain
  rw [g1 (b + 1) (by omega), g1 (b + 2) (by omega), g1 (b + 3) (by omega), t (b + 4) (by omega), t (b + 5) (by omega), t (b + 6) (by omega)]
  exact ⟨fun _ _ => ⟨g, by rw [tmp_put (by omega), if_pos rfl], hM⟩, h.2.1, h.2.2.1, h.2.2.2⟩
theorem Chain.addr (h : Chain L a w B p b f e s A n c xs) (hL : L.size = 20) (ha : a.tmps.size = 22) (hb : b < 16) :
    Chain (L.setIfInBounds (b + 1) true) (a.put (some (b + 4)) (.pointer (some ⟨p, f, none⟩))) w B p b f e s A n c xs := by
  have g1 : ∀ j, j ≠ b + 1 → (L.setIfInBounds (b + 1) true).getD j false = L.getD j false := fun j h1 => by rw [getD_set (by omega), decide_eq_false (by omega), Bool.false_or]
  have t : ∀ j, j ≠ b + 4 → (a.put (some (b + 4)) (.pointer (some ⟨p, f, none⟩))).tmps[j]?.getD undef = a.tmps[j]?.getD undef := fun j h1 => by rw [tmp_put (by omega), if_neg (by omega)]
  unfold Chain
  rw [g1 b (by omega), g1 (b + 2) (by omega), g1 (b + 3) (by omega), t (b + 3) (by omega), t (b + 5) (by omega), t (b + 6) (by omega)]
  exact ⟨h.1, fun _ => by rw [tmp_put (by omega), if_pos rfl], h.2.2.1, h.2.2.2⟩
theorem Chain.load (h : Chain L a w B p b f e s A n c xs) (hL : L.size = 20) (ha : a.tmps.size = 22) (hb : b < 16) :
    Chain (L.setIfInBounds (b + 2) true) (a.put (some (b + 5)) (.slice A n c)) w B p b f e s A n c xs := by
  have g1 : ∀ j, j ≠ b + 2 → (L.setIfInBounds (b + 2) true).getD j false = L.getD j false := fun j h1 => by rw [getD_set (by omega), decide_eq_false (by omega), Bool.false_or]
  have t : ∀ j, j ≠ b + 5 → (a.put (some (b + 5)) (.slice A n c)).tmps[j]?.getD undef = a.tmps[j]?.getD undef := fun j h1 => by rw [tmp_put (by omega), if_neg (by omega)]
  unfold Chain
  rw [g1 b (by omega), g1 (b + 1) (by omega), g1 (b + 3) (by omega), t (b + 3) (by omega), t (b + 4) (by omega), t (b + 6) (by omega)]
  exact ⟨h.1, h.2.1, fun _ => by rw [tmp_put (by omega), if_pos rfl], h.2.2.2⟩
theorem Chain.append (h : Chain L a w B p b f e s A n c xs) {A' : Option Addr} {c' : Nat} (hL : L.size = 20) (ha : a.tmps.size = 22) (hb : b < 16) (hM : Mine w' B e s A' n c' xs) :
    Chain (L.setIfInBounds (b + 3) true) (a.put (some (b + 6)) (.slice A' n c')) w' B p b f e s A n c xs := by
  have g1 : ∀ j, j ≠ b + 3 → (L.setIfInBounds (b + 3) true).getD j false = L.getD j false := fun j h1 => by rw [getD_set (by omega), decide_eq_false (by omega), Bool.false_or]
  have t : ∀ j, j ≠ b + 6 → (a.put (some (b + 6)) (.slice A' n c')).tmps[j]?.getD undef = a.tmps[j]?.getD undef := fun j h1 => by rw [tmp_put (by omega), if_neg (by omega)]
  unfold Chain
  rw [g1 (b + 1) (by omega), g1 (b + 2) (by omega), t (b + 4) (by omega), t (b + 5) (by omega)]
  refine ⟨fun _ h2 => ?_, h.2.1, h.2.2.1, fun _ => ⟨A', c', by rw [tmp_put (by omega), if_pos rfl], hM⟩⟩
  rw [getD_set (by omega), decide_eq_true rfl, Bool.true_or] at h2
  cases h2
end

/-- How the copy stands. -/
structure CopyS (m : Int) (A0 : Option Addr) (n0 c0 : Nat) (l0 : List RuleD) (A1 : Option Addr) (n1 c1 : Nat) (l1 : List ChunkD) (A2 : Option Addr) (n2 c2 : Nat) (l2 : List SpanD) (A3 : Option Addr) (n3 c3 : Nat) (l3 : List TieD) (w : World) (L : Array Bool) (a : Act) (W : World) : Prop where
  sz : L.size = 20
  df : a.defers = []
  ts : a.tmps.size = 22
  t1 : a.tmps[1]?.getD undef = .pointer (some ⟨w.heap.size, 0, none⟩)
  t2 : a.tmps[2]?.getD undef = .pointer (some ⟨w.heap.size + 1, 0, none⟩)
  kp : Blk W w.heap.size 52 #[.int .i64 m, .slice A0 n0 c0, .slice A1 n1 c1, .slice A2 n2 c2, .slice A3 n3 c3]
  bl : Below w.heap.size w W
  gz : w.heap.size + 2 ≤ W.heap.size
  st : L.getD 19 false = false → Blk W (w.heap.size + 1) 52 #[.int .i64 0, .slice none 0 0, .slice none 0 0, .slice none 0 0, .slice none 0 0]
  f0 : L.getD 0 false = true → a.tmps[3]?.getD undef = .pointer (some ⟨w.heap.size, 0, none⟩)
  f1 : L.getD 1 false = true → a.tmps[4]?.getD undef = .int .i64 m
  h0 : Chain L a W (w.heap.size + 2) w.heap.size 2 1 92 2 A0 n0 c0 (l0.flatMap ruleCells)
  h1 : Chain L a W (w.heap.size + 2) w.heap.size 6 2 96 5 A1 n1 c1 (l1.flatMap chunkCells)
  h2 : Chain L a W (w.heap.size + 2) w.heap.size 10 3 99 3 A2 n2 c2 (l2.flatMap spanCells)
  h3 : Chain L a W (w.heap.size + 2) w.heap.size 14 4 101 2 A3 n3 c3 (l3.flatMap tieCells)
  q1 : L.getD 19 false = true → L.getD 18 false = true
  q2 : L.getD 18 false = true → L.getD 5 false = true ∧ L.getD 9 false = true ∧ L.getD 13 false = true ∧ L.getD 17 false = true
  f18 : L.getD 18 false = true → ∃ B0 k0 B1 k1 B2 k2 B3 k3, a.tmps[21]?.getD undef = .agg #[.int .i64 m, .slice B0 n0 k0, .slice B1 n1 k1, .slice B2 n2 k2, .slice B3 n3 k3] ∧ Mine W (w.heap.size + 2) 92 2 B0 n0 k0 (l0.flatMap ruleCells) ∧ Mine W (w.heap.size + 2) 96 5 B1 n1 k1 (l1.flatMap chunkCells) ∧ Mine W (w.heap.size + 2) 99 3 B2 n2 k2 (l2.flatMap spanCells) ∧ Mine W (w.heap.size + 2) 101 2 B3 n3 k3 (l3.flatMap tieCells)
  f19 : L.getD 19 false = true → ∃ B0 k0 B1 k1 B2 k2 B3 k3, Blk W (w.heap.size + 1) 52 #[.int .i64 m, .slice B0 n0 k0, .slice B1 n1 k1, .slice B2 n2 k2, .slice B3 n3 k3] ∧ Mine W (w.heap.size + 2) 92 2 B0 n0 k0 (l0.flatMap ruleCells) ∧ Mine W (w.heap.size + 2) 96 5 B1 n1 k1 (l1.flatMap chunkCells) ∧ Mine W (w.heap.size + 2) 99 3 B2 n2 k2 (l2.flatMap spanCells) ∧ Mine W (w.heap.size + 2) 101 2 B3 n3 k3 (l3.flatMap tieCells)

section
variable {m : Int} {A0 : Option Addr} {n0 c0 : Nat} {l0 : List RuleD} {A1 : Option Addr} {n1 c1 : Nat} {l1 : List ChunkD} {A2 : Option Addr} {n2 c2 : Nat} {l2 : List SpanD} {A3 : Option Addr} {n3 c3 : Nat} {l3 : List TieD} {w : World} {L : Array Bool} {a : Act} {W W' : World}
theorem below_turned' {a w w' : World} {B : Nat} {row : Option Nat} (h : Below a.heap.size a w) (hg : w.grownBy w' row) (hr : ∀ q, row = some q → B ≤ q) (hB : a.heap.size ≤ B := by omega) : Below a.heap.size a w' :=
  below_turned h hg (fun q e => Nat.le_trans hB (hr q e))
theorem CopyS.step (h : CopyS m A0 n0 c0 l0 A1 n1 c1 l1 A2 n2 c2 l2 A3 n3 c3 l3 w L a W) {i : Nat} (hi2 : 2 ≤ i) (hi17 : i ≤ 17) (v : Value) (hbl : Below w.heap.size w W') (hgz : w.heap.size + 2 ≤ W'.heap.size)
    (hK : ∀ g t cs, g < w.heap.size + 2 → Blk W g t cs → Blk W' g t cs) (hP : L.getD 18 false = true → ∀ e s A n c xs, Mine W (w.heap.size + 2) e s A n c xs → Mine W' (w.heap.size + 2) e s A n c xs)
    (h0 : Chain (L.setIfInBounds i true) (a.put (some (i + 3)) v) W' (w.heap.size + 2) w.heap.size 2 1 92 2 A0 n0 c0 (l0.flatMap ruleCells)) (h1 : Chain (L.setIfInBounds i true) (a.put (some (i + 3)) v) W' (w.heap.size + 2) w.heap.size 6 2 96 5 A1 n1 c1 (l1.flatMap chunkCells)) (h2 : Chain (L.setIfInBounds i true) (a.put (some (i + 3)) v) W' (w.heap.size + 2) w.heap.size 10 3 99 3 A2 n2 c2 (l2.flatMap spanCells)) (h3 : Chain (L.setIfInBounds i true) (a.put (some (i + 3)) v) W' (w.heap.size + 2) w.heap.size 14 4 101 2 A3 n3 c3 (l3.flatMap tieCells)) : CopyS m A0 n0 c0 l0 A1 n1 c1 l1 A2 n2 c2 l2 A3 n3 c3 l3 w (L.setIfInBounds i true) (a.put (some (i + 3)) v) W' where
  sz := by simp [h.sz]
  df := h.df
  ts := by simp [Act.put, h.ts]
  t1 := by rw [tmp_put (by rw [h.ts]; omega), if_neg (by omega)]; exact h.t1
  t2 := by rw [tmp_put (by rw [h.ts]; omega), if_neg (by omega)]; exact h.t2
  kp := hK _ _ _ (by omega) h.kp
  bl := hbl
  gz := hgz
  st := fun e => hK _ _ _ (by omega) (h.st (by rw [getD_set (by rw [h.sz]; omega), decide_eq_false (by omega), Bool.false_or] at e; exact e))
  f0 := fun e => by rw [tmp_put (by rw [h.ts]; omega), if_neg (by omega)]; exact h.f0 (by rw [getD_set (by rw [h.sz]; omega), decide_eq_false (by omega), Bool.false_or] at e; exact e)
  f1 := fun e => by rw [tmp_put (by rw [h.ts]; omega), if_neg (by omega)]; exact h.f1 (by rw [getD_set (by rw [h.sz]; omega), decide_eq_false (by omega), Bool.false_or] at e; exact e)
  h0 := h0
  h1 := h1
  h2 := h2
  h3 := h3
  q1 := fun e => by rw [getD_set (by rw [h.sz]; omega), h.q1 (by rw [getD_set (by rw [h.sz]; omega), decide_eq_false (by omega), Bool.false_or] at e; exact e), Bool.or_true]
  q2 := fun e => by
    obtain ⟨a1, a2, a3, a4⟩ := h.q2 (by rw [getD_set (by rw [h.sz]; omega), decide_eq_false (by omega), Bool.false_or] at e; exact e)
    refine ⟨?_, ?_, ?_, ?_⟩
    · rw [getD_set (by rw [h.sz]; omega), a1, Bool.or_true]
    · rw [getD_set (by rw [h.sz]; omega), a2, Bool.or_true]
    · rw [getD_set (by rw [h.sz]; omega), a3, Bool.or_true]
    · rw [getD_set (by rw [h.sz]; omega), a4, Bool.or_true]
  f18 := fun e => by
    have e2 : L.getD 18 false = true := by rw [getD_set (by rw [h.sz]; omega), decide_eq_false (by omega), Bool.false_or] at e; exact e
    obtain ⟨B0, k0, B1, k1, B2, k2, B3, k3, x, m0, m1, m2, m3⟩ := h.f18 e2
    exact ⟨B0, k0, B1, k1, B2, k2, B3, k3, by rw [tmp_put (by rw [h.ts]; omega), if_neg (by omega)]; exact x, hP e2 _ _ _ _ _ _ m0, hP e2 _ _ _ _ _ _ m1, hP e2 _ _ _ _ _ _ m2, hP e2 _ _ _ _ _ _ m3⟩
  f19 := fun e => by
    have e1 : L.getD 19 false = true := by rw [getD_set (by rw [h.sz]; omega), decide_eq_false (by omega), Bool.false_or] at e; exact e
    have e2 := h.q1 e1
    obtain ⟨B0, k0, B1, k1, B2, k2, B3, k3, x, m0, m1, m2, m3⟩ := h.f19 e1
    exact ⟨B0, k0, B1, k1, B2, k2, B3, k3, hK _ _ _ (by omega) x, hP e2 _ _ _ _ _ _ m0, hP e2 _ _ _ _ _ _ m1, hP e2 _ _ _ _ _ _ m2, hP e2 _ _ _ _ _ _ m3⟩

theorem CopyS.make0 (h : CopyS m A0 n0 c0 l0 A1 n1 c1 l1 A2 n2 c2 l2 A3 n3 c3 l3 w L a W) : CopyS m A0 n0 c0 l0 A1 n1 c1 l1 A2 n2 c2 l2 A3 n3 c3 l3 w (L.setIfInBounds 2 true) (a.put (some 5) (.slice (some ⟨W.heap.size, 0, none⟩) 0 0)) (W.alloc (.cells #[] 92)) := by
  have hn : Below W.heap.size W (W.alloc (.cells #[] 92)) := (Below.refl _ _).alloc (Nat.le_refl _) _
  have hM : ∀ e s A n c xs, Mine W (w.heap.size + 2) e s A n c xs → Mine (W.alloc (.cells #[] 92)) (w.heap.size + 2) e s A n c xs := fun e s A n c xs x => x.next hn
  exact h.step (by omega) (by omega) _ (below_next h.bl hn) (Nat.le_trans h.gz hn.size) (fun g t cs _ x => x.next hn) (fun _ => hM) ((h.h0.world (fun A n c xs x => hM _ _ A n c xs x)).make h.sz h.ts (by omega) ⟨by simp, (own_empty W _ _).2.imp id (fun ⟨g, cap, cur, r1, r2, r3⟩ => ⟨g, cap, cur, r1, Nat.le_trans h.gz (by simpa using r2), r3⟩)⟩) ((h.h1.world (fun A n c xs x => hM _ _ A n c xs x)).other h.sz h.ts (by omega) (by omega) (by omega) (by omega)) ((h.h2.world (fun A n c xs x => hM _ _ A n c xs x)).other h.sz h.ts (by omega) (by omega) (by omega) (by omega)) ((h.h3.world (fun A n c xs x => hM _ _ A n c xs x)).other h.sz h.ts (by omega) (by omega) (by omega) (by omega))
theorem CopyS.addr0 (h : CopyS m A0 n0 c0 l0 A1 n1 c1 l1 A2 n2 c2 l2 A3 n3 c3 l3 w L a W) : CopyS m A0 n0 c0 l0 A1 n1 c1 l1 A2 n2 c2 l2 A3 n3 c3 l3 w (L.setIfInBounds 3 true) (a.put (some 6) (.pointer (some ⟨w.heap.size, 1, none⟩))) W :=
  h.step (by omega) (by omega) _ h.bl h.gz (fun g t cs _ x => x) (fun _ _ _ _ _ _ _ x => x) (h.h0.addr h.sz h.ts (by omega)) (h.h1.other h.sz h.ts (by omega) (by omega) (by omega) (by omega)) (h.h2.other h.sz h.ts (by omega) (by omega) (by omega) (by omega)) (h.h3.other h.sz h.ts (by omega) (by omega) (by omega) (by omega))
theorem CopyS.load0 (h : CopyS m A0 n0 c0 l0 A1 n1 c1 l1 A2 n2 c2 l2 A3 n3 c3 l3 w L a W) : CopyS m A0 n0 c0 l0 A1 n1 c1 l1 A2 n2 c2 l2 A3 n3 c3 l3 w (L.setIfInBounds 4 true) (a.put (some 7) (.slice A0 n0 c0)) W :=
  h.step (by omega) (by omega) _ h.bl h.gz (fun g t cs _ x => x) (fun _ _ _ _ _ _ _ x => x) (h.h0.load h.sz h.ts (by omega)) (h.h1.other h.sz h.ts (by omega) (by omega) (by omega) (by omega)) (h.h2.other h.sz h.ts (by omega) (by omega) (by omega) (by omega)) (h.h3.other h.sz h.ts (by omega) (by omega) (by omega) (by omega))
theorem CopyS.app0 (h : CopyS m A0 n0 c0 l0 A1 n1 c1 l1 A2 n2 c2 l2 A3 n3 c3 l3 w L a W) {g k : Nat} {A' : Option Addr} (h0 : L.getD 5 true = false) (hown : Mine W (w.heap.size + 2) 92 2 (some ⟨g, 0, none⟩) 0 0 []) (hg : W.grownBy W' (Value.slice (some ⟨g, 0, none⟩) 0 0).ownBlock) (hM : Mine W' (w.heap.size + 2) 92 2 A' n0 k (l0.flatMap ruleCells)) :
    CopyS m A0 n0 c0 l0 A1 n1 c1 l1 A2 n2 c2 l2 A3 n3 c3 l3 w (L.setIfInBounds 5 true) (a.put (some 8) (.slice A' n0 k)) W' := by
  have hge := hown.row_ge
  have hno : ∀ e s A n c xs, e ≠ 92 → Mine W (w.heap.size + 2) e s A n c xs → Mine W' (w.heap.size + 2) e s A n c xs := fun e s A n c xs hne x => x.grown hg (fun q hq => .inr (Mine.apart x hown hne (by rw [← ownBlk (some ⟨g, 0, none⟩) 0 0]; exact hq)))
  refine h.step (by omega) (by omega) _ (below_turned' h.bl hg hge) (Nat.le_trans h.gz hg.size) (fun q t cs hq x => x.turned hg (fun y hy => by have := hge y hy; omega)) (fun e => ?_) (h.h0.append h.sz h.ts (by omega) hM) ((h.h1.world (fun A n c xs x => hno _ _ A n c xs (by decide) x)).other h.sz h.ts (by omega) (by omega) (by omega) (by omega)) ((h.h2.world (fun A n c xs x => hno _ _ A n c xs (by decide) x)).other h.sz h.ts (by omega) (by omega) (by omega) (by omega)) ((h.h3.world (fun A n c xs x => hno _ _ A n c xs (by decide) x)).other h.sz h.ts (by omega) (by omega) (by omega) (by omega))
  have := (h.q2 e).1
  exfalso
  have e1 : L.getD 5 true = L.getD 5 false := by rw [Array.getD_eq_getD_getElem?, Array.getD_eq_getD_getElem?, Array.getElem?_eq_getElem (by rw [h.sz]; omega)]; rfl
  rw [e1, this] at h0
  cases h0

theorem CopyS.make1 (h : CopyS m A0 n0 c0 l0 A1 n1 c1 l1 A2 n2 c2 l2 A3 n3 c3 l3 w L a W) : CopyS m A0 n0 c0 l0 A1 n1 c1 l1 A2 n2 c2 l2 A3 n3 c3 l3 w (L.setIfInBounds 6 true) (a.put (some 9) (.slice (some ⟨W.heap.size, 0, none⟩) 0 0)) (W.alloc (.cells #[] 96)) := by
  have hn : Below W.heap.size W (W.alloc (.cells #[] 96)) := (Below.refl _ _).alloc (Nat.le_refl _) _
  have hM : ∀ e s A n c xs, Mine W (w.heap.size + 2) e s A n c xs → Mine (W.alloc (.cells #[] 96)) (w.heap.size + 2) e s A n c xs := fun e s A n c xs x => x.next hn
  exact h.step (by omega) (by omega) _ (below_next h.bl hn) (Nat.le_trans h.gz hn.size) (fun g t cs _ x => x.next hn) (fun _ => hM) ((h.h0.world (fun A n c xs x => hM _ _ A n c xs x)).other h.sz h.ts (by omega) (by omega) (by omega) (by omega)) ((h.h1.world (fun A n c xs x => hM _ _ A n c xs x)).make h.sz h.ts (by omega) ⟨by simp, (own_empty W _ _).2.imp id (fun ⟨g, cap, cur, r1, r2, r3⟩ => ⟨g, cap, cur, r1, Nat.le_trans h.gz (by simpa using r2), r3⟩)⟩) ((h.h2.world (fun A n c xs x => hM _ _ A n c xs x)).other h.sz h.ts (by omega) (by omega) (by omega) (by omega)) ((h.h3.world (fun A n c xs x => hM _ _ A n c xs x)).other h.sz h.ts (by omega) (by omega) (by omega) (by omega))
theorem CopyS.addr1 (h : CopyS m A0 n0 c0 l0 A1 n1 c1 l1 A2 n2 c2 l2 A3 n3 c3 l3 w L a W) : CopyS m A0 n0 c0 l0 A1 n1 c1 l1 A2 n2 c2 l2 A3 n3 c3 l3 w (L.setIfInBounds 7 true) (a.put (some 10) (.pointer (some ⟨w.heap.size, 2, none⟩))) W :=
  h.step (by omega) (by omega) _ h.bl h.gz (fun g t cs _ x => x) (fun _ _ _ _ _ _ _ x => x) (h.h0.other h.sz h.ts (by omega) (by omega) (by omega) (by omega)) (h.h1.addr h.sz h.ts (by omega)) (h.h2.other h.sz h.ts (by omega) (by omega) (by omega) (by omega)) (h.h3.other h.sz h.ts (by omega) (by omega) (by omega) (by omega))
theorem CopyS.load1 (h : CopyS m A0 n0 c0 l0 A1 n1 c1 l1 A2 n2 c2 l2 A3 n3 c3 l3 w L a W) : CopyS m A0 n0 c0 l0 A1 n1 c1 l1 A2 n2 c2 l2 A3 n3 c3 l3 w (L.setIfInBounds 8 true) (a.put (some 11) (.slice A1 n1 c1)) W :=
  h.step (by omega) (by omega) _ h.bl h.gz (fun g t cs _ x => x) (fun _ _ _ _ _ _ _ x => x) (h.h0.other h.sz h.ts (by omega) (by omega) (by omega) (by omega)) (h.h1.load h.sz h.ts (by omega)) (h.h2.other h.sz h.ts (by omega) (by omega) (by omega) (by omega)) (h.h3.other h.sz h.ts (by omega) (by omega) (by omega) (by omega))
theorem CopyS.app1 (h : CopyS m A0 n0 c0 l0 A1 n1 c1 l1 A2 n2 c2 l2 A3 n3 c3 l3 w L a W) {g k : Nat} {A' : Option Addr} (h0 : L.getD 9 true = false) (hown : Mine W (w.heap.size + 2) 96 5 (some ⟨g, 0, none⟩) 0 0 []) (hg : W.grownBy W' (Value.slice (some ⟨g, 0, none⟩) 0 0).ownBlock) (hM : Mine W' (w.heap.size + 2) 96 5 A' n1 k (l1.flatMap chunkCells)) :
    CopyS m A0 n0 c0 l0 A1 n1 c1 l1 A2 n2 c2 l2 A3 n3 c3 l3 w (L.setIfInBounds 9 true) (a.put (some 12) (.slice A' n1 k)) W' := by
  have hge := hown.row_ge
  have hno : ∀ e s A n c xs, e ≠ 96 → Mine W (w.heap.size + 2) e s A n c xs → Mine W' (w.heap.size + 2) e s A n c xs := fun e s A n c xs hne x => x.grown hg (fun q hq => .inr (Mine.apart x hown hne (by rw [← ownBlk (some ⟨g, 0, none⟩) 0 0]; exact hq)))
  refine h.step (by omega) (by omega) _ (below_turned' h.bl hg hge) (Nat.le_trans h.gz hg.size) (fun q t cs hq x => x.turned hg (fun y hy => by have := hge y hy; omega)) (fun e => ?_) ((h.h0.world (fun A n c xs x => hno _ _ A n c xs (by decide) x)).other h.sz h.ts (by omega) (by omega) (by omega) (by omega)) (h.h1.append h.sz h.ts (by omega) hM) ((h.h2.world (fun A n c xs x => hno _ _ A n c xs (by decide) x)).other h.sz h.ts (by omega) (by omega) (by omega) (by omega)) ((h.h3.world (fun A n c xs x => hno _ _ A n c xs (by decide) x)).other h.sz h.ts (by omega) (by omega) (by omega) (by omega))
  have := (h.q2 e).2.1
  exfalso
  have e1 : L.getD 9 true = L.getD 9 false := by rw [Array.getD_eq_getD_getElem?, Array.getD_eq_getD_getElem?, Array.getElem?_eq_getElem (by rw [h.sz]; omega)]; rfl
  rw [e1, this] at h0
  cases h0

theorem CopyS.make2 (h : CopyS m A0 n0 c0 l0 A1 n1 c1 l1 A2 n2 c2 l2 A3 n3 c3 l3 w L a W) : CopyS m A0 n0 c0 l0 A1 n1 c1 l1 A2 n2 c2 l2 A3 n3 c3 l3 w (L.setIfInBounds 10 true) (a.put (some 13) (.slice (some ⟨W.heap.size, 0, none⟩) 0 0)) (W.alloc (.cells #[] 99)) := by
  have hn : Below W.heap.size W (W.alloc (.cells #[] 99)) := (Below.refl _ _).alloc (Nat.le_refl _) _
  have hM : ∀ e s A n c xs, Mine W (w.heap.size + 2) e s A n c xs → Mine (W.alloc (.cells #[] 99)) (w.heap.size + 2) e s A n c xs := fun e s A n c xs x => x.next hn
  exact h.step (by omega) (by omega) _ (below_next h.bl hn) (Nat.le_trans h.gz hn.size) (fun g t cs _ x => x.next hn) (fun _ => hM) ((h.h0.world (fun A n c xs x => hM _ _ A n c xs x)).other h.sz h.ts (by omega) (by omega) (by omega) (by omega)) ((h.h1.world (fun A n c xs x => hM _ _ A n c xs x)).other h.sz h.ts (by omega) (by omega) (by omega) (by omega)) ((h.h2.world (fun A n c xs x => hM _ _ A n c xs x)).make h.sz h.ts (by omega) ⟨by simp, (own_empty W _ _).2.imp id (fun ⟨g, cap, cur, r1, r2, r3⟩ => ⟨g, cap, cur, r1, Nat.le_trans h.gz (by simpa using r2), r3⟩)⟩) ((h.h3.world (fun A n c xs x => hM _ _ A n c xs x)).other h.sz h.ts (by omega) (by omega) (by omega) (by omega))
theorem CopyS.addr2 (h : CopyS m A0 n0 c0 l0 A1 n1 c1 l1 A2 n2 c2 l2 A3 n3 c3 l3 w L a W) : CopyS m A0 n0 c0 l0 A1 n1 c1 l1 A2 n2 c2 l2 A3 n3 c3 l3 w (L.setIfInBounds 11 true) (a.put (some 14) (.pointer (some ⟨w.heap.size, 3, none⟩))) W :=
  h.step (by omega) (by omega) _ h.bl h.gz (fun g t cs _ x => x) (fun _ _ _ _ _ _ _ x => x) (h.h0.other h.sz h.ts (by omega) (by omega) (by omega) (by omega)) (h.h1.other h.sz h.ts (by omega) (by omega) (by omega) (by omega)) (h.h2.addr h.sz h.ts (by omega)) (h.h3.other h.sz h.ts (by omega) (by omega) (by omega) (by omega))
theorem CopyS.load2 (h : CopyS m A0 n0 c0 l0 A1 n1 c1 l1 A2 n2 c2 l2 A3 n3 c3 l3 w L a W) : CopyS m A0 n0 c0 l0 A1 n1 c1 l1 A2 n2 c2 l2 A3 n3 c3 l3 w (L.setIfInBounds 12 true) (a.put (some 15) (.slice A2 n2 c2)) W :=
  h.step (by omega) (by omega) _ h.bl h.gz (fun g t cs _ x => x) (fun _ _ _ _ _ _ _ x => x) (h.h0.other h.sz h.ts (by omega) (by omega) (by omega) (by omega)) (h.h1.other h.sz h.ts (by omega) (by omega) (by omega) (by omega)) (h.h2.load h.sz h.ts (by omega)) (h.h3.other h.sz h.ts (by omega) (by omega) (by omega) (by omega))
theorem CopyS.app2 (h : CopyS m A0 n0 c0 l0 A1 n1 c1 l1 A2 n2 c2 l2 A3 n3 c3 l3 w L a W) {g k : Nat} {A' : Option Addr} (h0 : L.getD 13 true = false) (hown : Mine W (w.heap.size + 2) 99 3 (some ⟨g, 0, none⟩) 0 0 []) (hg : W.grownBy W' (Value.slice (some ⟨g, 0, none⟩) 0 0).ownBlock) (hM : Mine W' (w.heap.size + 2) 99 3 A' n2 k (l2.flatMap spanCells)) :
    CopyS m A0 n0 c0 l0 A1 n1 c1 l1 A2 n2 c2 l2 A3 n3 c3 l3 w (L.setIfInBounds 13 true) (a.put (some 16) (.slice A' n2 k)) W' := by
  have hge := hown.row_ge
  have hno : ∀ e s A n c xs, e ≠ 99 → Mine W (w.heap.size + 2) e s A n c xs → Mine W' (w.heap.size + 2) e s A n c xs := fun e s A n c xs hne x => x.grown hg (fun q hq => .inr (Mine.apart x hown hne (by rw [← ownBlk (some ⟨g, 0, none⟩) 0 0]; exact hq)))
  refine h.step (by omega) (by omega) _ (below_turned' h.bl hg hge) (Nat.le_trans h.gz hg.size) (fun q t cs hq x => x.turned hg (fun y hy => by have := hge y hy; omega)) (fun e => ?_) ((h.h0.world (fun A n c xs x => hno _ _ A n c xs (by decide) x)).other h.sz h.ts (by omega) (by omega) (by omega) (by omega)) ((h.h1.world (fun A n c xs x => hno _ _ A n c xs (by decide) x)).other h.sz h.ts (by omega) (by omega) (by omega) (by omega)) (h.h2.append h.sz h.ts (by omega) hM) ((h.h3.world (fun A n c xs x => hno _ _ A n c xs (by decide) x)).other h.sz h.ts (by omega) (by omega) (by omega) (by omega))
  have := (h.q2 e).2.2.1
  exfalso
  have e1 : L.getD 13 true = L.getD 13 false := by rw [Array.getD_eq_getD_getElem?, Array.getD_eq_getD_getElem?, Array.getElem?_eq_getElem (by rw [h.sz]; omega)]; rfl
  rw [e1, this] at h0
  cases h0

theorem CopyS.make3 (h : CopyS m A0 n0 c0 l0 A1 n1 c1 l1 A2 n2 c2 l2 A3 n3 c3 l3 w L a W) : CopyS m A0 n0 c0 l0 A1 n1 c1 l1 A2 n2 c2 l2 A3 n3 c3 l3 w (L.setIfInBounds 14 true) (a.put (some 17) (.slice (some ⟨W.heap.size, 0, none⟩) 0 0)) (W.alloc (.cells #[] 101)) := by
  have hn : Below W.heap.size W (W.alloc (.cells #[] 101)) := (Below.refl _ _).alloc (Nat.le_refl _) _
  have hM : ∀ e s A n c xs, Mine W (w.heap.size + 2) e s A n c xs → Mine (W.alloc (.cells #[] 101)) (w.heap.size + 2) e s A n c xs := fun e s A n c xs x => x.next hn
  exact h.step (by omega) (by omega) _ (below_next h.bl hn) (Nat.le_trans h.gz hn.size) (fun g t cs _ x => x.next hn) (fun _ => hM) ((h.h0.world (fun A n c xs x => hM _ _ A n c xs x)).other h.sz h.ts (by omega) (by omega) (by omega) (by omega)) ((h.h1.world (fun A n c xs x => hM _ _ A n c xs x)).other h.sz h.ts (by omega) (by omega) (by omega) (by omega)) ((h.h2.world (fun A n c xs x => hM _ _ A n c xs x)).other h.sz h.ts (by omega) (by omega) (by omega) (by omega)) ((h.h3.world (fun A n c xs x => hM _ _ A n c xs x)).make h.sz h.ts (by omega) ⟨by simp, (own_empty W _ _).2.imp id (fun ⟨g, cap, cur, r1, r2, r3⟩ => ⟨g, cap, cur, r1, Nat.le_trans h.gz (by simpa using r2), r3⟩)⟩)
theorem CopyS.addr3 (h : CopyS m A0 n0 c0 l0 A1 n1 c1 l1 A2 n2 c2 l2 A3 n3 c3 l3 w L a W) : CopyS m A0 n0 c0 l0 A1 n1 c1 l1 A2 n2 c2 l2 A3 n3 c3 l3 w (L.setIfInBounds 15 true) (a.put (some 18) (.pointer (some ⟨w.heap.size, 4, none⟩))) W :=
  h.step (by omega) (by omega) _ h.bl h.gz (fun g t cs _ x => x) (fun _ _ _ _ _ _ _ x => x) (h.h0.other h.sz h.ts (by omega) (by omega) (by omega) (by omega)) (h.h1.other h.sz h.ts (by omega) (by omega) (by omega) (by omega)) (h.h2.other h.sz h.ts (by omega) (by omega) (by omega) (by omega)) (h.h3.addr h.sz h.ts (by omega))
theorem CopyS.load3 (h : CopyS m A0 n0 c0 l0 A1 n1 c1 l1 A2 n2 c2 l2 A3 n3 c3 l3 w L a W) : CopyS m A0 n0 c0 l0 A1 n1 c1 l1 A2 n2 c2 l2 A3 n3 c3 l3 w (L.setIfInBounds 16 true) (a.put (some 19) (.slice A3 n3 c3)) W :=
  h.step (by omega) (by omega) _ h.bl h.gz (fun g t cs _ x => x) (fun _ _ _ _ _ _ _ x => x) (h.h0.other h.sz h.ts (by omega) (by omega) (by omega) (by omega)) (h.h1.other h.sz h.ts (by omega) (by omega) (by omega) (by omega)) (h.h2.other h.sz h.ts (by omega) (by omega) (by omega) (by omega)) (h.h3.load h.sz h.ts (by omega))
theorem CopyS.app3 (h : CopyS m A0 n0 c0 l0 A1 n1 c1 l1 A2 n2 c2 l2 A3 n3 c3 l3 w L a W) {g k : Nat} {A' : Option Addr} (h0 : L.getD 17 true = false) (hown : Mine W (w.heap.size + 2) 101 2 (some ⟨g, 0, none⟩) 0 0 []) (hg : W.grownBy W' (Value.slice (some ⟨g, 0, none⟩) 0 0).ownBlock) (hM : Mine W' (w.heap.size + 2) 101 2 A' n3 k (l3.flatMap tieCells)) :
    CopyS m A0 n0 c0 l0 A1 n1 c1 l1 A2 n2 c2 l2 A3 n3 c3 l3 w (L.setIfInBounds 17 true) (a.put (some 20) (.slice A' n3 k)) W' := by
  have hge := hown.row_ge
  have hno : ∀ e s A n c xs, e ≠ 101 → Mine W (w.heap.size + 2) e s A n c xs → Mine W' (w.heap.size + 2) e s A n c xs := fun e s A n c xs hne x => x.grown hg (fun q hq => .inr (Mine.apart x hown hne (by rw [← ownBlk (some ⟨g, 0, none⟩) 0 0]; exact hq)))
  refine h.step (by omega) (by omega) _ (below_turned' h.bl hg hge) (Nat.le_trans h.gz hg.size) (fun q t cs hq x => x.turned hg (fun y hy => by have := hge y hy; omega)) (fun e => ?_) ((h.h0.world (fun A n c xs x => hno _ _ A n c xs (by decide) x)).other h.sz h.ts (by omega) (by omega) (by omega) (by omega)) ((h.h1.world (fun A n c xs x => hno _ _ A n c xs (by decide) x)).other h.sz h.ts (by omega) (by omega) (by omega) (by omega)) ((h.h2.world (fun A n c xs x => hno _ _ A n c xs (by decide) x)).other h.sz h.ts (by omega) (by omega) (by omega) (by omega)) (h.h3.append h.sz h.ts (by omega) hM)
  have := (h.q2 e).2.2.2
  exfalso
  have e1 : L.getD 17 true = L.getD 17 false := by rw [Array.getD_eq_getD_getElem?, Array.getD_eq_getD_getElem?, Array.getElem?_eq_getElem (by rw [h.sz]; omega)]; rfl
  rw [e1, this] at h0
  cases h0

end

section
variable {m : Int} {A0 : Option Addr} {n0 c0 : Nat} {l0 : List RuleD} {A1 : Option Addr} {n1 c1 : Nat} {l1 : List ChunkD} {A2 : Option Addr} {n2 c2 : Nat} {l2 : List SpanD} {A3 : Option Addr} {n3 c3 : Nat} {l3 : List TieD} {w : World} {L : Array Bool} {a : Act} {W W' : World}

theorem CopyS.op0 (h : CopyS m A0 n0 c0 l0 A1 n1 c1 l1 A2 n2 c2 l2 A3 n3 c3 l3 w L a W) {v : Value} (hv : v = .pointer (some ⟨w.heap.size, 0, none⟩)) : CopyS m A0 n0 c0 l0 A1 n1 c1 l1 A2 n2 c2 l2 A3 n3 c3 l3 w (L.setIfInBounds 0 true) (a.put (some 3) v) W where
  sz := by simp [h.sz]
  df := h.df
  ts := by simp [Act.put, h.ts]
  t1 := by rw [tmp_put (by rw [h.ts]; omega), if_neg (by omega)]; exact h.t1
  t2 := by rw [tmp_put (by rw [h.ts]; omega), if_neg (by omega)]; exact h.t2
  kp := h.kp
  bl := h.bl
  gz := h.gz
  st := fun e => h.st (by rw [getD_set (by rw [h.sz]; omega), decide_eq_false (by omega), Bool.false_or] at e; exact e)
  f0 := fun e => by rw [tmp_put (by rw [h.ts]; omega), if_pos rfl]; exact hv
  f1 := fun e => by rw [tmp_put (by rw [h.ts]; omega), if_neg (by omega)]; exact h.f1 (by rw [getD_set (by rw [h.sz]; omega), decide_eq_false (by omega), Bool.false_or] at e; exact e)
  h0 := h.h0.other h.sz h.ts (by omega) (by omega) (by omega) (by omega)
  h1 := h.h1.other h.sz h.ts (by omega) (by omega) (by omega) (by omega)
  h2 := h.h2.other h.sz h.ts (by omega) (by omega) (by omega) (by omega)
  h3 := h.h3.other h.sz h.ts (by omega) (by omega) (by omega) (by omega)
  q1 := fun e => by rw [getD_set (by rw [h.sz]; omega), h.q1 (by rw [getD_set (by rw [h.sz]; omega), decide_eq_false (by omega), Bool.false_or] at e; exact e), Bool.or_true]
  q2 := fun e => by
    obtain ⟨a1, a2, a3, a4⟩ := h.q2 (by rw [getD_set (by rw [h.sz]; omega), decide_eq_false (by omega), Bool.false_or] at e; exact e)
    refine ⟨?_, ?_, ?_, ?_⟩
    · rw [getD_set (by rw [h.sz]; omega), a1, Bool.or_true]
    · rw [getD_set (by rw [h.sz]; omega), a2, Bool.or_true]
    · rw [getD_set (by rw [h.sz]; omega), a3, Bool.or_true]
    · rw [getD_set (by rw [h.sz]; omega), a4, Bool.or_true]
  f18 := fun e => by
    obtain ⟨B0, k0, B1, k1, B2, k2, B3, k3, x, mm⟩ := h.f18 (by rw [getD_set (by rw [h.sz]; omega), decide_eq_false (by omega), Bool.false_or] at e; exact e)
    exact ⟨B0, k0, B1, k1, B2, k2, B3, k3, by rw [tmp_put (by rw [h.ts]; omega), if_neg (by omega)]; exact x, mm⟩
  f19 := fun e => h.f19 (by rw [getD_set (by rw [h.sz]; omega), decide_eq_false (by omega), Bool.false_or] at e; exact e)

theorem CopyS.op1 (h : CopyS m A0 n0 c0 l0 A1 n1 c1 l1 A2 n2 c2 l2 A3 n3 c3 l3 w L a W) {v : Value} (hv : v = .int .i64 m) : CopyS m A0 n0 c0 l0 A1 n1 c1 l1 A2 n2 c2 l2 A3 n3 c3 l3 w (L.setIfInBounds 1 true) (a.put (some 4) v) W where
  sz := by simp [h.sz]
  df := h.df
  ts := by simp [Act.put, h.ts]
  t1 := by rw [tmp_put (by rw [h.ts]; omega), if_neg (by omega)]; exact h.t1
  t2 := by rw [tmp_put (by rw [h.ts]; omega), if_neg (by omega)]; exact h.t2
  kp := h.kp
  bl := h.bl
  gz := h.gz
  st := fun e => h.st (by rw [getD_set (by rw [h.sz]; omega), decide_eq_false (by omega), Bool.false_or] at e; exact e)
  f0 := fun e => by rw [tmp_put (by rw [h.ts]; omega), if_neg (by omega)]; exact h.f0 (by rw [getD_set (by rw [h.sz]; omega), decide_eq_false (by omega), Bool.false_or] at e; exact e)
  f1 := fun e => by rw [tmp_put (by rw [h.ts]; omega), if_pos rfl]; exact hv
  h0 := h.h0.other h.sz h.ts (by omega) (by omega) (by omega) (by omega)
  h1 := h.h1.other h.sz h.ts (by omega) (by omega) (by omega) (by omega)
  h2 := h.h2.other h.sz h.ts (by omega) (by omega) (by omega) (by omega)
  h3 := h.h3.other h.sz h.ts (by omega) (by omega) (by omega) (by omega)
  q1 := fun e => by rw [getD_set (by rw [h.sz]; omega), h.q1 (by rw [getD_set (by rw [h.sz]; omega), decide_eq_false (by omega), Bool.false_or] at e; exact e), Bool.or_true]
  q2 := fun e => by
    obtain ⟨a1, a2, a3, a4⟩ := h.q2 (by rw [getD_set (by rw [h.sz]; omega), decide_eq_false (by omega), Bool.false_or] at e; exact e)
    refine ⟨?_, ?_, ?_, ?_⟩
    · rw [getD_set (by rw [h.sz]; omega), a1, Bool.or_true]
    · rw [getD_set (by rw [h.sz]; omega), a2, Bool.or_true]
    · rw [getD_set (by rw [h.sz]; omega), a3, Bool.or_true]
    · rw [getD_set (by rw [h.sz]; omega), a4, Bool.or_true]
  f18 := fun e => by
    obtain ⟨B0, k0, B1, k1, B2, k2, B3, k3, x, mm⟩ := h.f18 (by rw [getD_set (by rw [h.sz]; omega), decide_eq_false (by omega), Bool.false_or] at e; exact e)
    exact ⟨B0, k0, B1, k1, B2, k2, B3, k3, by rw [tmp_put (by rw [h.ts]; omega), if_neg (by omega)]; exact x, mm⟩
  f19 := fun e => h.f19 (by rw [getD_set (by rw [h.sz]; omega), decide_eq_false (by omega), Bool.false_or] at e; exact e)

theorem CopyS.op18 (h : CopyS m A0 n0 c0 l0 A1 n1 c1 l1 A2 n2 c2 l2 A3 n3 c3 l3 w L a W) {v : Value} (hq : L.getD 5 false = true ∧ L.getD 9 false = true ∧ L.getD 13 false = true ∧ L.getD 17 false = true) (hv : ∃ B0 k0 B1 k1 B2 k2 B3 k3, v = .agg #[.int .i64 m, .slice B0 n0 k0, .slice B1 n1 k1, .slice B2 n2 k2, .slice B3 n3 k3] ∧ Mine W (w.heap.size + 2) 92 2 B0 n0 k0 (l0.flatMap ruleCells) ∧ Mine W (w.heap.size + 2) 96 5 B1 n1 k1 (l1.flatMap chunkCells) ∧ Mine W (w.heap.size + 2) 99 3 B2 n2 k2 (l2.flatMap spanCells) ∧ Mine W (w.heap.size + 2) 101 2 B3 n3 k3 (l3.flatMap tieCells)) : CopyS m A0 n0 c0 l0 A1 n1 c1 l1 A2 n2 c2 l2 A3 n3 c3 l3 w (L.setIfInBounds 18 true) (a.put (some 21) v) W where
  sz := by simp [h.sz]
  df := h.df
  ts := by simp [Act.put, h.ts]
  t1 := by rw [tmp_put (by rw [h.ts]; omega), if_neg (by omega)]; exact h.t1
  t2 := by rw [tmp_put (by rw [h.ts]; omega), if_neg (by omega)]; exact h.t2
  kp := h.kp
  bl := h.bl
  gz := h.gz
  st := fun e => h.st (by rw [getD_set (by rw [h.sz]; omega), decide_eq_false (by omega), Bool.false_or] at e; exact e)
  f0 := fun e => by rw [tmp_put (by rw [h.ts]; omega), if_neg (by omega)]; exact h.f0 (by rw [getD_set (by rw [h.sz]; omega), decide_eq_false (by omega), Bool.false_or] at e; exact e)
  f1 := fun e => by rw [tmp_put (by rw [h.ts]; omega), if_neg (by omega)]; exact h.f1 (by rw [getD_set (by rw [h.sz]; omega), decide_eq_false (by omega), Bool.false_or] at e; exact e)
  h0 := h.h0.other h.sz h.ts (by omega) (by omega) (by omega) (by omega)
  h1 := h.h1.other h.sz h.ts (by omega) (by omega) (by omega) (by omega)
  h2 := h.h2.other h.sz h.ts (by omega) (by omega) (by omega) (by omega)
  h3 := h.h3.other h.sz h.ts (by omega) (by omega) (by omega) (by omega)
  q1 := fun e => by rw [getD_set (by rw [h.sz]; omega), h.q1 (by rw [getD_set (by rw [h.sz]; omega), decide_eq_false (by omega), Bool.false_or] at e; exact e), Bool.or_true]
  q2 := fun e => by
    obtain ⟨a1, a2, a3, a4⟩ := hq
    refine ⟨?_, ?_, ?_, ?_⟩
    · rw [getD_set (by rw [h.sz]; omega), a1, Bool.or_true]
    · rw [getD_set (by rw [h.sz]; omega), a2, Bool.or_true]
    · rw [getD_set (by rw [h.sz]; omega), a3, Bool.or_true]
    · rw [getD_set (by rw [h.sz]; omega), a4, Bool.or_true]
  f18 := fun e => by
    obtain ⟨B0, k0, B1, k1, B2, k2, B3, k3, rfl, mm⟩ := hv
    exact ⟨B0, k0, B1, k1, B2, k2, B3, k3, by rw [tmp_put (by rw [h.ts]; omega), if_pos rfl], mm⟩
  f19 := fun e => h.f19 (by rw [getD_set (by rw [h.sz]; omega), decide_eq_false (by omega), Bool.false_or] at e; exact e)

theorem CopyS.op19 (h : CopyS m A0 n0 c0 l0 A1 n1 c1 l1 A2 n2 c2 l2 A3 n3 c3 l3 w L a W) {v : Value} (hq : L.getD 18 false = true) (hK : ∀ g t cs, g < w.heap.size + 1 → Blk W g t cs → Blk W' g t cs) (hbl : Below w.heap.size w W') (hgz : w.heap.size + 2 ≤ W'.heap.size)
    (hM : ∀ e s A n c xs, e ≠ 52 → Mine W (w.heap.size + 2) e s A n c xs → Mine W' (w.heap.size + 2) e s A n c xs) (hv : ∃ B0 k0 B1 k1 B2 k2 B3 k3, Blk W' (w.heap.size + 1) 52 #[.int .i64 m, .slice B0 n0 k0, .slice B1 n1 k1, .slice B2 n2 k2, .slice B3 n3 k3] ∧ Mine W' (w.heap.size + 2) 92 2 B0 n0 k0 (l0.flatMap ruleCells) ∧ Mine W' (w.heap.size + 2) 96 5 B1 n1 k1 (l1.flatMap chunkCells) ∧ Mine W' (w.heap.size + 2) 99 3 B2 n2 k2 (l2.flatMap spanCells) ∧ Mine W' (w.heap.size + 2) 101 2 B3 n3 k3 (l3.flatMap tieCells)) : CopyS m A0 n0 c0 l0 A1 n1 c1 l1 A2 n2 c2 l2 A3 n3 c3 l3 w (L.setIfInBounds 19 true) (a.put none v) W' where
  sz := by simp [h.sz]
  df := h.df
  ts := h.ts
  t1 := h.t1
  t2 := h.t2
  kp := hK _ _ _ (by omega) h.kp
  bl := hbl
  gz := hgz
  st := fun e => by rw [getD_set (by rw [h.sz]; omega), decide_eq_true rfl, Bool.true_or] at e; cases e
  f0 := fun e => h.f0 (by rw [getD_set (by rw [h.sz]; omega), decide_eq_false (by omega), Bool.false_or] at e; exact e)
  f1 := fun e => h.f1 (by rw [getD_set (by rw [h.sz]; omega), decide_eq_false (by omega), Bool.false_or] at e; exact e)
  h0 := (h.h0.world (fun A n c xs x => hM _ _ A n c xs (by decide) x)).other0 h.sz (by omega) (by omega)
  h1 := (h.h1.world (fun A n c xs x => hM _ _ A n c xs (by decide) x)).other0 h.sz (by omega) (by omega)
  h2 := (h.h2.world (fun A n c xs x => hM _ _ A n c xs (by decide) x)).other0 h.sz (by omega) (by omega)
  h3 := (h.h3.world (fun A n c xs x => hM _ _ A n c xs (by decide) x)).other0 h.sz (by omega) (by omega)
  q1 := fun e => by rw [getD_set (by rw [h.sz]; omega), hq, Bool.or_true]
  q2 := fun e => by
    obtain ⟨a1, a2, a3, a4⟩ := h.q2 (by rw [getD_set (by rw [h.sz]; omega), decide_eq_false (by omega), Bool.false_or] at e; exact e)
    refine ⟨?_, ?_, ?_, ?_⟩
    · rw [getD_set (by rw [h.sz]; omega), a1, Bool.or_true]
    · rw [getD_set (by rw [h.sz]; omega), a2, Bool.or_true]
    · rw [getD_set (by rw [h.sz]; omega), a3, Bool.or_true]
    · rw [getD_set (by rw [h.sz]; omega), a4, Bool.or_true]
  f18 := fun e => by
    obtain ⟨B0, k0, B1, k1, B2, k2, B3, k3, x, m0, m1, m2, m3⟩ := h.f18 hq
    exact ⟨B0, k0, B1, k1, B2, k2, B3, k3, x, hM _ _ _ _ _ _ (by decide) m0, hM _ _ _ _ _ _ (by decide) m1, hM _ _ _ _ _ _ (by decide) m2, hM _ _ _ _ _ _ (by decide) m3⟩
  f19 := fun e => hv

end

def CopyP (m : Int) (A0 : Option Addr) (n0 c0 : Nat) (l0 : List RuleD) (A1 : Option Addr) (n1 c1 : Nat) (l1 : List ChunkD) (A2 : Option Addr) (n2 c2 : Nat) (l2 : List SpanD) (A3 : Option Addr) (n3 c3 : Nat) (l3 : List TieD) (w : World) (e : Ending) (w' : World) : Prop :=
  ∃ B0 k0 B1 k1 B2 k2 B3 k3, e = .returned (.agg #[.int .i64 m, .slice B0 n0 k0, .slice B1 n1 k1, .slice B2 n2 k2, .slice B3 n3 k3]) ∧ (Mine w' (w.heap.size + 2) 92 2 B0 n0 k0 (l0.flatMap ruleCells) ∧ Mine w' (w.heap.size + 2) 96 5 B1 n1 k1 (l1.flatMap chunkCells) ∧ Mine w' (w.heap.size + 2) 99 3 B2 n2 k2 (l2.flatMap spanCells) ∧ Mine w' (w.heap.size + 2) 101 2 B3 n3 k3 (l3.flatMap tieCells)) ∧ Below w.heap.size w w'
set_option maxRecDepth 100000 in
set_option maxHeartbeats 3200000 in
theorem l08Copy_any (m : Int) (A0 : Option Addr) (n0 c0 : Nat) (l0 : List RuleD) (A1 : Option Addr) (n1 c1 : Nat) (l1 : List ChunkD) (A2 : Option Addr) (n2 c2 : Nat) (l2 : List SpanD) (A3 : Option Addr) (n3 c3 : Nat) (l3 : List TieD) (w : World) (hl : Hid (LenP n0 l0 n1 l1 n2 l2 n3 l3)) (hr : RdP w A0 n0 l0 A1 n1 l1 A2 n2 l2 A3 n3 l3) (hn : n0 ≤ 1048576 ∧ n1 ≤ 1048576 ∧ n2 ≤ 1048576 ∧ n3 ≤ 1048576) :
    Calls Tryd.prog 94 #[.agg #[.int .i64 m, .slice A0 n0 c0, .slice A1 n1 c1, .slice A2 n2 c2, .slice A3 n3 c3]] w (CopyP m A0 n0 c0 l0 A1 n1 c1 l1 A2 n2 c2 l2 A3 n3 c3 l3 w) := by
  have HR := Lib.hid (fun W (hW : Below w.heap.size w W) => hr.next hW)
  clear hr
  obtain ⟨q0, q1, q2, q3⟩ := hn

  obtain ⟨iRule, hi, hz0, hz1, hz2⟩ := info_parts infoRule
  have HIRule := Lib.hid (And.intro hi (And.intro hz0 (And.intro hz1 hz2)))
  clear hi hz0 hz1 hz2
  obtain ⟨iChunk, hi, hz0, hz1, hz2⟩ := info_parts infoChunk
  have HIChunk := Lib.hid (And.intro hi (And.intro hz0 (And.intro hz1 hz2)))
  clear hi hz0 hz1 hz2
  obtain ⟨iSpan, hi, hz0, hz1, hz2⟩ := info_parts infoSpan
  have HISpan := Lib.hid (And.intro hi (And.intro hz0 (And.intro hz1 hz2)))
  clear hi hz0 hz1 hz2
  obtain ⟨iTie, hi, hz0, hz1, hz2⟩ := info_parts infoTie
  have HITie := Lib.hid (And.intro hi (And.intro hz0 (And.intro hz1 hz2)))
  clear hi hz0 hz1 hz2
  go_enter Tryd.func94, Tryd.ntmps94
  go_upto_region 1 with fail
  rename_i hK
  refine wp_region_any (by kernel_rfl) ?_
  refine wpAny_inv (fun L a W => CopyS m A0 n0 c0 l0 A1 n1 c1 l1 A2 n2 c2 l2 A3 n3 c3 l3 w L a W) ?_ ?_ _ _ _ _ (by simp) (unlisted_all _) ?_
  · intro L a W i S hi
    obtain ⟨h1, h2, h3⟩ := ready_spec hi
    clear hi
    match i, h1 with
    | 0, _ =>
      have t1 := S.t1
      exact wpOp_run (o := _) rfl rfl (v := .pointer (some ⟨w.heap.size, 0, none⟩)) (w' := W) (by go_simp) (S.op0 rfl)
    | 1, _ =>
      have t1 := S.f0 (h3 _ rfl ⟨0, .data⟩ (by simp) rfl)
      have hc : W.cell? ⟨w.heap.size, 0, none⟩ = some (.int .i64 m) := S.kp.cell 0
      exact wpOp_run (o := _) rfl rfl (v := .int .i64 m) (w' := W) (by go_simp) (S.op1 rfl)
    | 2, _ => exact wpOp_run (o := _) rfl rfl (v := .slice (some ⟨W.heap.size, 0, none⟩) 0 0) (w' := W.alloc (.cells #[] 92)) (by go_simp) S.make0
    | 3, _ =>
      have t1 := S.t1
      exact wpOp_run (o := _) rfl rfl (v := .pointer (some ⟨w.heap.size, 1, none⟩)) (w' := W) (by go_simp) S.addr0
    | 4, _ =>
      have t1 := S.h0.2.1 (h3 _ rfl ⟨3, .data⟩ (by simp) rfl)
      have hc : W.cell? ⟨w.heap.size, 1, none⟩ = some (.slice A0 n0 c0) := S.kp.cell 1
      exact wpOp_run (o := _) rfl rfl (v := .slice A0 n0 c0) (w' := W) (by go_simp) S.load0
    | 5, _ =>
      have h2' : L.getD 5 false = false := by
        have e1 : L.getD 5 true = L.getD 5 false := by rw [Array.getD_eq_getD_getElem?, Array.getD_eq_getD_getElem?, Array.getElem?_eq_getElem (by rw [S.sz]; omega)]; rfl
        rw [← e1]; exact h2
      obtain ⟨g, t1, hM⟩ := S.h0.1 (h3 _ rfl ⟨2, .data⟩ (by simp) rfl) h2'
      have t2 := S.h0.2.2.1 (h3 _ rfl ⟨4, .data⟩ (by simp) rfl)
      obtain ⟨A', c', W', hrun, hMine, hg⟩ := run_append_rd Tryd.prog W (w.heap.size + 2) 47 47 92 iRule (.agg #[.int .i64 0, .int .i64 0]) 2 16 Tryd.underlying47 HIRule.out.1 HIRule.out.2.1 HIRule.out.2.2.1 HIRule.out.2.2.2 rfl (by omega) _ 0 [] hM A0 n0 c0 (l0.flatMap ruleCells) (HR.out _ S.bl).1 (fun x hx => one_rule hx) (by unfold maxLen; omega) (by omega) S.gz
      rw [Nat.zero_add] at hrun
      exact wpOp_run (o := _) rfl rfl (v := .slice A' n0 c') (w' := W') (run_app rfl t1 t2 hrun) (S.app0 h2 hM hg (by simpa using hMine))
    | 6, _ => exact wpOp_run (o := _) rfl rfl (v := .slice (some ⟨W.heap.size, 0, none⟩) 0 0) (w' := W.alloc (.cells #[] 96)) (by go_simp) S.make1
    | 7, _ =>
      have t1 := S.t1
      exact wpOp_run (o := _) rfl rfl (v := .pointer (some ⟨w.heap.size, 2, none⟩)) (w' := W) (by go_simp) S.addr1
    | 8, _ =>
      have t1 := S.h1.2.1 (h3 _ rfl ⟨7, .data⟩ (by simp) rfl)
      have hc : W.cell? ⟨w.heap.size, 2, none⟩ = some (.slice A1 n1 c1) := S.kp.cell 2
      exact wpOp_run (o := _) rfl rfl (v := .slice A1 n1 c1) (w' := W) (by go_simp) S.load1
    | 9, _ =>
      have h2' : L.getD 9 false = false := by
        have e1 : L.getD 9 true = L.getD 9 false := by rw [Array.getD_eq_getD_getElem?, Array.getD_eq_getD_getElem?, Array.getElem?_eq_getElem (by rw [S.sz]; omega)]; rfl
        rw [← e1]; exact h2
      obtain ⟨g, t1, hM⟩ := S.h1.1 (h3 _ rfl ⟨6, .data⟩ (by simp) rfl) h2'
      have t2 := S.h1.2.2.1 (h3 _ rfl ⟨8, .data⟩ (by simp) rfl)
      obtain ⟨A', c', W', hrun, hMine, hg⟩ := run_append_rd Tryd.prog W (w.heap.size + 2) 48 48 96 iChunk (.agg #[.string ⟨#[]⟩, .int .i64 0, .int .i64 0, .bool false, .int .i64 0]) 5 48 Tryd.underlying48 HIChunk.out.1 HIChunk.out.2.1 HIChunk.out.2.2.1 HIChunk.out.2.2.2 rfl (by omega) _ 0 [] hM A1 n1 c1 (l1.flatMap chunkCells) (HR.out _ S.bl).2.1 (fun x hx => one_chunk hx) (by unfold maxLen; omega) (by omega) S.gz
      rw [Nat.zero_add] at hrun
      exact wpOp_run (o := _) rfl rfl (v := .slice A' n1 c') (w' := W') (run_app rfl t1 t2 hrun) (S.app1 h2 hM hg (by simpa using hMine))
    | 10, _ => exact wpOp_run (o := _) rfl rfl (v := .slice (some ⟨W.heap.size, 0, none⟩) 0 0) (w' := W.alloc (.cells #[] 99)) (by go_simp) S.make2
    | 11, _ =>
      have t1 := S.t1
      exact wpOp_run (o := _) rfl rfl (v := .pointer (some ⟨w.heap.size, 3, none⟩)) (w' := W) (by go_simp) S.addr2
    | 12, _ =>
      have t1 := S.h2.2.1 (h3 _ rfl ⟨11, .data⟩ (by simp) rfl)
      have hc : W.cell? ⟨w.heap.size, 3, none⟩ = some (.slice A2 n2 c2) := S.kp.cell 3
      exact wpOp_run (o := _) rfl rfl (v := .slice A2 n2 c2) (w' := W) (by go_simp) S.load2
    | 13, _ =>
      have h2' : L.getD 13 false = false := by
        have e1 : L.getD 13 true = L.getD 13 false := by rw [Array.getD_eq_getD_getElem?, Array.getD_eq_getD_getElem?, Array.getElem?_eq_getElem (by rw [S.sz]; omega)]; rfl
        rw [← e1]; exact h2
      obtain ⟨g, t1, hM⟩ := S.h2.1 (h3 _ rfl ⟨10, .data⟩ (by simp) rfl) h2'
      have t2 := S.h2.2.2.1 (h3 _ rfl ⟨12, .data⟩ (by simp) rfl)
      obtain ⟨A', c', W', hrun, hMine, hg⟩ := run_append_rd Tryd.prog W (w.heap.size + 2) 49 49 99 iSpan (.agg #[.int .i64 0, .int .i64 0, .int .i64 0]) 3 24 Tryd.underlying49 HISpan.out.1 HISpan.out.2.1 HISpan.out.2.2.1 HISpan.out.2.2.2 rfl (by omega) _ 0 [] hM A2 n2 c2 (l2.flatMap spanCells) (HR.out _ S.bl).2.2.1 (fun x hx => one_span hx) (by unfold maxLen; omega) (by omega) S.gz
      rw [Nat.zero_add] at hrun
      exact wpOp_run (o := _) rfl rfl (v := .slice A' n2 c') (w' := W') (run_app rfl t1 t2 hrun) (S.app2 h2 hM hg (by simpa using hMine))
    | 14, _ => exact wpOp_run (o := _) rfl rfl (v := .slice (some ⟨W.heap.size, 0, none⟩) 0 0) (w' := W.alloc (.cells #[] 101)) (by go_simp) S.make3
    | 15, _ =>
      have t1 := S.t1
      exact wpOp_run (o := _) rfl rfl (v := .pointer (some ⟨w.heap.size, 4, none⟩)) (w' := W) (by go_simp) S.addr3
    | 16, _ =>
      have t1 := S.h3.2.1 (h3 _ rfl ⟨15, .data⟩ (by simp) rfl)
      have hc : W.cell? ⟨w.heap.size, 4, none⟩ = some (.slice A3 n3 c3) := S.kp.cell 4
      exact wpOp_run (o := _) rfl rfl (v := .slice A3 n3 c3) (w' := W) (by go_simp) S.load3
    | 17, _ =>
      have h2' : L.getD 17 false = false := by
        have e1 : L.getD 17 true = L.getD 17 false := by rw [Array.getD_eq_getD_getElem?, Array.getD_eq_getD_getElem?, Array.getElem?_eq_getElem (by rw [S.sz]; omega)]; rfl
        rw [← e1]; exact h2
      obtain ⟨g, t1, hM⟩ := S.h3.1 (h3 _ rfl ⟨14, .data⟩ (by simp) rfl) h2'
      have t2 := S.h3.2.2.1 (h3 _ rfl ⟨16, .data⟩ (by simp) rfl)
      obtain ⟨A', c', W', hrun, hMine, hg⟩ := run_append_rd Tryd.prog W (w.heap.size + 2) 50 50 101 iTie (.agg #[.int .i64 0, .int .i64 0]) 2 16 Tryd.underlying50 HITie.out.1 HITie.out.2.1 HITie.out.2.2.1 HITie.out.2.2.2 rfl (by omega) _ 0 [] hM A3 n3 c3 (l3.flatMap tieCells) (HR.out _ S.bl).2.2.2 (fun x hx => one_tie hx) (by unfold maxLen; omega) (by omega) S.gz
      rw [Nat.zero_add] at hrun
      exact wpOp_run (o := _) rfl rfl (v := .slice A' n3 c') (w' := W') (run_app rfl t1 t2 hrun) (S.app3 h2 hM hg (by simpa using hMine))
    | 18, _ =>
      have e1 := S.f1 (h3 _ rfl ⟨1, .data⟩ (by simp) rfl)
      have l5 := h3 _ rfl ⟨5, .data⟩ (by simp) rfl
      have l9 := h3 _ rfl ⟨9, .data⟩ (by simp) rfl
      have l13 := h3 _ rfl ⟨13, .data⟩ (by simp) rfl
      have l17 := h3 _ rfl ⟨17, .data⟩ (by simp) rfl
      obtain ⟨B0, k0, t0, m0⟩ := S.h0.2.2.2 l5
      obtain ⟨B1, k1, t1, m1⟩ := S.h1.2.2.2 l9
      obtain ⟨B2, k2, t2, m2⟩ := S.h2.2.2.2 l13
      obtain ⟨B3, k3, t3, m3⟩ := S.h3.2.2.2 l17
      exact wpOp_run (o := _) rfl rfl (v := .agg #[.int .i64 m, .slice B0 n0 k0, .slice B1 n1 k1, .slice B2 n2 k2, .slice B3 n3 k3]) (w' := W) (by go_simp) (S.op18 ⟨l5, l9, l13, l17⟩ ⟨B0, k0, B1, k1, B2, k2, B3, k3, rfl, m0, m1, m2, m3⟩)
    | 19, _ =>
      have l18 := h3 _ rfl ⟨18, .data⟩ (by simp) rfl
      have h2' : L.getD 19 false = false := by
        have e1 : L.getD 19 true = L.getD 19 false := by rw [Array.getD_eq_getD_getElem?, Array.getD_eq_getD_getElem?, Array.getElem?_eq_getElem (by rw [S.sz]; omega)]; rfl
        rw [← e1]; exact h2
      obtain ⟨B0, k0, B1, k1, B2, k2, B3, k3, t21, m0, m1, m2, m3⟩ := S.f18 l18
      have t2 := S.t2
      have hB := S.st h2'
      have z0 : W.cell? ⟨w.heap.size + 1, 0, none⟩ = some (.int .i64 0) := hB.cell 0
      have z1 : W.cell? ⟨w.heap.size + 1, 1, none⟩ = some (.slice none 0 0) := hB.cell 1
      have z2 : W.cell? ⟨w.heap.size + 1, 2, none⟩ = some (.slice none 0 0) := hB.cell 2
      have z3 : W.cell? ⟨w.heap.size + 1, 3, none⟩ = some (.slice none 0 0) := hB.cell 3
      have z4 : W.cell? ⟨w.heap.size + 1, 4, none⟩ = some (.slice none 0 0) := hB.cell 4
      have zf := hB.frozen
      have hgz := S.gz
      have hbl := S.bl
      refine wpOp_skip (o := _) rfl rfl (w' := ((((W.setCell ⟨w.heap.size + 1, 0, none⟩ (.int .i64 m)).setCell ⟨w.heap.size + 1, 1, none⟩ (.slice B0 n0 k0)).setCell ⟨w.heap.size + 1, 2, none⟩ (.slice B1 n1 k1)).setCell ⟨w.heap.size + 1, 3, none⟩ (.slice B2 n2 k2)).setCell ⟨w.heap.size + 1, 4, none⟩ (.slice B3 n3 k3)) (by go_simp) ?_
      have hfin := blk_put (blk_put (blk_put (blk_put (blk_put hB (i := 0) (u := .int .i64 m) rfl) (i := 1) (u := .slice B0 n0 k0) rfl) (i := 2) (u := .slice B1 n1 k1) rfl) (i := 3) (u := .slice B2 n2 k2) rfl) (i := 4) (u := .slice B3 n3 k3) rfl
      have hMM : ∀ e s A n c xs, e ≠ 52 → Mine W (w.heap.size + 2) e s A n c xs → Mine (((((W.setCell ⟨w.heap.size + 1, 0, none⟩ (.int .i64 m)).setCell ⟨w.heap.size + 1, 1, none⟩ (.slice B0 n0 k0)).setCell ⟨w.heap.size + 1, 2, none⟩ (.slice B1 n1 k1)).setCell ⟨w.heap.size + 1, 3, none⟩ (.slice B2 n2 k2)).setCell ⟨w.heap.size + 1, 4, none⟩ (.slice B3 n3 k3)) (w.heap.size + 2) e s A n c xs := fun e s A n c xs hne x =>
        ((((x.far hB hne _).far (hB.set_ _ _) hne _).far ((hB.set_ _ _).set_ _ _) hne _).far (((hB.set_ _ _).set_ _ _).set_ _ _) hne _).far ((((hB.set_ _ _).set_ _ _).set_ _ _).set_ _ _) hne _
      refine S.op19 l18 (fun g t cs hg x => ((((x.far (by dsimp only; omega) _).far (by dsimp only; omega) _).far (by dsimp only; omega) _).far (by dsimp only; omega) _).far (by dsimp only; omega) _) (by repeat' (first | (with_reducible exact Below.refl _ _) | (with_reducible assumption) | (with_reducible refine below_drewN ?_ _) | (with_reducible refine Below.drew ?_) | (with_reducible refine Below.alloc ?_ ?_ _) | (with_reducible refine Below.setCell ?_ ?_ _) | go_size)) (by simpa [World.setCell] using hgz) hMM ⟨B0, k0, B1, k1, B2, k2, B3, k3, hfin, hMM _ _ _ _ _ _ (by decide) m0, hMM _ _ _ _ _ _ (by decide) m1, hMM _ _ _ _ _ _ (by decide) m2, hMM _ _ _ _ _ _ (by decide) m3⟩
    | i + 20, h => exact absurd h (by simp)
  · intro L a W S hr
    have hall := all_listed hr (by rw [S.sz]; rfl) (by kernel_rfl)
    obtain ⟨B0, k0, B1, k1, B2, k2, B3, k3, hB, m0, m1, m2, m3⟩ := S.f19 (hall 19 (by simp))
    have t2 := S.t2
    have z0 : W.cell? ⟨w.heap.size + 1, 0, none⟩ = some (.int .i64 m) := hB.cell 0
    have z1 : W.cell? ⟨w.heap.size + 1, 1, none⟩ = some (.slice B0 n0 k0) := hB.cell 1
    have z2 : W.cell? ⟨w.heap.size + 1, 2, none⟩ = some (.slice B1 n1 k1) := hB.cell 2
    have z3 : W.cell? ⟨w.heap.size + 1, 3, none⟩ = some (.slice B2 n2 k2) := hB.cell 3
    have z4 : W.cell? ⟨w.heap.size + 1, 4, none⟩ = some (.slice B3 n3 k3) := hB.cell 4
    refine hK _ _ ?_
    refine wp_ret ?_
    refine bodyPost_ret (v := .agg #[.int .i64 m, .slice B0 n0 k0, .slice B1 n1 k1, .slice B2 n2 k2, .slice B3 n3 k3]) (by simp [results, Tryd.results94, go_sem, t2, z0, z1, z2, z3, z4]; try rfl) S.df ?_
    exact ⟨B0, k0, B1, k1, B2, k2, B3, k3, rfl, ⟨m0, m1, m2, m3⟩, S.bl⟩
  · have hfa : ∀ j, j < 20 → (Array.replicate 20 false).getD j false = true → False := fun j hj e => by
      rw [Array.getD_eq_getD_getElem?, Array.getElem?_replicate, if_pos hj] at e
      cases e
    have hB2 : Below w.heap.size w ((w.alloc (.cells #[.int .i64 m, .slice A0 n0 c0, .slice A1 n1 c1, .slice A2 n2 c2, .slice A3 n3 c3] 52)).alloc (.cells #[.int .i64 0, .slice none 0 0, .slice none 0 0, .slice none 0 0, .slice none 0 0] 52)) := (by repeat' (first | (with_reducible exact Below.refl _ _) | (with_reducible assumption) | (with_reducible refine below_drewN ?_ _) | (with_reducible refine Below.drew ?_) | (with_reducible refine Below.alloc ?_ ?_ _) | (with_reducible refine Below.setCell ?_ ?_ _) | go_size))
    have hS2 : Blk ((w.alloc (.cells #[.int .i64 m, .slice A0 n0 c0, .slice A1 n1 c1, .slice A2 n2 c2, .slice A3 n3 c3] 52)).alloc (.cells #[.int .i64 0, .slice none 0 0, .slice none 0 0, .slice none 0 0, .slice none 0 0] 52)) (w.heap.size + 1) 52 #[.int .i64 0, .slice none 0 0, .slice none 0 0, .slice none 0 0, .slice none 0 0] := by
      have h := Blk.new (w.alloc (.cells #[.int .i64 m, .slice A0 n0 c0, .slice A1 n1 c1, .slice A2 n2 c2, .slice A3 n3 c3] 52)) 52 #[.int .i64 0, .slice none 0 0, .slice none 0 0, .slice none 0 0, .slice none 0 0]
      rwa [World.size_alloc] at h
    exact { sz := by simp, df := rfl, ts := rfl, t1 := rfl, t2 := rfl, kp := (Blk.new w _ _).alloc _, bl := hB2.drew, gz := by simp, st := fun _ => hS2,
            f0 := fun e => (hfa _ (by omega) e).elim, f1 := fun e => (hfa _ (by omega) e).elim, q1 := fun e => (hfa _ (by omega) e).elim, q2 := fun e => (hfa _ (by omega) e).elim, f18 := fun e => (hfa _ (by omega) e).elim, f19 := fun e => (hfa _ (by omega) e).elim,
            h0 := ⟨fun e => (hfa _ (by omega) e).elim, fun e => (hfa _ (by omega) e).elim, fun e => (hfa _ (by omega) e).elim, fun e => (hfa _ (by omega) e).elim⟩,
            h1 := ⟨fun e => (hfa _ (by omega) e).elim, fun e => (hfa _ (by omega) e).elim, fun e => (hfa _ (by omega) e).elim, fun e => (hfa _ (by omega) e).elim⟩,
            h2 := ⟨fun e => (hfa _ (by omega) e).elim, fun e => (hfa _ (by omega) e).elim, fun e => (hfa _ (by omega) e).elim, fun e => (hfa _ (by omega) e).elim⟩,
            h3 := ⟨fun e => (hfa _ (by omega) e).elim, fun e => (hfa _ (by omega) e).elim, fun e => (hfa _ (by omega) e).elim, fun e => (hfa _ (by omega) e).elim⟩ }

end Go.Proofs.YtfapdhfjcnehhaaDoor

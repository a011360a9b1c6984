
/-
  Nodes (laws.Node, impl.Node): a slice of structs that hold slices of integers; sizes, copies, equality.
-/
import Derived.Test.YtpfanhheodiamaaGreatDoorInts
import Derived.Test.YtpfanhheodiamaaGreatDoorChecked
import Derived.Outline
import Derived.Deep.Cut
namespace Go.Proofs.YtpfanhheodiamaaGreatDoor
open Go.RowKit Go.WideShapes Go.ChangeShapes Go.Joins Go.Deep
set_option linter.unusedVariables false

/-- A node as it lies in memory, with the integers its slice reads as. -/
structure Nd where
  kind : Int
  text : ByteArray
  adr : Option Addr
  cnt : Nat
  cap : Nat
  kids : List Int
  blank : Bool
/-- A node in plain words. -/
structure PN where
  kind : Int
  text : ByteArray
  kids : List Int
  blank : Bool
def Nd.pn (d : Nd) : PN := ⟨d.kind, d.text, d.kids, d.blank⟩
def nodeCells (d : Nd) : List Value := [.int .i64 d.kind, .string d.text, .slice d.adr d.cnt d.cap, .bool d.blank]
theorem nodeCells_len (d : Nd) : (nodeCells d).length = 4 := rfl
def szNode (d : Nd) : Nat := d.text.size + d.cnt
def szNodeL (l : List Nd) : Nat := l.length + (l.map szNode).sum
def OkNode (d : Nd) : Prop := d.text.size ≤ maxLen ∧ d.cnt ≤ maxLen ∧ ∀ x ∈ d.kids, IntB x
/-- The slice at A of n elements reads as these nodes. -/
def Nds (w : World) (A : Option Addr) (n : Nat) (l : List Nd) : Prop :=
  l.length = n ∧ Rd w 4 A n (l.flatMap nodeCells) ∧ ∀ d ∈ l, Rd w 1 d.adr d.cnt (intCells d.kids)
/-- Block g is just these nodes; the kids of each lie in a block of their own. -/
def OwnNds (w : World) (t u : TypeId) (B g n : Nat) (l : List Nd) : Prop :=
  l.length = n ∧ B ≤ g ∧ Own w g t (n * 4) (l.flatMap nodeCells) ∧ ∀ d ∈ l, ∃ h, d.adr = some ⟨h, 0, none⟩ ∧ B ≤ h ∧ h ≠ g ∧ Own w h u d.cnt (intCells d.kids)
section
variable {w w' w2 : World} {A : Option Addr} {n k g B : Nat} {l : List Nd} {d : Nd} {o o' : Obj} {t u : TypeId}
theorem Nds.len (h : Nds w A n l) : l.length = n := h.1
theorem Nds.next (h : Nds w A n l) (hb : Below w.heap.size w w') : Nds w' A n l := ⟨h.1, h.2.1.next hb, fun d hd => (h.2.2 d hd).next hb⟩
theorem Nds.below (h : Nds w A n l) (hb : Below w.heap.size w w') : Nds w' A n l := h.next hb
theorem Nds.alloc (h : Nds w A n l) (o : Obj) : Nds (w.alloc o) A n l := ⟨h.1, h.2.1.alloc o, fun d hd => (h.2.2 d hd).alloc o⟩
theorem Nds.next1 (h : Nds w A n l) (hb : Below (w.alloc o).heap.size (w.alloc o) w') : Nds w' A n l := (h.alloc o).next hb
theorem Nds.next2 (h : Nds w A n l) (hb : Below ((w.alloc o).alloc o').heap.size ((w.alloc o).alloc o') w') : Nds w' A n l := ((h.alloc o).alloc o').next hb
theorem Nds.drewN (h : Nds w A n l) (k : Nat) : Nds (w.drewN k) A n l := h
theorem Nds.drew (h : Nds w A n l) : Nds w.drew A n l := h
theorem rd1_len {xs : List Int} {m : Nat} (h : Rd w 1 A m (intCells xs)) : xs.length = m := by have := h.1; simpa [intCells] using this
theorem Nds.cnt (h : Nds w A n l) (hd : d ∈ l) : d.kids.length = d.cnt := rd1_len (h.2.2 d hd)
theorem Nds.get (h : Nds w A n l) (hk : k < n) : ∃ d, l[k]? = some d := ⟨_, List.getElem?_eq_getElem (by have := h.1; omega)⟩
theorem Nds.at_ (h : Nds w A n l) (hk : k < n) (hd : l[k]? = some d) :
    ∃ b off, A = some ⟨b, off, none⟩ ∧ b < w.heap.size ∧ w.cell? ⟨b, off + k * 4, none⟩ = some (.int .i64 d.kind) ∧ w.cell? ⟨b, off + k * 4 + 1, none⟩ = some (.string d.text) ∧ w.cell? ⟨b, off + k * 4 + 2, none⟩ = some (.slice d.adr d.cnt d.cap) ∧ w.cell? ⟨b, off + k * 4 + 3, none⟩ = some (.bool d.blank) := by
  obtain ⟨b, off, e, hb, hc⟩ := h.2.1.at_ (by omega)
  exact ⟨b, off, e, hb, hc _ _ (flat_get nodeCells nodeCells_len hd (j := 0) rfl), hc _ _ (flat_get nodeCells nodeCells_len hd (j := 1) rfl), hc _ _ (flat_get nodeCells nodeCells_len hd (j := 2) rfl), hc _ _ (flat_get nodeCells nodeCells_len hd (j := 3) rfl)⟩
theorem Nds.kids (h : Nds w A n l) (hd : l[k]? = some d) : Rd w 1 d.adr d.cnt (intCells d.kids) := h.2.2 d (List.mem_of_getElem? hd)
theorem OwnNds.next (h : OwnNds w t u B g n l) (hb : Below w.heap.size w w') : OwnNds w' t u B g n l :=
  ⟨h.1, h.2.1, h.2.2.1.next hb, fun d hd => by obtain ⟨x, e, hx, hne, ho⟩ := h.2.2.2 d hd; exact ⟨x, e, hx, hne, ho.next hb⟩⟩
theorem OwnNds.alloc (h : OwnNds w t u B g n l) (o : Obj) : OwnNds (w.alloc o) t u B g n l := h.next ((Below.refl _ _).alloc (Nat.le_refl _) o)
theorem OwnNds.next1 (h : OwnNds w t u B g n l) (hb : Below (w.alloc o).heap.size (w.alloc o) w') : OwnNds w' t u B g n l := (h.alloc o).next hb
theorem OwnNds.next2 (h : OwnNds w t u B g n l) (hb : Below ((w.alloc o).alloc o').heap.size ((w.alloc o).alloc o') w') : OwnNds w' t u B g n l := ((h.alloc o).alloc o').next hb
theorem OwnNds.nds (h : OwnNds w t u B g n l) (hc : ∀ d ∈ l, d.kids.length = d.cnt) : Nds w (some ⟨g, 0, none⟩) n l :=
  ⟨h.1, h.2.2.1.rd (by rw [flat_len nodeCells nodeCells_len, h.1]), fun d hd => by
    obtain ⟨x, e, _, _, ho⟩ := h.2.2.2 d hd
    rw [e]
    exact ho.rd (by rw [intCells, List.length_map, hc d hd]; omega)⟩
end

section
variable {H : Type} {enc : TypeId × Value → H} {W : World} {base : Nat} {v : Value} {d : DataW H} {p : List MemPlace} {hd : Bool}
theorem cellsNodeE : Tryz.prog.cellsOf 40 = 4 := by kernel_rfl
set_option maxRecDepth 100000 in
theorem open_nodes_cells {cs : List Value} {fuel : Nat} {x : DataW H × List MemPlace} (hf : DataW.trod enc Tryz.prog W 0 (fun _ => true) hd fuel 22 cs = some x) :
    ∃ (A : Option Addr) (n c : Nat) (l : List Nd), cs = [.slice A n c] ∧ (n ≤ maxLen ∧ Nds W A n l ∧ ∀ d ∈ l, OkNode d) := by
  rcases open_slice_fields Tryz.underlying22 Tryz.underlying40 (by kernel_rfl) cellsNodeE hf with ⟨h1, _⟩ | ⟨a, n, c, m, D, Pl, h1, _, hle, hmax, hm, hx, hi⟩
  · exact ⟨none, 0, 0, [], h1, Nat.zero_le _, ⟨rfl, Rd.none_ _ _ _, fun d hd => by cases hd⟩, fun d hd => by cases hd⟩
  · have key : ∀ i, i < n → ∃ d : Nd, (OkNode d ∧ Rd W 1 d.adr d.cnt (intCells d.kids)) ∧ ∀ j v, (nodeCells d)[j]? = some v → W.cell? (a.add (i * 4 + j)) = some v := by
      intro i hin
      obtain ⟨ys, nn, _, _, _, hfl⟩ := hi i (by simp at hm; omega)
      obtain ⟨v0, y0, g0, _, t0⟩ := hfl 0 _ rfl
      obtain ⟨x0, e0, _, o0⟩ := DataW.trod_int Tryz.underlying3 t0
      obtain ⟨v1, y1, g1, _, t1⟩ := hfl 1 _ rfl
      obtain ⟨x1, e1, _, o1⟩ := DataW.trod_string Tryz.underlying9 t1
      obtain ⟨v2, y2, g2, _, t2⟩ := hfl 2 _ rfl
      obtain ⟨A2, n2, c2, l2, e2, q21, q22, q23, q24⟩ := open_nums_cells t2
      obtain ⟨v3, y3, g3, _, t3⟩ := hfl 3 _ rfl
      obtain ⟨x3, e3, _⟩ := DataW.trod_bool Tryz.underlying4 t3
      simp only [List.cons.injEq, and_true] at e0 e1 e2 e3
      subst e0 e1 e2 e3
      refine ⟨⟨x0, x1, A2, n2, c2, l2, x3⟩, ⟨⟨o1, q22, q24⟩, q23⟩, fun j v hj => ?_⟩
      match j, hj with
      | 0, hj => obtain rfl := Option.some.inj hj; exact g0
      | 1, hj => obtain rfl := Option.some.inj hj; exact g1
      | 2, hj => obtain rfl := Option.some.inj hj; exact g2
      | 3, hj => obtain rfl := Option.some.inj hj; exact g3
      | j + 4, hj => simp [nodeCells] at hj
    obtain ⟨l, hl, hr, ho⟩ := rd_of_elems (W := W) (a := a) (n := n) nodeCells _ nodeCells_len (by omega) key
    exact ⟨some a, n, c, l, h1, by omega, ⟨hl, hr, fun d hd => (ho d hd).2⟩, fun d hd => (ho d hd).1⟩
set_option maxRecDepth 100000 in
theorem open_nodes (hv : Value.okWide Tryz.prog W .any base 22 v) (h : DataW.Trod enc Tryz.prog W 0 (fun _ => true) hd 22 v d p) :
    ∃ (A : Option Addr) (n c : Nat) (l : List Nd), v = .slice A n c ∧ (n ≤ maxLen ∧ Nds W A n l ∧ ∀ d ∈ l, OkNode d) := by
  obtain ⟨A, n, c, rfl⟩ := okWide_slice Tryz.underlying22 hv
  obtain ⟨fuel, hf⟩ := h
  obtain ⟨A', n', c', l, e, r⟩ := open_nodes_cells hf
  simp only [Value.cells, List.cons.injEq, Value.slice.injEq, and_true] at e
  obtain ⟨rfl, rfl, rfl⟩ := e
  exact ⟨_, _, _, l, rfl, r⟩
end

set_option maxHeartbeats 400000 in
theorem szIntS_ok (A : Option Addr) (n c : Nat) (left : Int) (w : World) (hl1 : left ≤ 1048576) (hle : (n : Int) ≤ left) :
    Calls Tryz.prog 43 #[.slice A n c, .int .i64 left] w fun e w' => e = .returned (.int .i64 (left - n)) ∧ Below w.heap.size w w' := by
  have g0 : (0 : Int) ≤ left - n := by omega
  go_enter Tryz.func43, Tryz.ntmps43
  go_wp2
  go_ret
  exact ⟨rfl, (by repeat' (first | (with_reducible exact Below.refl _ _) | (with_reducible assumption) | (with_reducible refine below_drewN ?_ _) | (with_reducible refine Below.drew ?_) | (with_reducible refine Below.alloc ?_ ?_ _) | (with_reducible refine Below.setCell ?_ ?_ _) | go_size))⟩
set_option maxHeartbeats 400000 in
theorem szIntS_big (A : Option Addr) (n c : Nat) (left : Int) (w : World) (hl0 : 0 ≤ left) (hl1 : left ≤ 1048576) (h0 : n ≤ maxLen) (hle : left < n) :
    Calls Tryz.prog 43 #[.slice A n c, .int .i64 left] w fun e w' => e = .returned (.int .i64 (-1)) ∧ Below w.heap.size w w' := by
  unfold maxLen at h0
  go_enter Tryz.func43, Tryz.ntmps43
  go_wp2
  go_ret
  exact ⟨rfl, (by repeat' (first | (with_reducible exact Below.refl _ _) | (with_reducible assumption) | (with_reducible refine below_drewN ?_ _) | (with_reducible refine Below.drew ?_) | (with_reducible refine Below.alloc ?_ ?_ _) | (with_reducible refine Below.setCell ?_ ?_ _) | go_size))⟩
set_option maxHeartbeats 400000 in
theorem szNode_ok (d : Nd) (left : Int) (w : World) (hl1 : left ≤ 1048576) (hle : (szNode d : Nat) ≤ left) :
    Calls Tryz.prog 18 #[.agg #[.int .i64 d.kind, .string d.text, .slice d.adr d.cnt d.cap, .bool d.blank], .int .i64 left] w fun e w' => e = .returned (.int .i64 (left - (szNode d : Nat))) ∧ Below w.heap.size w w' := by
  obtain ⟨x0, x1, A, n, c, ks, x3⟩ := d
  have hs : szNode ⟨x0, x1, A, n, c, ks, x3⟩ = x1.size + n := rfl
  rw [hs] at hle ⊢
  clear hs
  rw [show left - ((x1.size + n : Nat) : Int) = left - x1.size - n by omega]
  have g0 : (0 : Int) ≤ left - x1.size := by omega
  have g1 : (0 : Int) ≤ left - x1.size - n := by omega
  have g2 : left - x1.size ≤ 1048576 := by omega
  have g3 : (n : Int) ≤ left - x1.size := by omega
  go_enter Tryz.func18, Tryz.ntmps18
  go_wp2_with fail
  refine (szIntS_ok _ _ _ _ _ g2 g3).mono ?_
  rintro e w2 ⟨rfl, h2⟩
  replace h2 := below_box h2
  go_wp2
  go_ret
  exact ⟨rfl, (by repeat' (first | (with_reducible exact Below.refl _ _) | (with_reducible assumption) | (with_reducible refine below_drewN ?_ _) | (with_reducible refine Below.drew ?_) | (with_reducible refine Below.alloc ?_ ?_ _) | (with_reducible refine Below.setCell ?_ ?_ _) | go_size))⟩
set_option maxHeartbeats 400000 in
theorem szNode_big (d : Nd) (left : Int) (w : World) (hl0 : 0 ≤ left) (hl1 : left ≤ 1048576) (h0 : d.text.size ≤ maxLen) (h1 : d.cnt ≤ maxLen) (hle : left < (szNode d : Nat)) :
    Calls Tryz.prog 18 #[.agg #[.int .i64 d.kind, .string d.text, .slice d.adr d.cnt d.cap, .bool d.blank], .int .i64 left] w fun e w' => e = .returned (.int .i64 (-1)) ∧ Below w.heap.size w w' := by
  obtain ⟨x0, x1, A, n, c, ks, x3⟩ := d
  have hs : szNode ⟨x0, x1, A, n, c, ks, x3⟩ = x1.size + n := rfl
  rw [hs] at hle
  clear hs
  dsimp only at h0 h1 ⊢
  have h1' := h1
  unfold maxLen at h0 h1'
  by_cases g0 : left < x1.size
  · go_enter Tryz.func18, Tryz.ntmps18
    go_wp2
    go_ret
    exact ⟨rfl, (by repeat' (first | (with_reducible exact Below.refl _ _) | (with_reducible assumption) | (with_reducible refine below_drewN ?_ _) | (with_reducible refine Below.drew ?_) | (with_reducible refine Below.alloc ?_ ?_ _) | (with_reducible refine Below.setCell ?_ ?_ _) | go_size))⟩
  · have g1 : (0 : Int) ≤ left - x1.size := by omega
    have g2 : left - x1.size ≤ 1048576 := by omega
    have g3 : left - x1.size < (n : Int) := by omega
    go_enter Tryz.func18, Tryz.ntmps18
    go_wp2_with fail
    refine (szIntS_big _ _ _ _ _ g1 g2 h1 g3).mono ?_
    rintro e w2 ⟨rfl, h2⟩
    replace h2 := below_box h2
    go_wp2
    go_ret
    exact ⟨rfl, (by repeat' (first | (with_reducible exact Below.refl _ _) | (with_reducible assumption) | (with_reducible refine below_drewN ?_ _) | (with_reducible refine Below.drew ?_) | (with_reducible refine Below.alloc ?_ ?_ _) | (with_reducible refine Below.setCell ?_ ?_ _) | go_size))⟩
end Go.Proofs.YtpfanhheodiamaaGreatDoor

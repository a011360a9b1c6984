/-
  Put together by program (shake.py): MkA, MkB, CopyN, MarkN, MarkR, SoA, SoB, SoC, SoD, Dec, LaidU.
-/
import Derived.Test.YtgaajcbklkchjaaGreatDoorMtB
import Derived.Outline
import Derived.Deep.DeepCutAuto
import Derived.Deep.AppendLies
import Derived.Deep.RegionLaw
import Derived.Test.YtgaajcbklkchjaaGreatDoorMtE
import Derived.Laws.AppendOwnNone
import Derived.Deep.LoopGhost
import Derived.Deep.RegionWith
import Derived.Sort.LotA
import Derived.Shelf.SlSortCmp.InsertionK
import Derived.Lib.SmallJoins
import Derived.Lib.AppendIntMem
import Derived.Lib.ItoaLen
import Derived.DataShut
set_option maxRecDepth 100000
set_option maxHeartbeats 25600000
set_option linter.unusedVariables false
set_option linter.unusedSimpArgs false
open Go.Lib (hid)
open Go.Proofs.Tryz
namespace Go.Proofs.YtgaajcbklkchjaaGreatDoor
open Go.RowKit
structure MC where
 imp : Bool
 T : Nat
 ty : TypeId
 cs : Int → Value → Array Value
 i : Nat
 w0 : World
 U : Nat → Prop
structure MC.Ok (R : MC) : Prop where
 low : R.imp = true → R.w0.heap.size ≤ R.T
 set : ∀ q v v', (R.cs q v).setIfInBounds R.i v' = R.cs q v'
 tyN : R.imp = true → R.ty ≠ 48
 tyI : R.imp = true → R.ty ≠ 3
def Ke (R : MC) (row : Option Nat) (w : World) (row' : Option Nat) (w' : World) : Prop :=
 w.heap.size ≤ w'.heap.size ∧ (row' = row ∨ ∃ g, row' = some g ∧ w.heap.size ≤ g) ∧ ∀ g, g < w.heap.size → (R.imp = true → g ≠ R.T) → some g ≠ row → w'.heap[g]? = w.heap[g]?
section
variable {R : MC} {row row' row2 : Option Nat} {w w' w2 : World}
theorem Ke.refl (R : MC) (row : Option Nat) (w : World) : Ke R row w row w := ⟨Nat.le_refl _, .inl rfl, fun _ _ _ _ => rfl⟩
theorem Ke.trans (h : Ke R row w row' w') (k : Ke R row' w' row2 w2) : Ke R row w row2 w2 := by
 obtain ⟨h1, h2, h3⟩ := h
 obtain ⟨k1, k2, k3⟩ := k
 refine ⟨Nat.le_trans h1 k1, ?_, fun g hg ht hr => ?_⟩
 ·rcases k2 with rfl | ⟨g, rfl, hg⟩
  ·exact h2
  ·exact .inr ⟨g, rfl, Nat.le_trans h1 hg⟩
 ·refine (k3 g (by omega) ht ?_).trans (h3 g hg ht hr)
  rcases h2 with rfl | ⟨g2, rfl, hg2⟩
  ·exact hr
  ·intro e; injection e with e; omega
theorem Ke.below (h : Ke R row w row' w') (hb : Below w'.heap.size w' w2) : Ke R row w row' w2 :=
 h.trans ⟨hb.size, .inl rfl, fun g hg _ _ => hb.block g hg⟩
theorem Ke.of_below (hb : Below w.heap.size w w2) : Ke R row w row w2 := (Ke.refl R row w).below hb
theorem Blk.ke {g : Nat} {t : TypeId} {cs : Array Value} (h : Blk w g t cs) (k : Ke R row w row' w') (h1 : R.imp = true → g ≠ R.T) (h2 : some g ≠ row) : Blk w' g t cs := (k.2.2 g h.lt h1 h2).trans h
theorem Ke.fresh (k : Ke R row w row' w') {g : Nat} (h : some g ≠ row) (hg : g < w.heap.size) : some g ≠ row' := by
 rcases k.2.1 with rfl | ⟨g2, rfl, h2⟩
 ·exact h
 ·intro e; injection e with e; omega
theorem Ke.grown {r : Option Nat} {w3 : World} (h : Ke R row w row' w') (hg : w'.grownBy w3 r) (hr : ∀ g, r = some g → w.heap.size ≤ g) : Ke R row w row' w3 :=
 ⟨Nat.le_trans h.1 hg.size, h.2.1, fun g hgl ht hrow => (hg.block g (Nat.lt_of_lt_of_le hgl h.1) (fun e => by have := hr g e.symm; omega)).trans (h.2.2 g hgl ht hrow)⟩
end
def MkC (R : MC) (q : Int) (V : Value) (AN : Option Addr) (cN : Nat) (l : List Nd) (w : World) : Prop :=
 (R.imp = true → Blk w R.T R.ty (R.cs q V)) ∧ Mine w R.w0.heap.size 48 4 AN l.length cN (l.flatMap nodeCells) ∧ ((∀ x ∈ l, KidsIn w R.w0.heap.size R.U x) ∧ (∀ g, R.U g → g < w.heap.size) ∧ l.Pairwise ApartR) ∧ Below R.w0.heap.size R.w0 w ∧ R.Ok
section
variable {R : MC} {q : Int} {V : Value} {AN : Option Addr} {cN : Nat} {l : List Nd} {row row' : Option Nat} {w w' : World}
theorem MkC.next (h : MkC R q V AN cN l w) (hb : Below w.heap.size w w') : MkC R q V AN cN l w' := by
 obtain ⟨h1, h2, h3, h4, h5⟩ := h
 exact ⟨fun hi => (h1 hi).next hb, h2.next hb, ⟨fun x hx => (h3.1 x hx).next hb, fun g hg => Nat.lt_of_lt_of_le (h3.2.1 g hg) hb.size, h3.2.2⟩, below_next h4 hb, h5⟩
theorem MkC.alloc (h : MkC R q V AN cN l w) (o : Obj) : MkC R q V AN cN l (w.alloc o) := h.next ((Below.refl _ _).alloc (Nat.le_refl _) o)
theorem MkC.drew (h : MkC R q V AN cN l w) : MkC R q V AN cN l w.drew := h.next (Below.refl _ _).drew
theorem MkC.lt (h : MkC R q V AN cN l w) (hi : R.imp = true) : R.T < w.heap.size := (h.1 hi).lt
theorem MkC.old (h : MkC R q V AN cN l w) : Below R.w0.heap.size R.w0 w := h.2.2.2.1
theorem MkC.rowB (h : MkC R q V AN cN l w) {g : Nat} (hg : some g = AN.map (·.block)) : ∃ cs, Blk w g 48 cs := mine_blk' h.2.1 hg.symm
theorem MkC.row_lt (h : MkC R q V AN cN l w) {g : Nat} (hg : some g = AN.map (·.block)) : g < w.heap.size := by obtain ⟨cs, hk⟩ := h.rowB hg; exact hk.lt
theorem MkC.kids_lt (h : MkC R q V AN cN l w) {x : Nd} (hx : x ∈ l) {g : Nat} (hg : x.adr.map (·.block) = some g) : g < w.heap.size := (Mine.blk (h.2.2.1.1 x hx).2 hg).2
theorem MkC.keepB (h : MkC R q V AN cN l w) (k : Ke R (AN.map (·.block)) w row' w') {g : Nat} {t : TypeId} {cs : Array Value} (hk : Blk w g t cs) (h1 : R.imp = true → t ≠ R.ty) (h2 : t ≠ 48) : Blk w' g t cs := by
 refine hk.ke k (fun hi => blk_ne hk (h.1 hi) (h1 hi)) (fun e => ?_)
 obtain ⟨cs', hk'⟩ := h.rowB e
 exact blk_ne hk hk' h2 rfl
theorem MkC.keepI (h : MkC R q V AN cN l w) (k : Ke R (AN.map (·.block)) w row' w') {B : Nat} {A : Option Addr} {n c : Nat} {xs : List Value} (hm : Mine w B 3 1 A n c xs) : Mine w' B 3 1 A n c xs := by
 have hl := hm.len
 rcases hm.own with ⟨rfl, rfl, rfl⟩ | ⟨g, rfl, hB, hn, hc, rest, hb, hs⟩
 ·exact ⟨hl, .inl ⟨rfl, rfl⟩⟩
 ·exact Mine.mk_own ⟨rest, h.keepB k hb (fun hi => Ne.symm (h.2.2.2.2.tyI hi)) (by decide), hs⟩ hl hB hn hc
theorem MkC.setAt (h : MkC R q V AN cN l w) (hi : R.imp = true) {j : Nat} {u : Value} {q' : Int} {V' : Value} (he : (R.cs q V).setIfInBounds j u = R.cs q' V') : MkC R q' V' AN cN l (w.setCell ⟨R.T, j, none⟩ u) ∧ Ke R row w row (w.setCell ⟨R.T, j, none⟩ u) := by
 obtain ⟨h1, h2, h3, h4, h5⟩ := h
 have hb := h1 hi
 refine ⟨⟨fun _ => ?_, mine_set h2 hb (Ne.symm (h5.tyN hi)) _ _, ⟨fun x hx => ⟨(h3.1 x hx).1, mine_set (h3.1 x hx).2 hb (Ne.symm (h5.tyI hi)) _ _⟩, fun g hg => by simpa [World.setCell] using h3.2.1 g hg, h3.2.2⟩, h4.setCell (h5.low hi) _, h5⟩, ?_⟩
 ·have := hb.set_ j u
  rw [he] at this
  exact this
 ·exact ⟨by simp [World.setCell], .inl rfl, fun g hg ht _ => Below.heap_setCell w ⟨R.T, j, none⟩ _ g (ht hi)⟩
theorem MkC.set (h : MkC R q V AN cN l w) (hi : R.imp = true) (V' : Value) : MkC R q V' AN cN l (w.setCell ⟨R.T, R.i, none⟩ V') ∧ Ke R row w row (w.setCell ⟨R.T, R.i, none⟩ V') := h.setAt hi (h.2.2.2.2.set q V V')
theorem MkC.push (h : MkC R q V AN cN l w) (x : Nd) (hx : KidsIn w R.w0.heap.size R.U x) (hap : ∀ y ∈ l, ApartR y x) {w1 : World} (hw1 : Below w.heap.size w w1) {v' : Value} {w3 : World}
  (hown : w3.ownsRow R.w0.heap.size 48 4 v' (l.length + 1) (l.flatMap nodeCells ++ nodeCells x)) (hg : w1.grownBy w3 (Value.slice AN l.length cN).ownBlock) (hwh : v'.ownBlock = (Value.slice AN l.length cN).ownBlock ∨ v'.ownBlock = some w1.heap.size) :
  ∃ A3 c3, v' = .slice A3 (l.length + 1) c3 ∧ MkC R q V A3 c3 (l ++ [x]) w3 ∧ Ke R (AN.map (·.block)) w (A3.map (·.block)) w3 := by
 have hC := h.next hw1
 obtain ⟨h1, h2, h3, h6, h7⟩ := hC
 rw [ownBlk] at hg hwh
 have hof : ∀ g t cs, Blk w1 g t cs → t ≠ 48 → some g ≠ AN.map (·.block) := fun g t cs hk ht e => by
  obtain ⟨cs', hk'⟩ := mine_blk' h2 e.symm
  exact blk_ne hk hk' ht rfl
 have hk3 : ∀ (y : Nd), KidsIn w1 R.w0.heap.size R.U y → KidsIn w3 R.w0.heap.size R.U y := fun y hy => by
  refine ⟨hy.1, ?_⟩
  have hl2 := hy.2.len
  rcases hy.2.own with ⟨e1, e2, e3⟩ | ⟨g', e1, hB, hn, hc, rest, hb', hs⟩
  ·rw [e1, e2, e3]; exact ⟨by rw [hl2, e2], .inl ⟨rfl, rfl⟩⟩
  ·rw [e1]; exact Mine.mk_own ⟨rest, hb'.grown hg (hof _ _ _ hb' (by decide)), hs⟩ hl2 hB hn hc
 obtain ⟨A3, c3, rfl, m3⟩ := Mine.of hown
 rw [ownBlk] at hwh
 have hll : (l ++ [x]).length = l.length + 1 := by simp
 have hff : (l ++ [x]).flatMap nodeCells = l.flatMap nodeCells ++ nodeCells x := by simp
 have hbw3 : Below R.w0.heap.size R.w0 w3 := h6.grown hg h6.size (fun g hgg => (Mine.blk h2 hgg).1)
 refine ⟨A3, c3, rfl, ⟨fun hi => (h1 hi).grown hg (hof _ _ _ (h1 hi) (h7.tyN hi)), ?_, ?_, hbw3, h7⟩, ?_⟩
 ·rw [hll, hff]; exact m3
 ·refine ⟨fun y hy => ?_, fun g hg2 => by have := h3.2.1 g hg2; have := hg.size; omega, List.pairwise_append.2 ⟨h3.2.2, List.pairwise_singleton _ _, fun y hy z hz => by obtain rfl := List.mem_singleton.1 hz; exact hap y hy⟩⟩
  rcases List.mem_append.1 hy with hy | hy
  ·exact hk3 y (h3.1 y hy)
  ·obtain rfl := List.mem_singleton.1 hy
   exact hk3 y (hx.next hw1)
 ·refine ⟨Nat.le_trans hw1.size hg.size, ?_, fun g hgl ht hr => ?_⟩
  ·rcases hwh with e | e
   ·exact .inl e
   ·exact .inr ⟨_, e, hw1.size⟩
  ·rw [hg.block g (Nat.lt_of_lt_of_le hgl hw1.size) hr, hw1.block g hgl]
end
abbrev MC.res (R : MC) (A : Option Addr) : MC := { R with U := fun x => R.U x ∨ A.map (·.block) = some x }
theorem MC.Ok.res {R : MC} (h : R.Ok) (A : Option Addr) : (R.res A).Ok := ⟨h.low, h.set, h.tyN, h.tyI⟩
theorem MC.Ok.unres {R : MC} {A : Option Addr} (h : (R.res A).Ok) : R.Ok := ⟨h.low, h.set, h.tyN, h.tyI⟩
section
variable {R : MC} {q : Int} {V : Value} {AN : Option Addr} {cN : Nat} {l : List Nd} {row row' : Option Nat} {w w' : World} {A : Option Addr}
theorem MkC.res_new (h : MkC R q V AN cN l w) (hb : Below w.heap.size w w') (hA : ∀ g, A.map (·.block) = some g → w.heap.size ≤ g ∧ g < w'.heap.size) : MkC (R.res A) q V AN cN l w' := by
 have hk : ∀ x ∈ l, ∀ g, x.adr.map (·.block) = some g → g < w.heap.size := fun x hx g hg => h.kids_lt hx hg
 obtain ⟨c1, c2, c3, c6, c7⟩ := h.next hb
 refine ⟨c1, c2, ⟨fun x hx => ⟨⟨(c3.1 x hx).1.1, fun g hg hu => ?_⟩, (c3.1 x hx).2⟩, fun g hg => ?_, c3.2.2⟩, c6, c7.res A⟩
 ·rcases hu with hu | hu
  ·exact (c3.1 x hx).1.2 g hg hu
  ·have := hk x hx g hg
   have := (hA g hu).1
   omega
 ·rcases hg with hg | hg
  ·exact c3.2.1 g hg
  ·exact (hA g hg).2
theorem MkC.res_none (h : MkC R q V AN cN l w) : MkC (R.res none) q V AN cN l w := h.res_new (Below.refl _ _) (fun g e => by cases e)
theorem MkC.unres (h : MkC (R.res A) q V AN cN l w) : MkC R q V AN cN l w := by
 obtain ⟨c1, c2, c3, c6, c7⟩ := h
 exact ⟨c1, c2, ⟨fun x hx => ⟨⟨(c3.1 x hx).1.1, fun g hg hu => (c3.1 x hx).1.2 g hg (.inl hu)⟩, (c3.1 x hx).2⟩, fun g hg => c3.2.1 g (.inl hg), c3.2.2⟩, c6, c7.unres⟩
theorem MkC.appended {w1 w3 : World} {B n n' c : Nat} {xs ys : List Value} {v' : Value} (hc : MkC (R.res A) q V AN cN l w) (hm : Mine w B 3 1 A n c xs) (hB : R.w0.heap.size ≤ B) (hw1 : Below w.heap.size w w1)
  (hown : w3.ownsRow B 3 1 v' n' ys) (hg : w1.grownBy w3 (Value.slice A n c).ownBlock) (hwh : v'.ownBlock = (Value.slice A n c).ownBlock ∨ v'.ownBlock = some w1.heap.size) :
  ∃ A' c', v' = .slice A' n' c' ∧ MkC (R.res A') q V AN cN l w3 ∧ Mine w3 B 3 1 A' n' c' ys := by
 obtain ⟨A', c', rfl, m3⟩ := Mine.of hown
 rw [ownBlk] at hg hwh
 rw [ownBlk] at hwh
 have hk : ∀ x ∈ l, ∀ g, x.adr.map (·.block) = some g → g < w.heap.size := fun x hx g hg => hc.kids_lt hx hg
 have hm1 := hm.next hw1
 obtain ⟨c1, c2, c3, c6, c7⟩ := hc.next hw1
 have hne : ∀ g t cs, Blk w1 g t cs → t ≠ 3 → some g ≠ A.map (·.block) := fun g t cs hk ht e => by
  obtain ⟨cs', hk'⟩ := mine_blk' hm1 e.symm
  exact blk_ne hk hk' ht rfl
 have hfar : ∀ g, A.map (·.block) = some g → B ≤ g := fun g hgg => (Mine.blk hm hgg).1
 refine ⟨A', c', rfl, ⟨fun hi => (c1 hi).grown hg (hne _ _ _ (c1 hi) (c7.tyI hi)), ?_, ⟨fun x hx => ⟨⟨(c3.1 x hx).1.1, fun g hg hu => ?_⟩, ?_⟩, fun g hgu => ?_, c3.2.2⟩, ?_, c7.unres.res A'⟩, m3⟩
 ·have hl2 := c2.len
  rcases c2.own with ⟨e1, e2, e3⟩ | ⟨g', e1, hB', hn, hcc, rest, hb', hs⟩
  ·rw [e1, e2, e3]; exact ⟨by rw [hl2, e2], .inl ⟨rfl, rfl⟩⟩
  ·rw [e1]; exact Mine.mk_own ⟨rest, hb'.grown hg (hne _ _ _ hb' (by decide)), hs⟩ hl2 hB' hn hcc
 ·rcases hu with hu | hu
  ·exact (c3.1 x hx).1.2 g hg (.inl hu)
  ·rcases hwh with e | e
   ·exact (c3.1 x hx).1.2 g hg (.inr (by rw [← e]; exact hu))
   ·have := hk x hx g hg
    rw [hu] at e
    injection e with e
    have := hw1.size
    omega
 ·have hy := (c3.1 x hx)
  have hl2 := hy.2.len
  rcases hy.2.own with ⟨e1, e2, e3⟩ | ⟨g', e1, hB', hn, hcc, rest, hb', hs⟩
  ·rw [e1, e2, e3]; exact ⟨by rw [hl2, e2], .inl ⟨rfl, rfl⟩⟩
  ·rw [e1]
   refine Mine.mk_own ⟨rest, hb'.grown hg (fun e => ?_), hs⟩ hl2 hB' hn hcc
   exact hy.1.2 g' (by rw [e1]; rfl) (.inr e.symm)
 ·rcases hgu with hgu | hgu
  ·have := c3.2.1 g (.inl hgu); have := hg.size; omega
  ·exact (Mine.blk m3 hgu).2
 ·exact c6.grown hg c6.size (fun g hgg => Nat.le_trans hB (hfar g hgg))
theorem MkC.nr (h : MkC R q V AN cN l w) : NR w R.w0.heap.size w.heap.size AN l.length cN l :=
 ⟨rfl, h.2.1, fun g hg => (Mine.blk h.2.1 hg).2, fun d hd => ⟨(h.2.2.1.1 d hd).1.1, (h.2.2.1.1 d hd).2, fun g hg => (Mine.blk (h.2.2.1.1 d hd).2 hg).2⟩, h.2.2.1.2.2⟩
theorem MkC.apart (h : MkC (R.res A) q V AN cN l w) {x : Nd} (hx : x.adr = A) : ∀ y ∈ l, ApartR y x := fun y hy g hg e => (h.2.2.1.1 y hy).1.2 g hg (.inr (by rw [← hx]; exact e))
end
section
variable {R : MC} {q : Int} {V : Value} {AN : Option Addr} {cN : Nat} {l : List Nd} {row row' : Option Nat} {w w' : World} {A : Option Addr}
theorem MkC.blk3 (h : MkC R q V AN cN l w) (hi : R.imp = true) {w1 w3 : World} (hw1 : Below w.heap.size w w1) (hg : w1.grownBy w3 (Value.slice AN l.length cN).ownBlock) : Blk w3 R.T R.ty (R.cs q V) := by
 have h2 := h.next hw1
 rw [ownBlk] at hg
 exact (h2.1 hi).grown hg (fun e => by
  obtain ⟨cs', hk'⟩ := mine_blk' h2.2.1 e.symm
  exact blk_ne (h2.1 hi) hk' (h2.2.2.2.2.tyN hi) rfl)
theorem MkC.pushSet {x : Nd} (h : MkC (R.res x.adr) q V AN cN l w) (hi : R.imp = true) (hx : KidsIn w R.w0.heap.size R.U x) {w1 : World} (hw1 : Below w.heap.size w w1) {v' : Value} {w3 : World}
  (hown : w3.ownsRow R.w0.heap.size 48 4 v' (l.length + 1) (l.flatMap nodeCells ++ nodeCells x)) (hg : w1.grownBy w3 (Value.slice AN l.length cN).ownBlock) (hwh : v'.ownBlock = (Value.slice AN l.length cN).ownBlock ∨ v'.ownBlock = some w1.heap.size) :
  ∃ A3 c3, v' = .slice A3 (l.length + 1) c3 ∧ MkC R q v' A3 c3 (l ++ [x]) (w3.setCell ⟨R.T, R.i, none⟩ v') ∧ Ke R (AN.map (·.block)) w (A3.map (·.block)) (w3.setCell ⟨R.T, R.i, none⟩ v') := by
 obtain ⟨A3, c3, e, hc, hk⟩ := (h.unres).push x hx (h.apart rfl) hw1 hown hg hwh
 obtain ⟨hc2, hk2⟩ := hc.set (row := A3.map (·.block)) hi v'
 exact ⟨A3, c3, e, hc2, hk.trans hk2⟩
end
def mkCs (old clo : Value) (q : Int) (V : Value) : Array Value := #[old, V, clo]
def AddR (R : MC) (q : Int) (x : Nd) (AN : Option Addr) (l : List Nd) (w : World) (e : Ending) (w' : World) : Prop := ∃ A3 c3, e = .returned (.int .i64 (l.length : Int)) ∧ MkC R q (.slice A3 (l.length + 1) c3) A3 c3 (l ++ [x]) w' ∧ Ke R (AN.map (·.block)) w (A3.map (·.block)) w'
theorem mkAdd_any (R : MC) (hi : R.imp = true) (hty : R.ty = 114) (old clo : Value) (hcs : R.cs = mkCs old clo) (hi1 : R.i = 1) (q : Int) (AN : Option Addr) (cN : Nat) (l : List Nd) (x : Nd) (w : World)
  (hc0 : MkC (R.res x.adr) q (.slice AN l.length cN) AN cN l w) (hx : KidsIn w R.w0.heap.size R.U x) (hl : l.length ≤ 1000) :
  Calls prog 123 #[.pointer (some ⟨R.T, 0, none⟩), .agg #[.int .i64 x.kind, .string x.text, .slice x.adr x.cnt x.cap, .bool x.blank]] w (AddR R q x AN l w) := by
 have hbx : Below w.heap.size w (w.alloc (.cells #[.int .i64 x.kind, .string x.text, .slice x.adr x.cnt x.cap, .bool x.blank] 48)) := grow_
 obtain ⟨i0, hi0, hz0, hz1, hz2⟩ := info_parts infoNd
 have HI := hid (And.intro hi0 (And.intro hz0 (And.intro hz1 hz2)))
 have hc := hc0.next hbx
 have hT := hc.1 hi
 have cz := hT.lt
 have cf := hT.frozen
 have K := Blk.new w 48 #[.int .i64 x.kind, .string x.text, .slice x.adr x.cnt x.cap, .bool x.blank]
 have k0 := K.q0
 have k1 := K.q1
 have k2 := K.q2
 have k3 := K.q3
 have kz := K.lt
 have kf := K.frozen
 have c1 : (w.alloc (.cells #[.int .i64 x.kind, .string x.text, .slice x.adr x.cnt x.cap, .bool x.blank] 48)).cell? ⟨R.T, 1, none⟩ = some (.slice AN l.length cN) := by
  have := hT.cell 1
  rw [this]
  show (R.cs q (.slice AN l.length cN))[1]? = _
  rw [hcs]; rfl
 have HP := hid (fun (v' : Value) (w3 : World) h1 h2 h3 => hc0.pushSet hi hx (w1 := (w.alloc (.cells #[.int .i64 x.kind, .string x.text, .slice x.adr x.cnt x.cap, .bool x.blank] 48)).alloc (.cells #[.int .i64 x.kind, .string x.text, .slice x.adr x.cnt x.cap, .bool x.blank] 48)) (((Below.refl _ _).alloc (Nat.le_refl _) _).alloc (by simp) _) (v' := v') (w3 := w3) h1 h2 h3)
 have H3 := hid (fun (w3 : World) h => hc0.blk3 hi (w1 := (w.alloc (.cells #[.int .i64 x.kind, .string x.text, .slice x.adr x.cnt x.cap, .bool x.blank] 48)).alloc (.cells #[.int .i64 x.kind, .string x.text, .slice x.adr x.cnt x.cap, .bool x.blank] 48)) (w3 := w3) (((Below.refl _ _).alloc (Nat.le_refl _) _).alloc (by simp) _) h)
 have HM := hid (Mine.alloc hc.2.1 (.cells #[.int .i64 x.kind, .string x.text, .slice x.adr x.cnt x.cap, .bool x.blank] 48))
 have hbz : R.w0.heap.size ≤ ((w.alloc (.cells #[.int .i64 x.kind, .string x.text, .slice x.adr x.cnt x.cap, .bool x.blank] 48)).alloc (.cells #[.int .i64 x.kind, .string x.text, .slice x.adr x.cnt x.cap, .bool x.blank] 48)).heap.size := by
  have h7 : R.w0.heap.size ≤ w.heap.size := hc0.old.size
  simp only [World.size_alloc]; omega
 have HBZ := hid hbz
 have b1 : ∀ o, ((w.alloc (.cells #[.int .i64 x.kind, .string x.text, .slice x.adr x.cnt x.cap, .bool x.blank] 48)).alloc o).cell? ⟨R.T, 1, none⟩ = some (.slice AN l.length cN) := fun o => by
  have := (hT.alloc o).cell 1
  rw [this]
  show (R.cs q (.slice AN l.length cN))[1]? = _
  rw [hcs]; rfl
 have bk0 : ∀ o, ((w.alloc (.cells #[.int .i64 x.kind, .string x.text, .slice x.adr x.cnt x.cap, .bool x.blank] 48)).alloc o).cell? ⟨w.heap.size, 0, none⟩ = some (.int .i64 x.kind) := fun o => (K.alloc o).cell 0
 have bk1 : ∀ o, ((w.alloc (.cells #[.int .i64 x.kind, .string x.text, .slice x.adr x.cnt x.cap, .bool x.blank] 48)).alloc o).cell? ⟨w.heap.size, 1, none⟩ = some (.string x.text) := fun o => (K.alloc o).cell 1
 have bk2 : ∀ o, ((w.alloc (.cells #[.int .i64 x.kind, .string x.text, .slice x.adr x.cnt x.cap, .bool x.blank] 48)).alloc o).cell? ⟨w.heap.size, 2, none⟩ = some (.slice x.adr x.cnt x.cap) := fun o => (K.alloc o).cell 2
 have bk3 : ∀ o, ((w.alloc (.cells #[.int .i64 x.kind, .string x.text, .slice x.adr x.cnt x.cap, .bool x.blank] 48)).alloc o).cell? ⟨w.heap.size, 3, none⟩ = some (.bool x.blank) := fun o => (K.alloc o).cell 3
 have hnb : ((w.alloc (.cells #[.int .i64 x.kind, .string x.text, .slice x.adr x.cnt x.cap, .bool x.blank] 48)).alloc (.cells #[.int .i64 x.kind, .string x.text, .slice x.adr x.cnt x.cap, .bool x.blank] 48)).heap[w.heap.size + 1]? = some (.cells #[.int .i64 x.kind, .string x.text, .slice x.adr x.cnt x.cap, .bool x.blank] 48 (0, 0)) := by
  have := heap_alloc_new (w.alloc (.cells #[.int .i64 x.kind, .string x.text, .slice x.adr x.cnt x.cap, .bool x.blank] 48)) (.cells #[.int .i64 x.kind, .string x.text, .slice x.adr x.cnt x.cap, .bool x.blank] 48)
  rwa [World.size_alloc] at this
 have HC1 := hid (And.intro hcs (And.intro hi1 hty))
 clear hi0 hz0 hz1 hz2 hc hc0 hbx hx K hbz hT hcs hi1 hty
 go_enter func123, ntmps123
 go_upto_region 1 with fail
 go_region_law
  (refine step_append_lies _ rfl (.tmp 9) (.tmp 11) 26 rfl R.w0.heap.size 48 i0 (.agg #[.int .i64 0, .string ⟨#[]⟩, .slice none 0 0, .bool false]) 4 56 underlying26 HI.out.1 HI.out.2.1 HI.out.2.2.1 HI.out.2.2.2 rfl (by decide) (.slice AN l.length cN) l.length (l.flatMap nodeCells) (by first | (simp [Act.eval]; done) | (simp [Act.eval, Act.put]; done) | rfl) (by first | exact HM.out.drew | exact HM.out) ⟨w.heap.size + 1, 0, none⟩ 1 1 (nodeCells x) (by first | (simp [Act.eval]; done) | (simp [Act.eval, Act.put]; done) | rfl) (by rfl) (World.news_of_block (cs := #[.int .i64 x.kind, .string x.text, .slice x.adr x.cnt x.cap, .bool x.blank]) (t := 48) (fr := (0, 0)) hnb) (nd_one _) (by decide) (by unfold maxLen; omega) (by omega) (by first | exact HBZ.out) (w.heap.size + 1 + 1) (by simp) ?_
   intro q6 cap w6 hown6 hgrow hat hlt6
   have hgrow2 : ((w.alloc (.cells #[.int .i64 x.kind, .string x.text, .slice x.adr x.cnt x.cap, .bool x.blank] 48)).alloc (.cells #[.int .i64 x.kind, .string x.text, .slice x.adr x.cnt x.cap, .bool x.blank] 48)).grownBy w6 (Value.slice AN l.length cN).ownBlock := (by first | exact hgrow | exact grown_undrewP hgrow)
   have hb6 := H3.out _ hgrow2
   have j5 : w6.cell? ⟨R.T, 1, none⟩ = some (.slice AN l.length cN) := (by rw [hb6.cell 1]; show (R.cs q (.slice AN l.length cN))[1]? = _; rw [HC1.out.1]; rfl)
   have jf := hb6.frozen
   have jz := hb6.lt
   have HW := hid (HP.out _ _ hown6 hgrow2 (hat.elim (fun e => .inl e.symm) (fun e => .inr (by rw [e]; simp [Value.ownBlock]))))
   clear hown6 hgrow hat hgrow2 hb6)
 all_goals
  obtain ⟨A3, c3, ev, hC3, hK3⟩ := HW.out
  injection ev with ev1 ev2 ev3
  subst ev1; subst ev3
  rw [HC1.out.2.1] at hC3 hK3
  have HC3 := hid hC3
  have HK3 := hid hK3
  clear hC3 hK3 HW ev2
  go_wp2
  go_ret
  exact ⟨_, _, by first | rfl | (congr 2; omega), HC3.out, HK3.out⟩
theorem clone_any (A : Option Addr) (m c : Nat) (l : List Int) (w : World) (hr : Rd w 1 A m (intCells l)) (hm : m ≤ 1048576) :
  Calls prog 74 #[.slice A m c] w fun e w' => ∃ A3 c3, e = .returned (.slice A3 m c3) ∧ Mine w' w.heap.size 3 1 A3 m c3 (intCells l) ∧ Below w.heap.size w w' := by
 have hl : l.length = m := by have := hr.1; simpa [intCells] using this
 by_cases h0 : m = 0
 ·subst h0
  obtain rfl : l = [] := List.eq_nil_of_length_eq_zero hl
  cases A with
  | none =>
   refine (Tryz.slices_Clone_int_nil 0 c w).mono ?_
   rintro e w2 ⟨rfl, rfl⟩
   exact ⟨none, 0, rfl, Mine.mk_nil _ _ _ _, Below.refl _ _⟩
  | some a =>
   refine (Tryz.slices_Clone_int_zero a c w).mono ?_
   rintro e w2 ⟨v', rfl, h1, _, h2⟩
   obtain ⟨A3, c3, rfl, m3⟩ := Mine.of h1
   exact ⟨A3, c3, rfl, m3, h2⟩
 ·obtain ⟨b, off, rfl, hb, hc⟩ := hr.at_ (by omega)
  refine (Tryz.slices_Clone_int b off m c l w (by omega) (by omega) (fun j hj => ?_)).mono ?_
  ·have := hc j (.int .i64 (l.getD j 0)) (by
    unfold intCells
    rw [List.getElem?_map, List.getElem?_eq_getElem hj, List.getD_eq_getElem?_getD, List.getElem?_eq_getElem hj]; rfl)
   exact this
  ·rintro e w2 ⟨v', rfl, h1, _, h2⟩
   rw [List.take_of_length_le (by omega)] at h1
   obtain ⟨A3, c3, rfl, m3⟩ := Mine.of h1
   exact ⟨A3, c3, rfl, m3, h2⟩
theorem wpList_append_rd {P : Program} {w : World} {ops : Array Oper} {rest : List Oper} {o : Oper} {a : Act} {Q : Exit → Act → World → Prop} (hgd : o.guard = none) (s x : Operand) (t : TypeId)
  (ho : o.op = .call { callee := .builtin .append, args := #[s, x], argTypes := #[t, t] })
  (base : Nat) (e : TypeId) (i : TypeInfo) (z : Value) (size bytes : Nat) (ht : P.underlying t = some (.slice e)) (hi : P.info? e = some i) (hz : i.zero = some z)
  (hsize : i.size = size) (hby : i.bytes = bytes) (hzs : z.cells.size = size) (hsz : 0 < size)
  (v : Value) (n : Nat) (xs : List Value) (hs : a.eval s = v) (hown : w.ownsRow base e size v n xs)
  (A : Option Addr) (m c : Nat) (news : List Value) (hx : a.eval x = .slice A m c) (hm : Rd w size A m news) (hA : A = none → m = 0 ∧ c = 0) (h1 : ∀ u ∈ news, u.oneCell' = true)
  (h63 : n + m ≤ maxLen) (hbytes : (n + m) * bytes ≤ 140737488355328) (hbase : base ≤ w.heap.size)
  (h : ∀ v' w', w'.ownsRow base e size v' (n + m) (xs ++ news) → w.grownBy w' v.ownBlock → wpList P ops Q rest (a.put o.dst v') w') : wpList P ops Q (o :: rest) a w := by
 cases A with
 | none =>
  obtain ⟨rfl, rfl⟩ := hA rfl
  have e0 : news = [] := List.eq_nil_of_length_eq_zero (by simpa using hm.1)
  subst e0
  exact wpList_append_own_none hgd s x t ho base e i size ht hi v n xs hs hown hx (h v w (by rw [List.append_nil]; exact hown) ⟨rfl, rfl, rfl, Nat.le_refl _, fun k _ _ => rfl⟩)
 | some ad =>
  refine wpList_append_row w hgd s x t ho base e i z size bytes ht hi hz hsize hby hzs hsz v n xs hs hown ad m c news hx hm.1 (fun j u hj => ?_) h1 h63 hbytes hbase (fun v' w' h2 h3 _ => h v' w' h2 h3)
  have hj2 := (List.getElem?_eq_some_iff.1 hj).1
  rw [hm.1] at hj2
  have h0 : 0 < m := Nat.pos_of_ne_zero (fun e => by subst e; simp at hj2)
  obtain ⟨b, off, e', _, hcc⟩ := hm.2 h0
  injection e' with e'
  subst e'
  have h7 := hcc j u hj
  unfold Addr.add
  split
  ·next e => subst e; simpa using h7
  ·simpa using h7
theorem Below.grown {w wr W1 w3 : World} {e : TypeId} {s : Nat} {A : Option Addr} {n c : Nat} {xs : List Value} (hm : Mine wr w.heap.size e s A n c xs) (hb : Below w.heap.size w wr) (h1 : Below wr.heap.size wr W1) (hg : W1.grownBy w3 (Value.slice A n c).ownBlock) : Below w.heap.size w w3 := by
 have h2 := below_next hb h1
 rw [ownBlk] at hg
 exact below_turned h2 hg (fun g e => (Mine.blk hm e).1)
theorem implCopy_any (A : Option Addr) (n c : Nat) (ps : List PN) (w : World) (hn : n ≤ 1048576) (hps : Nps w A n ps) (hb : Hid (PNs ps)) :
  Calls prog 32 #[.slice A n c] w (Made w ps) := by
 have HP := hid hps
 have HL := hid hps.len
 obtain ⟨i0, hi0, hz0, hz1, hz2⟩ := info_parts infoNd
 have HI := hid (And.intro hi0 (And.intro hz0 (And.intro hz1 hz2)))
 clear hps hi0 hz0 hz1 hz2
 go_enter func32, ntmps32
 go_wp2
 go_loopw [3, 8] (fun o i wr => ∃ (k : Nat) (A' : Option Addr) (c' : Nat) (l : List Nd), k ≤ n ∧ i = .int .i64 k ∧ o = .slice A' k c' ∧ Hid (NR wr w.heap.size wr.heap.size A' k c' l) ∧ Hid (l.map Nd.pn = ps.take k) ∧ Hid (Below w.heap.size w wr)) (fun _ i _ => n - (intOf i).toNat)
 case atStart => exact ⟨0, none, 0, [], Nat.zero_le _, rfl, rfl, NR.nil _ _, (rfl : ([] : List Nd).map Nd.pn = ps.take 0), Below.refl _ _⟩
 case round =>
  obtain ⟨k, A', c', l, hk, rfl, rfl, HN, HE, HB⟩ := hrel
  by_cases hkn : k < n
  ·obtain ⟨x, hx⟩ := HP.out.get hkn
   obtain ⟨b, off, A2, c2, rfl, hblt, x0, x1, x2, x3, hxr⟩ := (HP.out.below HB.out).at_ hkn hx
   have HX := hid hx
   have hsm := hb.out x (List.mem_of_getElem? hx)
   have HXR := hid hxr
   have hkm := hsm.2
   clear hx hxr hsm
   go_wp2_with fail
   refine (clone_any A2 _ c2 x.kids _ (HXR.out.alloc _) hkm).mono ?_
   rintro e w2 ⟨A3, c3, rfl, hm3, h2⟩
   have K := Blk.fresh h2
   have HZ := hid (show wr.heap.size + 1 ≤ w2.heap.size by have := h2.size; simpa using this)
   have k0 := K.q0
   have k1 := K.q1
   have k2 := K.q2
   have k3 := K.q3
   have kz := K.lt
   have kf := K.frozen
   have KS := K.set_ 2 (.slice A3 x.kids.length c3)
   have hW : Below wr.heap.size wr (w2.setCell ⟨wr.heap.size, 2, none⟩ (.slice A3 x.kids.length c3)) := by
    have h3 := below_box h2
    exact h3.setCell (Nat.le_refl _) _
   have hM : Mine (w2.setCell ⟨wr.heap.size, 2, none⟩ (.slice A3 x.kids.length c3)) (wr.heap.size + 1) 3 1 A3 x.kids.length c3 (intCells x.kids) := by
    rw [World.size_alloc] at hm3
    exact mine_set hm3 K (by decide) _ _
   have HKS := hid KS
   have HW := hid hW
   have HM := hid hM
   obtain ⟨y, hy⟩ : ∃ y : Nd, y = ⟨x.kind, x.text, A3, x.kids.length, c3, x.kids, x.blank⟩ := ⟨_, rfl⟩
   have hyc : nodeCells y = [.int .i64 x.kind, .string x.text, .slice A3 x.kids.length c3, .bool x.blank] := by rw [hy]; rfl
   have HNC := hid (show ∀ j v, (nodeCells y)[j]? = some v → ((w2.setCell ⟨wr.heap.size, 2, none⟩ (.slice A3 x.kids.length c3)).alloc (.cells #[.int .i64 x.kind, .string x.text, .slice A3 x.kids.length c3, .bool x.blank] 48)).cell? ((⟨w2.heap.size, 0, none⟩ : Addr).add j) = some v by
    have h9 := nd_new (w2.setCell ⟨wr.heap.size, 2, none⟩ (.slice A3 x.kids.length c3)) y 48
    rw [hy] at h9 ⊢
    simpa [World.setCell] using h9)
   have hW1 : Below wr.heap.size wr ((w2.setCell ⟨wr.heap.size, 2, none⟩ (.slice A3 x.kids.length c3)).alloc (.cells #[.int .i64 x.kind, .string x.text, .slice A3 x.kids.length c3, .bool x.blank] 48)) := hW.alloc hW.size _
   have HROW := hid (HN.out.row.next hW1)
   have HBZ := hid (show w.heap.size ≤ ((w2.setCell ⟨wr.heap.size, 2, none⟩ (.slice A3 x.kids.length c3)).alloc (.cells #[.int .i64 x.kind, .string x.text, .slice A3 x.kids.length c3, .bool x.blank] 48)).heap.size from Nat.le_trans HB.out.size hW1.size)
   have hKR : KidR ((w2.setCell ⟨wr.heap.size, 2, none⟩ (.slice A3 x.kids.length c3)).alloc (.cells #[.int .i64 x.kind, .string x.text, .slice A3 x.kids.length c3, .bool x.blank] 48)) w.heap.size ((w2.setCell ⟨wr.heap.size, 2, none⟩ (.slice A3 x.kids.length c3)).alloc (.cells #[.int .i64 x.kind, .string x.text, .slice A3 x.kids.length c3, .bool x.blank] 48)).heap.size y := by
    have hm4 := (hM.alloc (.cells #[.int .i64 x.kind, .string x.text, .slice A3 x.kids.length c3, .bool x.blank] 48))
    rw [hy]
    exact ⟨hm4.cap, hm4.more (by have := HB.out.size; omega), fun g hg => (Mine.blk hm4 hg).2⟩
   have hfr : ∀ g, y.adr.map (·.block) = some g → wr.heap.size ≤ g := fun g hg => by
    rw [hy] at hg
    have := (Mine.blk hM hg).1
    omega
   have HP := hid (fun (v' : Value) (w3 : World) h1 h2 => HN.out.push y hW1 hKR hfr (v' := v') (w3 := w3) h1 h2)
   have HBL := hid (fun (w3 : World) h2 => Below.grown (HN.out.row) HB.out hW1 (w3 := w3) h2)
   clear h2 hm3 K KS hW hM x0 x1 x2 x3 hblt hW1 hKR hfr
   go_wp2_with (at_builtin; (refine wpList_append_row _ rfl (.tmp 16) (.tmp 18) _ rfl w.heap.size 48 i0 (.agg #[.int .i64 0, .string ⟨#[]⟩, .slice none 0 0, .bool false]) 4 56 underlying26 HI.out.1 HI.out.2.1 HI.out.2.2.1 HI.out.2.2.2 rfl (by decide) (.slice A' k c') k (l.flatMap nodeCells) rfl HROW.out ⟨w2.heap.size, 0, none⟩ 1 1 (nodeCells y) rfl rfl HNC.out (nd_one _) (by unfold maxLen; omega) (by omega) HBZ.out ?_); intro v' w6 hown6 hgrow hwh; obtain ⟨A6, c6, rfl, hN6⟩ := HP.out _ _ hown6 hgrow; have hB6 := HBL.out _ hgrow)
   have HN6 := hid hN6
   have HB6 := hid hB6
   clear hN6 hB6 hown6 hgrow hwh
   go_wp2
   go_roundw
   case rel =>
    refine ⟨k + 1, A6, c6, l ++ [y], by omega, by go_num, rfl, HN6.out, ?_, HB6.out⟩
    show _ = _
    rw [List.map_append, HE.out, List.take_add_one, HX.out, hy]
    rfl
   case measure => simp [intOf]; omega
  ·obtain rfl : k = n := by omega
   have ht : ps.take k = ps := List.take_of_length_le (by have := HL.out; omega)
   rw [ht] at HE
   go_wp2
   go_ret
   exact ⟨A', k, c', l, rfl, HN.out, HE.out, HB.out⟩
section
variable {B hi : Nat} {w w' : World} {A : Option Addr} {n c : Nat}
theorem NR.markI {a b : List Nd} {d : Nd} (h : NR w B hi A n c (a ++ d :: b)) (q : Int) (h0 : 1 ≤ q) (h1 : q + (d.cnt : Nat) ≤ 1073741824) :
  Calls prog 38 #[.slice d.adr d.cnt d.cap, .int .i64 q] w fun e w' => e = .returned (.int .i64 (q + (d.cnt : Nat))) ∧ NR w' B hi A n c (a ++ ⟨d.kind, d.text, d.adr, d.cnt, d.cap, mrkI q d.cnt, d.blank⟩ :: b) ∧ Kept B hi w w' := by
 have hk := h.kid d (by simp)
 by_cases hz : d.cnt = 0
 ·have hd0 : d.kids = [] := List.eq_nil_of_length_eq_zero (by rw [hk.len, hz])
  rw [hz]
  refine (markIntS_nil _ _ _ _).mono ?_
  rintro e w2 ⟨rfl, rfl⟩
  refine ⟨by simp, ?_, Kept.refl _ _ _⟩
  have e : (⟨d.kind, d.text, d.adr, 0, d.cap, mrkI q 0, d.blank⟩ : Nd) = d := by
   obtain ⟨x0, x1, x2, x3, x4, x5, x6⟩ := d
   simp only at hz hd0
   subst hz; subst hd0; rfl
  rw [e]; exact h
 ·have k1 := hk.2.1
  rcases k1.own with ⟨_, e, _⟩ | ⟨g, e, hB, hn, hc, ho⟩
  ·exact absurd e hz
  ·have HH := hid h
   have e2 := e
   rw [e]
   refine (markIntS_any g d.cnt d.cap _ q _ w ho k1.len h0 (by omega)).mono ?_
   rintro e3 w2 ⟨rfl, o2, g2⟩
   rw [markRow_int] at o2
   refine ⟨by simp, ?_⟩
   have hm : Mine w2 B 3 1 (some ⟨g, 0, none⟩) d.cnt d.cap (intCells (mrkI q d.cnt)) := Mine.mk_own o2 (by rw [intCells, List.length_map, mrkI_len]; omega) hB hn hc
   have := HH.out.kidsPut (d' := ⟨d.kind, d.text, d.adr, d.cnt, d.cap, mrkI q d.cnt, d.blank⟩) (by rw [e2]; exact g2) (by rw [e2]; exact hm) ⟨rfl, rfl, rfl, rfl, rfl, rfl⟩
   rw [e2] at this
   exact this
end
theorem mid_get (a : List Nd) (d : Nd) (b : List Nd) {j : Nat} (h : a.length = j) : (a ++ d :: b)[j]? = some d := by
 subst h; rw [List.getElem?_append_right (Nat.le_refl _), Nat.sub_self]; rfl
theorem markNodeS_nil (A : Option Addr) (c : Nat) (k : Int) (w : World) :
  Calls prog 11 #[.slice A 0 c, .int .i64 k] w fun e w' => e = .returned (.int .i64 k) ∧ w = w' := by
 go_enter func11, ntmps11
 go_wp2
 refine wp_loop_rounds 1 ?_
 rw [rounds_succ]
 go_wp2
 go_ret
 exact ⟨rfl, rfl⟩
theorem markNodeS_some (B hi g n c : Nat) (l : List Nd) (k : Int) (w : World) (h : NR w B hi (some ⟨g, 0, none⟩) n c l) (h0 : 1 ≤ k) (h1 : k + (mrkC l : Nat) ≤ 1073741824) :
  Calls prog 11 #[.slice (some ⟨g, 0, none⟩) n c, .int .i64 k] w fun e w' => e = .returned (.int .i64 (mrkE k l)) ∧ NR w' B hi (some ⟨g, 0, none⟩) n c (mrkL k l) ∧ Kept B hi w w' := by
 have HLn := hid h.len
 have HC := hid h1
 have hn : n ≤ 1073741824 := by
  have hc : l.length ≤ mrkC l := by
   clear HLn HC h1 h
   induction l with
   | nil => exact Nat.zero_le _
   | cons d l ih => rw [mrkC_cons, List.length_cons]; omega
  have := HLn.out; omega
 clear h1
 go_enter func11, ntmps11
 go_wp2
 go_loopw [1, 5] (fun s i wr => ∃ (j : Nat) (q : Int) (l1 l2 : List Nd), Hid (l = l1 ++ l2) ∧ Hid (l1.length = j) ∧ j ≤ n ∧ Hid (q = mrkE k l1) ∧ i = .int .i64 j ∧ s = .int .i64 q ∧ Hid (NR wr B hi (some ⟨g, 0, none⟩) n c (mrkL k l1 ++ l2)) ∧ Hid (Kept B hi w wr)) (fun _ i _ => n - (intOf i).toNat)
 case atStart => exact ⟨0, k, [], l, (rfl : l = [] ++ l), (rfl : ([] : List Nd).length = 0), Nat.zero_le _, (rfl : k = mrkE k []), rfl, rfl, h, Kept.refl _ _ _⟩
 case round =>
  clear h
  obtain ⟨j, q, l1, l2, HL, HJ, hj, HQ, rfl, rfl, HN, HK⟩ := hrel
  by_cases hjn : j < n
  ·obtain ⟨d, l3, rfl⟩ : ∃ d l3, l2 = d :: l3 := by
    cases l2 with
    | nil => exfalso; have h1 := HL.out; have h2 := HJ.out; have h3 := HLn.out; rw [List.append_nil] at h1; rw [h1] at h3; omega
    | cons d l3 => exact ⟨d, l3, rfl⟩
   have hqv : q = k + (mrkC l1 : Nat) := by rw [HQ.out, mrkE_eq]
   have hq1 : q + 3 + (d.cnt : Nat) ≤ 1073741824 := by
    have h1 := HC.out; rw [HL.out, mrkC_app, mrkC_cons] at h1; omega
   have hq0 : 1 ≤ q := by omega
   clear hqv
   have HMl := hid (show (mrkL k l1).length = j by rw [mrkL_len]; exact HJ.out)
   obtain ⟨N1, K1⟩ := HN.out.put (d' := ⟨q, d.text, d.adr, d.cnt, d.cap, d.kids, d.blank⟩) rfl (i := j * 4) (f := 0) (v := .int .i64 q) (by rw [HMl.out]; rfl) (by omega) rfl ⟨rfl, rfl, rfl, rfl⟩
   have hz : g < wr.heap.size := (Mine.blk HN.out.row (g := g) rfl).2
   obtain ⟨b, off, eA, _, c0, c1, c2, c3⟩ := HN.out.nds.at_ hjn (mid_get _ d l3 HMl.out)
   injection eA with eA; injection eA with e1 e2; subst e1; subst e2
   simp only [Nat.zero_add] at c0 c1 c2 c3
   have fz : ∀ i, wr.frozen? ⟨g, i, none⟩ = false := by
    rcases HN.out.row.own with ⟨e, _⟩ | ⟨g', e, _, _, _, ho⟩
    ·cases e
    ·injection e with e; injection e with e; subst e; exact ho.frozen
   replace N1 := hid N1
   replace K1 := hid (HK.out.trans K1)
   clear HN HK
   go_wp2_with fail
   refine (markText_any _ _ (by omega) (by omega)).mono ?_
   rintro e w2 ⟨rfl, h2⟩
   have N2 := N1.out.next h2
   have K2 := hid (K1.out.trans (Kept.of_below _ _ h2))
   clear hz c0 c1 c2 c3 fz N1 K1 h2
   have hz : g < w2.heap.size := (Mine.blk N2.row (g := g) rfl).2
   obtain ⟨b, off, eA, _, c0, c1, c2, c3⟩ := N2.nds.at_ hjn (mid_get _ _ l3 HMl.out)
   injection eA with eA; injection eA with e1 e2; subst e1; subst e2
   simp only [Nat.zero_add] at c0 c1 c2 c3
   have fz : ∀ i, w2.frozen? ⟨g, i, none⟩ = false := by
    rcases N2.row.own with ⟨e, _⟩ | ⟨g', e, _, _, _, ho⟩
    ·cases e
    ·injection e with e; injection e with e; subst e; exact ho.frozen
   obtain ⟨N3, K3⟩ := N2.put (d' := ⟨q, mkT (q + 1), d.adr, d.cnt, d.cap, d.kids, d.blank⟩) rfl (i := j * 4 + 1) (f := 1) (v := .string (mkT (q + 1))) (by rw [HMl.out]) (by omega) rfl ⟨rfl, rfl, rfl, rfl⟩
   replace N3 := hid N3
   replace K3 := hid (K2.out.trans K3)
   clear N2 K2
   go_wp2_with fail
   refine (NR.markI N3.out _ (by omega) (by show q + 1 + 1 + (d.cnt : Nat) ≤ _; omega)).mono ?_
   rintro e w4 ⟨rfl, N4, k4⟩
   have K4 := hid (K3.out.trans k4)
   clear hz c0 c1 c2 c3 fz N3 K3 k4
   have hz : g < w4.heap.size := (Mine.blk N4.row (g := g) rfl).2
   obtain ⟨b, off, eA, _, c0, c1, c2, c3⟩ := N4.nds.at_ hjn (mid_get _ _ l3 HMl.out)
   injection eA with eA; injection eA with e1 e2; subst e1; subst e2
   simp only [Nat.zero_add] at c0 c1 c2 c3
   have fz : ∀ i, w4.frozen? ⟨g, i, none⟩ = false := by
    rcases N4.row.own with ⟨e, _⟩ | ⟨g', e, _, _, _, ho⟩
    ·cases e
    ·injection e with e; injection e with e; subst e; exact ho.frozen
   obtain ⟨N5, K5⟩ := N4.put (d' := mrkN q d) rfl (i := j * 4 + 3) (f := 3) (v := .bool ((q + 1 + 1 + (d.cnt : Int)) % 3 == 0)) (by rw [HMl.out]) (by omega) rfl ⟨rfl, rfl, rfl, rfl⟩
   replace N5 := hid N5
   replace K5 := hid (K4.out.trans K5)
   clear N4 K4
   dsimp only
   go_wp2
   go_roundw
   case rel =>
    refine ⟨j + 1, mrkX q d, l1 ++ [d], l3, (show l = _ by rw [HL.out, List.append_assoc]; rfl), (show (l1 ++ [d]).length = _ by rw [lA, HJ.out]; rfl), by omega, (show mrkX q d = _ by rw [mrkE_app, ← HQ.out]; rfl), by go_num, by unfold mrkX; rfl, ?_, K5.out⟩
    have e : mrkL k (l1 ++ [d]) ++ l3 = mrkL k l1 ++ mrkN q d :: l3 := by rw [mrkL_app, ← HQ.out, List.append_assoc]; rfl
    show NR _ _ _ _ _ _ _
    rw [e]
    exact N5.out
   case measure => simp [intOf]; omega
  ·obtain rfl : j = n := by omega
   have hl2 : l2 = [] := List.eq_nil_of_length_eq_zero (by have h1 := HLn.out; rw [HL.out, lA, HJ.out] at h1; omega)
   subst hl2
   have hl1 := HL.out
   rw [List.append_nil] at hl1
   subst hl1
   have HN2 := HN.out
   rw [List.append_nil] at HN2
   replace HN2 := hid HN2
   clear HN HL
   go_wp2
   go_ret
   exact ⟨ret_int HQ.out, HN2.out, HK.out⟩
theorem markNodeS_any (B hi : Nat) (A : Option Addr) (n c : Nat) (l : List Nd) (k : Int) (w : World) (h : NR w B hi A n c l) (h0 : 1 ≤ k) (h1 : k + (mrkC l : Nat) ≤ 1073741824) :
  Calls prog 11 #[.slice A n c, .int .i64 k] w fun e w' => e = .returned (.int .i64 (mrkE k l)) ∧ NR w' B hi A n c (mrkL k l) ∧ Kept B hi w w' := by
 rcases h.row.own with ⟨_, rfl, _⟩ | ⟨g, rfl, _, _, _, _⟩
 ·have hl : l = [] := List.eq_nil_of_length_eq_zero h.len
  subst hl
  refine (markNodeS_nil A c k w).mono ?_
  rintro e w2 ⟨rfl, rfl⟩
  exact ⟨rfl, h, Kept.refl _ _ _⟩
 ·exact markNodeS_some B hi g n c l k w h h0 h1
theorem mrkL_get {l : List Nd} : ∀ {j : Nat} {d : Nd} (k : Int), l[j]? = some d → (mrkL k l)[j]? = some (mrkN (mrkE k (l.take j)) d) := by
 induction l with
 | nil => intro j d k h; simp at h
 | cons x l ih =>
  intro j d k h
  cases j with
  | zero => simp at h; subst h; rfl
  | succ j => rw [List.getElem?_cons_succ] at h; rw [mrkL, List.getElem?_cons_succ, ih _ h]; rfl
theorem mrkE_step {l : List Nd} {j : Nat} {d : Nd} (k : Int) (h : l[j]? = some d) : mrkE k (l.take (j + 1)) = mrkX (mrkE k (l.take j)) d := by
 rw [List.take_add_one, h, mrkE_app]; rfl
theorem mrkC_take (l : List Nd) (j : Nat) : mrkC (l.take j) ≤ mrkC l := by
 have := mrkC_app (l.take j) (l.drop j)
 rw [List.take_append_drop] at this
 omega
theorem heldNodeS_any (A : Option Addr) (n c : Nat) (l : List Nd) (k : Int) (w : World) (hr : Nds w A n (mrkL k l)) (h0 : 1 ≤ k) (h1 : k + (mrkC l : Nat) ≤ 1073741824) :
  Calls prog 12 #[.slice A n c, .int .i64 k] w fun e w' => e = .returned (.int .i64 (mrkE k l)) ∧ Below w.heap.size w w' := by
 have HC := hid h1
 have HLn := hid (show l.length = n by rw [← hr.len, mrkL_len])
 have hn : n ≤ 1073741824 := by
  have hc : l.length ≤ mrkC l := by
   clear HLn HC h1 hr
   induction l with
   | nil => exact Nat.zero_le _
   | cons d l ih => rw [mrkC_cons, List.length_cons]; omega
  have := HLn.out; omega
 have HR := hid hr
 clear h1 hr
 go_enter func12, ntmps12
 go_wp2
 go_loopw [1, 5] (fun s i wr => ∃ (j : Nat) (q : Int), j ≤ n ∧ Hid (q = mrkE k (l.take j)) ∧ i = .int .i64 j ∧ s = .int .i64 q ∧ Below w.heap.size w wr) (fun _ i _ => n - (intOf i).toNat)
 case atStart => exact ⟨0, k, Nat.zero_le _, (show k = mrkE k (l.take 0) from rfl), rfl, rfl, Below.refl _ _⟩
 case round =>
  obtain ⟨j, q, hj, HQ, rfl, rfl, hb⟩ := hrel
  by_cases hjn : j < n
  ·obtain ⟨d, hd⟩ : ∃ d, l[j]? = some d := ⟨_, gE (by have := HLn.out; omega)⟩
   have hqv : q = k + (mrkC (l.take j) : Nat) := by rw [HQ.out, mrkE_eq]
   have HST := hid (mrkE_step k hd)
   have hq1 : q + 3 + (d.cnt : Nat) ≤ 1073741824 := by
    have h1 := HC.out
    have h2 := mrkC_take l (j + 1)
    rw [List.take_add_one, hd, mrkC_app] at h2
    have h3 : mrkC (some d).toList = 3 + d.cnt := by show mrkC [d] = _; rw [mrkC_cons]; rfl
    omega
   have hq0 : 1 ≤ q := by omega
   clear hqv
   have hg := mrkL_get k hd
   rw [← HQ.out] at hg
   obtain ⟨b, off, rfl, hblt, c0, c1, c2, c3⟩ := (HR.out.below hb).at_ hjn hg
   have hkr := (HR.out.below hb).kids hg
   replace c0 : wr.cell? ⟨b, off + j * 4, none⟩ = some (.int .i64 q) := c0
   replace c1 : wr.cell? ⟨b, off + j * 4 + 1, none⟩ = some (.string (mkT (q + 1))) := c1
   replace c2 : wr.cell? ⟨b, off + j * 4 + 2, none⟩ = some (.slice d.adr d.cnt d.cap) := c2
   replace c3 : wr.cell? ⟨b, off + j * 4 + 3, none⟩ = some (.bool ((q + 1 + 1 + (d.cnt : Int)) % 3 == 0)) := c3
   have HKR : Hid (Rd wr 1 d.adr d.cnt (intCells (mrkI (q + 1 + 1) d.cnt))) := hkr
   clear hg hkr hd
   go_upto_region 7 with fail
   go_cut [28] (fun s wx => s = .bool false ∧ Below wr.heap.size wr wx)
   case first =>
    go_region_with (go_at_call 37; refine (markText_any _ _ (by omega) (by omega)).mono ?_; rintro e w2 ⟨rfl, h2⟩; have hcc := ((bcell h2).1 _ _ hblt).trans c1; have h3 : Below wr.heap.size wr w2 := (Below.refl _ wr).drew.trans h2)
    all_goals (go_wp2_with fail; go_meet; exact ⟨rfl, grow_⟩)
   case rest =>
   obtain ⟨rfl, h2⟩ := hcut
   replace hb := hb.trans (h2.mono hb.size)
   replace c0 := ((bcell h2).1 _ _ hblt).trans c0
   replace c1 := ((bcell h2).1 _ _ hblt).trans c1
   replace c2 := ((bcell h2).1 _ _ hblt).trans c2
   replace c3 := ((bcell h2).1 _ _ hblt).trans c3
   replace hblt := Nat.lt_of_lt_of_le hblt h2.size
   replace HKR := hid (HKR.out.next h2)
   clear h2
   obtain ⟨wr, rfl⟩ : ∃ wo : World, wo = wc := ⟨_, rfl⟩
   go_wp2_with fail
   refine (heldIntS_any _ _ _ _ _ (by rw [markRow_int]; exact HKR.out) (by omega) (by omega)).mono ?_
   rintro e w4 ⟨rfl, h4⟩
   replace hb := hb.trans (h4.mono hb.size)
   replace c0 := ((bcell h4).1 _ _ hblt).trans c0
   replace c1 := ((bcell h4).1 _ _ hblt).trans c1
   replace c2 := ((bcell h4).1 _ _ hblt).trans c2
   replace c3 := ((bcell h4).1 _ _ hblt).trans c3
   replace hblt := Nat.lt_of_lt_of_le hblt h4.size
   clear h4
   rw [Nat.one_mul]
   go_wp2
   go_roundw
   case rel =>
    refine ⟨j + 1, mrkX q d, by omega, ?_, by go_num, by unfold mrkX; rfl, hb⟩
    show _ = _
    rw [HST.out, ← HQ.out]
   case measure => simp [intOf]; omega
  ·obtain rfl : j = n := by omega
   have ht : l.take j = l := List.take_of_length_le (by have := HLn.out; omega)
   rw [ht] at HQ
   go_wp2
   go_ret
   exact ⟨ret_int HQ.out, hb⟩
theorem apart_snoc {w : World} {B : Nat} {n k : Nat} {l : List Nd} (h : ToN w B n k l) (hp : l.Pairwise ApartR) (d : Nd) {g : Nat} (ha : d.adr = some ⟨g, 0, none⟩) (hg : w.heap.size ≤ g) : (l ++ [d]).Pairwise ApartR := by
 rw [List.pairwise_append]
 refine ⟨hp, List.pairwise_singleton _ _, fun x hx y hy => ?_⟩
 obtain rfl := List.mem_singleton.1 hy
 intro q e1 e2
 obtain ⟨_, a, e3, _, ho⟩ := h.2.2 x hx
 have h1 := ho.lt
 rw [e3] at e1
 rw [ha] at e2
 injection e1 with e1
 injection e2 with e2
 simp only at e1 e2
 omega
def ToR (l : List Nd) : Prop := l.Pairwise ApartR ∧ ∀ d ∈ l, d.cap = d.cnt
theorem ToR.nil : ToR [] := ⟨List.Pairwise.nil, fun d hd => (by cases hd)⟩
theorem ToR.push {w : World} {B : Nat} {n k : Nat} {l : List Nd} (hr : ToR l) (h : ToN w B n k l) (d : Nd) {g : Nat} (ha : d.adr = some ⟨g, 0, none⟩) (hg : w.heap.size ≤ g) (hc : d.cap = d.cnt) : ToR (l ++ [d]) :=
 ⟨apart_snoc h hr.1 d ha hg, fun x hx => by
  rcases List.mem_append.1 hx with hx | hx
  ·exact hr.2 x hx
  ·obtain rfl := List.mem_singleton.1 hx; exact hc⟩
theorem ToN.nr {w : World} {B n : Nat} {l : List Nd} (h : ToN w B n n l) (hr : ToR l) (hn : n ≤ 1048576) (hk : ∀ d ∈ l, d.cnt ≤ 1048576) : NR w B w.heap.size (some ⟨B, 0, none⟩) n n l := by
 refine ⟨h.1, Mine.mk_own h.2.1 (by rw [flat_len nodeCells nodeCells_len, h.1]) (Nat.le_refl _) (Nat.le_refl _) (by unfold maxLen; omega), fun g e => ?_, fun d hd => ?_, hr.1⟩
 ·injection e with e; simp only at e; subst e; exact h.2.1.lt
 ·obtain ⟨⟨c1, c2⟩, x, e1, h4, ho⟩ := h.2.2 d hd
  have hc := hr.2 d hd
  have hk1 := hk d hd
  refine ⟨c2, ?_, fun g e => ?_⟩
  ·rw [e1, hc]
   exact Mine.mk_own (by rw [Nat.mul_one]; exact ho) (by simp [intCells, c1]) (by omega) (Nat.le_refl _) (by unfold maxLen; omega)
  ·rw [e1] at e; injection e with e; simp only at e; subst e; exact ho.lt
theorem toNodeR_any (A : Option Addr) (n c : Nat) (l : List Nd) (w : World) (hn : n ≤ 1048576) (hr : Nds w A n l) (hm : Hid (∀ d ∈ l, d.cnt ≤ 1048576)) :
  Calls prog 7 #[.slice A n c] w fun e w' => ∃ l', e = .returned (.slice (some ⟨w.heap.size, 0, none⟩) n n) ∧ Hid (l'.map Nd.pn = l.map Nd.pn) ∧ NR w' w.heap.size w'.heap.size (some ⟨w.heap.size, 0, none⟩) n n l' ∧ Below w.heap.size w w' := by
 obtain ⟨i0, hi, hz0, hz1, hz2⟩ := info_parts infoNode
 have hmk := fun W => run_make_rowN (P := prog) 26 48 i0 _ underlying26 hi hz0 .i64 .i64 n n (Nat.le_refl _) (by rw [hz2]; omega) (by omega) W
 have HR := hid hr
 have HL := hid hr.len
 rw [hz1] at hmk
 clear hi hz0 hz1 hz2 hr
 go_enter func7, ntmps7
 go_wp2
 clear hmk
 go_loopw [4] (fun i wr => ∃ (k : Nat) (l' : List Nd), k ≤ n ∧ i = .int .i64 k ∧ Hid (l'.map Nd.pn = (l.take k).map Nd.pn) ∧ Hid (ToR l' ∧ ∀ d ∈ l', d.cnt ≤ 1048576) ∧ ToN wr w.heap.size n k l' ∧ Below w.heap.size w wr) (fun i _ => n - (intOf i).toNat)
 case atStart => exact ⟨0, [], Nat.zero_le _, rfl, (show _ = _ by simp), hid ⟨ToR.nil, fun d hd => by cases hd⟩, ⟨rfl, Own.made (size_madeCells _ _), fun d hd => by cases hd⟩, grow_⟩
 case round =>
  obtain ⟨k, l', hk, rfl, HE, HTR, hto, hb⟩ := hrel
  by_cases hkn : k < n
  ·obtain ⟨d, hd⟩ : ∃ d, l[k]? = some d := ⟨_, gE (by have := HL.out; omega)⟩
   obtain ⟨b, off, rfl, hblt, c0, c1, c2, c3⟩ := (HR.out.below hb).at_ hkn hd
   have HK := hid ((HR.out.below hb).kids hd)
   have hmk := hm.out d (List.mem_of_getElem? hd)
   have HD := hid hd
   clear hd
   go_wp2_with fail
   refine (toNode_any _ _ hmk HK.out).mono ?_
   rintro e w2 ⟨g, rfl, ho, hg, h2⟩
   have hb2 := hb.trans (h2.mono hb.size)
   have hgg0 := hto.2.1.lt
   have HTR2 := hid (show ToR (l' ++ [⟨d.kind, d.text, some ⟨g, 0, none⟩, d.cnt, d.cnt, d.kids, d.blank⟩]) ∧ ∀ y ∈ l' ++ [(⟨d.kind, d.text, some ⟨g, 0, none⟩, d.cnt, d.cnt, d.kids, d.blank⟩ : Nd)], y.cnt ≤ 1048576 from ⟨HTR.out.1.push hto _ rfl (by omega) rfl, fun y hy => by
    rcases List.mem_append.1 hy with hy | hy
    ·exact HTR.out.2 y hy
    ·obtain rfl := List.mem_singleton.1 hy; exact hmk⟩)
   clear HTR
   replace hto := hto.next h2
   have hzz := hb2.size
   have hgg := hto.2.1.lt
   obtain ⟨o0, e0⟩ := hto.2.1.there (i := k * 4) (by omega)
   obtain ⟨o1, e1⟩ := hto.2.1.there (i := k * 4 + 1) (by omega)
   obtain ⟨o2, e2⟩ := hto.2.1.there (i := k * 4 + 2) (by omega)
   obtain ⟨o3, e3⟩ := hto.2.1.there (i := k * 4 + 3) (by omega)
   have hfz := hto.2.1.frozen
   have HTO := hid hto
   have HO := hid ho
   have hg2 : w.heap.size < g := by omega
   clear hblt c0 c1 c2 c3 hto ho hg
   go_wp2
   go_roundw
   case rel =>
    have hcnt : d.kids.length = d.cnt := rd1_len HK.out
    refine ⟨k + 1, l' ++ [⟨d.kind, d.text, some ⟨g, 0, none⟩, d.cnt, d.cnt, d.kids, d.blank⟩], by omega, by go_num, ?_, HTR2, ?_, grow_⟩
    ·show _ = _
     rw [List.map_append, HE.out, List.take_add_one, HD.out]
     simp [Nd.pn]
    ·exact HTO.out.push hkn ⟨d.kind, d.text, some ⟨g, 0, none⟩, d.cnt, d.cnt, d.kids, d.blank⟩ ⟨hcnt, Nat.le_refl _⟩ rfl hg2 HO.out rfl
   case measure => simp [intOf]; omega
  ·obtain rfl : k = n := by omega
   have HE2 : Hid (l'.map Nd.pn = l.map Nd.pn) := (show _ = _ by rw [HE.out, List.take_of_length_le (by have := HL.out; omega)])
   have H1 := hid (hto.nr HTR.out.1 hn HTR.out.2)
   clear hto
   go_wp2
   go_ret
   exact ⟨l', rfl, HE2, H1.out, hb⟩
open Go.Sort
section
variable {α : Type} [Inhabited α] {lt : α → α → Bool} {tg : α → Nat}
def lexB (lt : α → α → Bool) (tg : α → Nat) (x y : α) : Bool := lt x y || (!lt y x && decide (tg x < tg y))
omit [Inhabited α] in
theorem lexB_swo (h : SWO lt) : SWO (lexB lt tg) := by
 constructor
 ·intro x
  unfold lexB
  simp [h.irrefl x]
 ·intro x y z h1 h2
  unfold lexB at *
  simp only [Bool.or_eq_true, Bool.and_eq_true, Bool.not_eq_true', decide_eq_true_eq] at *
  rcases h1 with h1 | ⟨h1, t1⟩ <;> rcases h2 with h2 | ⟨h2, t2⟩
  ·exact .inl (h.trans _ _ _ h1 h2)
  ·refine .inl ?_
   cases hxz : lt x z with
   | true => rfl
   | false => have := h.ntrans _ _ _ hxz h2; rw [h1] at this; cases this
  ·refine .inl ?_
   cases hxz : lt x z with
   | true => rfl
   | false => have := h.ntrans _ _ _ h1 hxz; rw [h2] at this; cases this
  ·cases hxz : lt x z with
   | true => exact .inl rfl
   | false => exact .inr ⟨h.ntrans _ _ _ h2 h1, by omega⟩
 ·intro x y z h1 h2
  unfold lexB at *
  simp only [Bool.or_eq_false_iff, Bool.and_eq_false_iff, Bool.not_eq_false', decide_eq_false_iff_not] at *
  obtain ⟨a1, b1⟩ := h1
  obtain ⟨a2, b2⟩ := h2
  refine ⟨h.ntrans _ _ _ a1 a2, ?_⟩
  cases hzx : lt z x with
  | true => exact .inl rfl
  | false =>
   refine .inr ?_
   have e1 : lt y x = false := by
    cases hyx : lt y x with
    | false => rfl
    | true =>
     have := h.ntrans _ _ _ a2 hzx
     rw [hyx] at this; cases this
   have e2 : lt z y = false := by
    cases hzy : lt z y with
    | false => rfl
    | true =>
     have := h.ntrans _ _ _ hzx a1
     rw [hzy] at this; cases this
   rcases b1 with b1 | b1
   ·rw [e1] at b1; cases b1
   ·rcases b2 with b2 | b2
    ·rw [e2] at b2; cases b2
    ·omega
omit [Inhabited α] in
theorem lexB_back {x y : α} (h : tg y ≤ tg x) : lexB lt tg x y = lt x y := by
 unfold lexB
 rw [decide_eq_false (by omega), Bool.and_false, Bool.or_false]
omit [Inhabited α] in
theorem lexB_total {x y : α} (hS : SWO lt) (h1 : lexB lt tg x y = false) (h2 : lexB lt tg y x = false) : tg x = tg y := by
 unfold lexB at *
 simp only [Bool.or_eq_false_iff, Bool.and_eq_false_iff, Bool.not_eq_false', decide_eq_false_iff_not] at *
 obtain ⟨a1, b1⟩ := h1
 obtain ⟨a2, b2⟩ := h2
 rw [a1] at b2
 rw [a2] at b1
 rcases b1 with b1 | b1
 ·cases b1
 ·rcases b2 with b2 | b2
  ·cases b2
  ·omega
theorem insInner_lex (a : Nat) : ∀ (j : Nat) (d : Array α), j < d.size → (∀ p, a ≤ p → p < j → tg d[p]! < tg d[j]!) → insInner lt a j d = insInner (lexB lt tg) a j d := by
 intro j
 induction j with
 | zero => intro d _ _; rfl
 | succ j ih =>
  intro d hj ht
  unfold insInner
  by_cases ha : j + 1 > a
  ·have hl : lexB lt tg d[j + 1]! d[j]! = lt d[j + 1]! d[j]! := lexB_back (Nat.le_of_lt (ht j (by omega) (by omega)))
   rw [hl]
   split
   ·refine ih _ (by rw [swp_size]; omega) (fun p hap hpj => ?_)
    rw [swp_get d hj (by omega), swp_get d hj (by omega), if_neg (by omega), if_neg (by omega), if_pos rfl]
    exact ht p hap (by omega)
   ·rfl
  ·rw [decide_eq_false ha]; rfl
theorem insInner_size (lt : α → α → Bool) (a : Nat) : ∀ (j : Nat) (d : Array α), (insInner lt a j d).size = d.size := by
 intro j
 induction j with
 | zero => intro d; rfl
 | succ j ih =>
  intro d
  unfold insInner
  split
  ·rw [ih, swp_size]
  ·rfl
theorem insInner_perm (lt : α → α → Bool) (a b i : Nat) (hib : i < b) : ∀ (j : Nat) (d : Array α), a ≤ j → j ≤ i → b ≤ d.size → PermIn a (i + 1) d (insInner lt a j d) := by
 intro j
 induction j with
 | zero => intro d _ _ _; exact permIn_refl d a (i + 1)
 | succ j ih =>
  intro d haj hji hb
  unfold insInner
  split
  ·rename_i hc
   simp only [Bool.and_eq_true, decide_eq_true_eq] at hc
   exact permIn_trans _ _ _ a (i + 1) (swp_permIn d a (i + 1) (j + 1) j haj (by omega) (by omega) (by omega) (by omega)) (ih _ (by omega) (by omega) (by rw [swp_size]; exact hb))
  ·exact permIn_refl d a (i + 1)
theorem insOuter_lex (a b : Nat) : ∀ (n i : Nat) (d : Array α), b - i = n → a ≤ i → b ≤ d.size → (∀ p q, a ≤ p → p < q → i ≤ q → q < b → tg d[p]! < tg d[q]!) → insOuter lt a b i d = insOuter (lexB lt tg) a b i d := by
 intro n
 induction n with
 | zero => intro i d hn _ _ _; rw [insOuter, if_neg (by omega), insOuter, if_neg (by omega)]
 | succ n ih =>
  intro i d hn hai hb ht
  have hib : i < b := by omega
  conv => lhs; rw [insOuter, if_pos hib]
  conv => rhs; rw [insOuter, if_pos hib]
  rw [← insInner_lex a i d (by omega) (fun p hap hpi => ht p i hap hpi (Nat.le_refl _) hib)]
  have hP := insInner_perm lt a b i hib i d hai (Nat.le_refl _) hb
  refine ih (i + 1) _ (by omega) (by omega) (by rw [insInner_size]; exact hb) (fun p q hap hpq hiq hqb => ?_)
  have hq : (insInner lt a i d)[q]! = d[q]! := hP.2.1 q (.inr (by omega))
  rw [hq]
  by_cases hpi : p < i + 1
  ·exact permIn_all d _ a (i + 1) (fun x => tg x < tg d[q]!) (by omega) hP (fun r har hri => ht r q har (by omega) (by omega) hqb) p hap hpi
  ·rw [hP.2.1 p (.inr (by omega))]
   exact ht p q hap hpq (by omega) hqb
theorem insertion_lex (hS : SWO lt) (d : Array α) (a b : Nat) (hab : a ≤ b) (hb : b ≤ d.size) (ht : ∀ p q, a ≤ p → p < q → q < b → tg d[p]! < tg d[q]!) :
  PermIn a b d (insertionSort lt d a b) ∧ SortedIn (lexB lt tg) a b (insertionSort lt d a b) := by
 have e : insertionSort lt d a b = insertionSort (lexB lt tg) d a b := by
  unfold insertionSort
  exact insOuter_lex a b _ (a + 1) d rfl (by omega) hb (fun p q hap hpq _ hqb => ht p q hap hpq hqb)
 rw [e]
 exact insertionSort_holds (lexB_swo hS) d a b hab hb
end
open Go.Sort
section
variable {α : Type} [Inhabited α]
def swR (d : Array α) (a b : Nat) : Nat → Array α
 | 0 => d
 | n + 1 => swp (swR d a b n) (a + n) (b + n)
theorem swR_size (d : Array α) (a b : Nat) : ∀ n, (swR d a b n).size = d.size := by
 intro n
 induction n with
 | zero => rfl
 | succ n ih => rw [swR, swp_size, ih]
theorem swR_get (d : Array α) (a b : Nat) : ∀ n, a + n ≤ b → b + n ≤ d.size → ∀ k, (swR d a b n)[k]! = if a ≤ k ∧ k < a + n then d[k + b - a]! else if b ≤ k ∧ k < b + n then d[k + a - b]! else d[k]! := by
 intro n
 induction n with
 | zero =>
  intro h1 h2 k
  rw [if_neg (by omega), if_neg (by omega)]; rfl
 | succ n ih =>
  intro h1 h2 k
  have g := ih (by omega) (by omega)
  rw [swR, swp_get _ (by rw [swR_size]; omega) (by rw [swR_size]; omega), g, g, g]
  by_cases e1 : k = b + n
  ·subst e1
   rw [if_pos rfl, if_neg (by omega), if_neg (by omega), if_neg (by omega), if_pos (by omega)]
   congr 1; omega
  ·rw [if_neg e1]
   by_cases e2 : k = a + n
   ·subst e2
    rw [if_pos rfl, if_neg (by omega), if_neg (by omega), if_pos (by omega)]
    congr 1; omega
   ·rw [if_neg e2]
    by_cases e3 : a ≤ k ∧ k < a + n
    ·rw [if_pos e3, if_pos (by omega)]
    ·rw [if_neg e3]
     by_cases e4 : b ≤ k ∧ k < b + n
     ·rw [if_pos e4, if_neg (by omega), if_pos (by omega)]
     ·rw [if_neg e4, if_neg (by omega), if_neg (by omega)]
def rotF : Nat → Array α → Nat → Nat → Nat → Array α
 | 0, d, _, _, _ => d
 | f + 1, d, m, i, j => if i = j then swR d (m - i) m i else if j < i then rotF f (swR d (m - i) m j) m (i - j) j else rotF f (swR d (m - i) (m + j - i) i) m i (j - i)
theorem rotF_size : ∀ (f : Nat) (d : Array α) (m i j : Nat), (rotF f d m i j).size = d.size := by
 intro f
 induction f with
 | zero => intro d m i j; rfl
 | succ f ih =>
  intro d m i j
  unfold rotF
  split
  ·exact swR_size _ _ _ _
  ·split
   ·rw [ih, swR_size]
   ·rw [ih, swR_size]
theorem rotF_get : ∀ (f : Nat) (d : Array α) (m i j : Nat), i + j ≤ f → 0 < i → 0 < j → i ≤ m → m + j ≤ d.size → ∀ k, (rotF f d m i j)[k]! = if m - i ≤ k ∧ k < m - i + j then d[k + i]! else if m - i + j ≤ k ∧ k < m + j then d[k - j]! else d[k]! := by
 intro f
 induction f with
 | zero => intro d m i j h; omega
 | succ f ih =>
  intro d m i j hf hi hj him hmj k
  unfold rotF
  by_cases e : i = j
  ·subst e
   rw [if_pos rfl, swR_get d (m - i) m i (by omega) hmj]
   repeat' split
   all_goals first | (exfalso; omega) | rfl | (congr 1; omega)
  ·rw [if_neg e]
   by_cases e2 : j < i
   ·rw [if_pos e2, ih _ m (i - j) j (by omega) (by omega) hj (by omega) (by rw [swR_size]; exact hmj)]
    have g := swR_get d (m - i) m j (by omega) hmj
    rw [g, g, g]
    repeat' split
    all_goals first | (exfalso; omega) | rfl | (congr 1; omega)
   ·rw [if_neg e2, ih _ m i (j - i) (by omega) hi (by omega) him (by rw [swR_size]; omega)]
    have g := swR_get d (m - i) (m + j - i) i (by omega) (by omega)
    rw [g, g, g]
    repeat' split
    all_goals first | (exfalso; omega) | rfl | (congr 1; omega)
theorem swR_perm (d : Array α) (lo hi a b : Nat) : ∀ n, lo ≤ a → a + n ≤ hi → lo ≤ b → b + n ≤ hi → hi ≤ d.size → PermIn lo hi d (swR d a b n) := by
 intro n
 induction n with
 | zero => intro _ _ _ _ _; exact permIn_refl d lo hi
 | succ n ih =>
  intro h1 h2 h3 h4 h5
  exact permIn_trans _ _ _ lo hi (ih h1 (by omega) h3 (by omega) h5) (swp_permIn _ lo hi _ _ (by omega) (by omega) (by omega) (by omega) (by rw [swR_size]; exact h5))
theorem rotF_perm (lo hi : Nat) : ∀ (f : Nat) (d : Array α) (m i j : Nat), lo ≤ m - i → i ≤ m → m + j ≤ hi → hi ≤ d.size → PermIn lo hi d (rotF f d m i j) := by
 intro f
 induction f with
 | zero => intro d m i j _ _ _ _; exact permIn_refl d lo hi
 | succ f ih =>
  intro d m i j h1 h2 h3 h4
  unfold rotF
  split
  ·next e => subst e; exact swR_perm d lo hi _ _ _ h1 (by omega) (by omega) h3 h4
  ·split
   ·exact permIn_trans _ _ _ lo hi (swR_perm d lo hi _ _ _ h1 (by omega) (by omega) h3 h4) (ih _ _ _ _ (by omega) (by omega) h3 (by rw [swR_size]; exact h4))
   ·exact permIn_trans _ _ _ lo hi (swR_perm d lo hi _ _ _ h1 (by omega) (by omega) (by omega) h4) (ih _ _ _ _ h1 h2 (by omega) (by rw [swR_size]; exact h4))
def bsF (p : Nat → Bool) : Nat → Nat → Nat → Nat
 | 0, i, _ => i
 | f + 1, i, j => if i < j then (if p ((i + j) / 2) = true then bsF p f ((i + j) / 2 + 1) j else bsF p f i ((i + j) / 2)) else i
theorem bsF_spec (p : Nat → Bool) : ∀ (f i j : Nat), i ≤ j → j - i ≤ f → i ≤ bsF p f i j ∧ bsF p f i j ≤ j ∧ (i < bsF p f i j → p (bsF p f i j - 1) = true) ∧ (bsF p f i j < j → p (bsF p f i j) = false) := by
 intro f
 induction f with
 | zero =>
  intro i j h1 h2
  obtain rfl : i = j := by omega
  unfold bsF
  exact ⟨Nat.le_refl _, Nat.le_refl _, fun h => absurd h (Nat.lt_irrefl _), fun h => absurd h (Nat.lt_irrefl _)⟩
 | succ f ih =>
  intro i j h1 h2
  unfold bsF
  by_cases hij : i < j
  ·rw [if_pos hij]
   by_cases hp : p ((i + j) / 2) = true
   ·rw [if_pos hp]
    obtain ⟨k1, k2, k3, k4⟩ := ih ((i + j) / 2 + 1) j (by omega) (by omega)
    refine ⟨by omega, k2, fun _ => ?_, k4⟩
    by_cases hk : (i + j) / 2 + 1 < bsF p f ((i + j) / 2 + 1) j
    ·exact k3 hk
    ·have e : bsF p f ((i + j) / 2 + 1) j - 1 = (i + j) / 2 := by omega
     rw [e]; exact hp
   ·rw [if_neg hp]
    obtain ⟨k1, k2, k3, k4⟩ := ih i ((i + j) / 2) (by omega) (by omega)
    refine ⟨k1, by omega, k3, fun _ => ?_⟩
    by_cases hk : bsF p f i ((i + j) / 2) < (i + j) / 2
    ·exact k4 hk
    ·have e : bsF p f i ((i + j) / 2) = (i + j) / 2 := by omega
     rw [e]; simpa using hp
  ·rw [if_neg hij]
   obtain rfl : i = j := by omega
   exact ⟨Nat.le_refl _, Nat.le_refl _, fun h => absurd h (Nat.lt_irrefl _), fun h => absurd h (Nat.lt_irrefl _)⟩
def shU (d : Array α) (a : Nat) : Nat → Array α
 | 0 => d
 | n + 1 => swp (shU d a n) (a + n) (a + n + 1)
theorem shU_size (d : Array α) (a : Nat) : ∀ n, (shU d a n).size = d.size := by
 intro n
 induction n with
 | zero => rfl
 | succ n ih => rw [shU, swp_size, ih]
theorem shU_get (d : Array α) (a : Nat) : ∀ n, a + n < d.size → ∀ k, (shU d a n)[k]! = if a ≤ k ∧ k < a + n then d[k + 1]! else if k = a + n then d[a]! else d[k]! := by
 intro n
 induction n with
 | zero =>
  intro h k
  show d[k]! = _
  rw [if_neg (by omega)]
  split
  ·next e => subst e; rfl
  ·rfl
 | succ n ih =>
  intro h k
  have g := ih (by omega)
  rw [shU, swp_get _ (by rw [shU_size]; omega) (by rw [shU_size]; omega), g, g, g]
  repeat' split
  all_goals first | (exfalso; omega) | rfl | (congr 1; omega)
theorem shU_perm (d : Array α) (lo hi a : Nat) : ∀ n, lo ≤ a → a + n < hi → hi ≤ d.size → PermIn lo hi d (shU d a n) := by
 intro n
 induction n with
 | zero => intro _ _ _; exact permIn_refl d lo hi
 | succ n ih =>
  intro h1 h2 h3
  exact permIn_trans _ _ _ lo hi (ih h1 (by omega) h3) (swp_permIn _ lo hi _ _ (by omega) (by omega) (by omega) (by omega) (by rw [shU_size]; exact h3))
def shD (d : Array α) (m : Nat) : Nat → Array α
 | 0 => d
 | n + 1 => swp (shD d m n) (m - n) (m - n - 1)
theorem shD_size (d : Array α) (m : Nat) : ∀ n, (shD d m n).size = d.size := by
 intro n
 induction n with
 | zero => rfl
 | succ n ih => rw [shD, swp_size, ih]
theorem shD_get (d : Array α) (m : Nat) (hm : m < d.size) : ∀ n, n ≤ m → ∀ k, (shD d m n)[k]! = if m - n < k ∧ k ≤ m then d[k - 1]! else if k = m - n then d[m]! else d[k]! := by
 intro n
 induction n with
 | zero =>
  intro h k
  show d[k]! = _
  rw [if_neg (by omega)]
  split
  ·next e => subst e; rfl
  ·rfl
 | succ n ih =>
  intro h k
  have g := ih (by omega)
  rw [shD, swp_get _ (by rw [shD_size]; omega) (by rw [shD_size]; omega), g, g, g]
  repeat' split
  all_goals first | (exfalso; omega) | rfl | (congr 1; omega)
theorem shD_perm (d : Array α) (lo hi m : Nat) (hm : m < hi) (hh : hi ≤ d.size) : ∀ n, lo + n ≤ m → PermIn lo hi d (shD d m n) := by
 intro n
 induction n with
 | zero => intro _; exact permIn_refl d lo hi
 | succ n ih =>
  intro h1
  exact permIn_trans _ _ _ lo hi (ih (by omega)) (swp_permIn _ lo hi _ _ (by omega) (by omega) (by omega) (by omega) (by rw [shD_size]; exact hh))
end
open Go.Sort
section
variable {α : Type} [Inhabited α]
def cutF (lt : α → α → Bool) (d : Array α) (a m b : Nat) : Nat :=
 if (a + b) / 2 < m then bsF (fun c => !lt d[(a + b) / 2 + m - 1 - c]! d[c]!) (b - a) ((a + b) / 2 + m - b) ((a + b) / 2)
 else bsF (fun c => !lt d[(a + b) / 2 + m - 1 - c]! d[c]!) (b - a) a m
def turnF (d : Array α) (s m e : Nat) : Array α := if s < m ∧ m < e then rotF (e - s) d m (m - s) (e - m) else d
def symF (lt : α → α → Bool) : Nat → Array α → Nat → Nat → Nat → Array α
 | 0, d, _, _, _ => d
 | f + 1, d, a, m, b =>
  if m - a = 1 then shU d a (bsF (fun h => lt d[h]! d[a]!) (b - m) m b - 1 - a)
  else if b - m = 1 then shD d m (m - bsF (fun h => !lt d[m]! d[h]!) (m - a) a m)
  else
   let s := cutF lt d a m b
   let e := (a + b) / 2 + m - s
   let d1 := turnF d s m e
   let d2 := if a < s ∧ s < (a + b) / 2 then symF lt f d1 a s ((a + b) / 2) else d1
   if (a + b) / 2 < e ∧ e < b then symF lt f d2 ((a + b) / 2) e b else d2
variable {lt : α → α → Bool} {tg : α → Nat}
omit [Inhabited α] in
theorem lx_tr (hS : SWO lt) {x y z : α} (h1 : lexB lt tg y x = false) (h2 : lexB lt tg z y = false) : lexB lt tg z x = false := (lexB_swo hS).ntrans _ _ _ h2 h1
omit [Inhabited α] in
theorem lx_as (hS : SWO lt) {x y : α} (h1 : lexB lt tg x y = true) : lexB lt tg y x = false := (lexB_swo hS).asymmA h1
omit [Inhabited α] in
theorem lx_lt_le (hS : SWO lt) {x y z : α} (h1 : lexB lt tg x y = true) (h2 : lexB lt tg z y = false) : lexB lt tg x z = true := by
 cases h : lexB lt tg x z with
 | true => rfl
 | false => have := (lexB_swo hS).ntrans _ _ _ h h2; rw [h1] at this; cases this
omit [Inhabited α] in
theorem lx_le_lt (hS : SWO lt) {x y z : α} (h1 : lexB lt tg y x = false) (h2 : lexB lt tg y z = true) : lexB lt tg x z = true := by
 cases h : lexB lt tg x z with
 | true => rfl
 | false => have := (lexB_swo hS).ntrans _ _ _ h1 h; rw [h2] at this; cases this
theorem srt_le {a b : Nat} {d : Array α} (hS : SWO lt) (h : SortedIn (lexB lt tg) a b d) {i j : Nat} (h1 : a ≤ i) (h2 : i ≤ j) (h3 : j < b) : lexB lt tg d[j]! d[i]! = false := by
 rcases Nat.lt_or_ge i j with hij | hij
 ·exact h i j h1 hij h3
 ·obtain rfl : i = j := by omega
  exact (lexB_swo hS).irrefl _
theorem sym_up (hS : SWO lt) (d : Array α) (a m b : Nat) (hm : m - a = 1) (ham : a < m) (hmb : m < b) (hb : b ≤ d.size) (hR : SortedIn (lexB lt tg) m b d) (ht : ∀ q, m ≤ q → q < b → tg d[a]! < tg d[q]!) :
  PermIn a b d (shU d a (bsF (fun h => lt d[h]! d[a]!) (b - m) m b - 1 - a)) ∧ SortedIn (lexB lt tg) a b (shU d a (bsF (fun h => lt d[h]! d[a]!) (b - m) m b - 1 - a)) := by
 obtain ⟨k1, k2, k3, k4⟩ := bsF_spec (fun h => lt d[h]! d[a]!) (b - m) m b (by omega) (by omega)
 generalize bsF (fun h => lt d[h]! d[a]!) (b - m) m b = i at *
 have hlo : ∀ k, m ≤ k → k < i → lexB lt tg d[k]! d[a]! = true := fun k hmk hki => by
  have h1 : lexB lt tg d[i - 1]! d[a]! = true := by rw [lexB_back (Nat.le_of_lt (ht _ (by omega) (by omega)))]; exact k3 (by omega)
  exact lx_le_lt hS (srt_le hS hR hmk (by omega) (by omega)) h1
 have hhi : ∀ k, i ≤ k → k < b → lexB lt tg d[k]! d[a]! = false := fun k hik hkb => by
  have h1 : lexB lt tg d[i]! d[a]! = false := by rw [lexB_back (Nat.le_of_lt (ht _ (by omega) (by omega)))]; exact k4 (by omega)
  exact lx_tr hS h1 (srt_le hS hR (by omega) hik hkb)
 refine ⟨shU_perm d a b a _ (Nat.le_refl _) (by omega) hb, fun p q hap hpq hqb => ?_⟩
 have g := shU_get d a (i - 1 - a) (by omega)
 rw [g, g]
 by_cases q1 : a ≤ q ∧ q < a + (i - 1 - a)
 ·rw [if_pos q1, if_pos (by omega)]
  exact srt_le hS hR (by omega) (by omega) (by omega)
 ·rw [if_neg q1]
  by_cases q2 : q = a + (i - 1 - a)
  ·rw [if_pos q2, if_pos (by omega)]
   exact lx_as hS (hlo _ (by omega) (by omega))
  ·rw [if_neg q2]
   by_cases p1 : a ≤ p ∧ p < a + (i - 1 - a)
   ·rw [if_pos p1]
    exact srt_le hS hR (by omega) (by omega) (by omega)
   ·rw [if_neg p1]
    by_cases p2 : p = a + (i - 1 - a)
    ·rw [if_pos p2]
     exact hhi q (by omega) hqb
    ·rw [if_neg p2]
     exact srt_le hS hR (by omega) (by omega) (by omega)
theorem sym_dn (hS : SWO lt) (d : Array α) (a m b : Nat) (hm : b - m = 1) (ham : a < m) (hmb : m < b) (hb : b ≤ d.size) (hL : SortedIn (lexB lt tg) a m d) (ht : ∀ p, a ≤ p → p < m → tg d[p]! < tg d[m]!) :
  PermIn a b d (shD d m (m - bsF (fun h => !lt d[m]! d[h]!) (m - a) a m)) ∧ SortedIn (lexB lt tg) a b (shD d m (m - bsF (fun h => !lt d[m]! d[h]!) (m - a) a m)) := by
 obtain ⟨k1, k2, k3, k4⟩ := bsF_spec (fun h => !lt d[m]! d[h]!) (m - a) a m (by omega) (by omega)
 generalize bsF (fun h => !lt d[m]! d[h]!) (m - a) a m = i at *
 simp only [Bool.not_eq_true', Bool.not_eq_false'] at k3 k4
 have hlo : ∀ k, a ≤ k → k < i → lexB lt tg d[m]! d[k]! = false := fun k hak hki => by
  have h1 : lexB lt tg d[m]! d[i - 1]! = false := by rw [lexB_back (Nat.le_of_lt (ht _ (by omega) (by omega)))]; exact k3 (by omega)
  exact lx_tr hS (srt_le hS hL hak (by omega) (by omega)) h1
 have hhi : ∀ k, i ≤ k → k < m → lexB lt tg d[m]! d[k]! = true := fun k hik hkm => by
  have h1 : lexB lt tg d[m]! d[i]! = true := by rw [lexB_back (Nat.le_of_lt (ht _ (by omega) (by omega)))]; exact k4 (by omega)
  exact lx_lt_le hS h1 (srt_le hS hL (by omega) hik hkm)
 refine ⟨shD_perm d a b m hmb hb _ (by omega), fun p q hap hpq hqb => ?_⟩
 have g := shD_get d m (by omega) (m - i) (by omega)
 rw [g, g]
 by_cases q1 : m - (m - i) < q ∧ q ≤ m
 ·rw [if_pos q1]
  by_cases p1 : m - (m - i) < p ∧ p ≤ m
  ·rw [if_pos p1]; exact srt_le hS hL (by omega) (by omega) (by omega)
  ·rw [if_neg p1]
   by_cases p2 : p = m - (m - i)
   ·rw [if_pos p2]; exact lx_as hS (hhi _ (by omega) (by omega))
   ·rw [if_neg p2]; exact srt_le hS hL (by omega) (by omega) (by omega)
 ·rw [if_neg q1]
  by_cases q2 : q = m - (m - i)
  ·rw [if_pos q2, if_neg (by omega), if_neg (by omega)]; exact hlo _ (by omega) (by omega)
  ·rw [if_neg q2, if_neg (by omega), if_neg (by omega)]; exact srt_le hS hL (by omega) (by omega) (by omega)
theorem cut_spec (hS : SWO lt) (d : Array α) (a m b : Nat) (h1 : a + 2 ≤ m) (h2 : m + 2 ≤ b) (hb : b ≤ d.size) (hL : SortedIn (lexB lt tg) a m d) (hR : SortedIn (lexB lt tg) m b d) (ht : ∀ p q, a ≤ p → p < m → m ≤ q → q < b → tg d[p]! < tg d[q]!) :
  a ≤ cutF lt d a m b ∧ cutF lt d a m b ≤ m ∧ cutF lt d a m b ≤ (a + b) / 2 ∧ m ≤ (a + b) / 2 + m - cutF lt d a m b ∧ (a + b) / 2 + m - cutF lt d a m b ≤ b ∧
  (∀ i j, cutF lt d a m b ≤ i → i < m → m ≤ j → j < (a + b) / 2 + m - cutF lt d a m b → lexB lt tg d[j]! d[i]! = true) ∧
  (∀ i j, a ≤ i → i < cutF lt d a m b → (a + b) / 2 + m - cutF lt d a m b ≤ j → j < b → lexB lt tg d[j]! d[i]! = false) := by
 unfold cutF
 obtain ⟨c, hc⟩ : ∃ c, (a + b) / 2 = c := ⟨_, rfl⟩
 have hc1 : a + b = 2 * c ∨ a + b = 2 * c + 1 := by omega
 rw [hc]
 by_cases hcm : c < m
 ·rw [if_pos hcm]
  obtain ⟨k1, k2, k3, k4⟩ := bsF_spec (fun x => !lt d[c + m - 1 - x]! d[x]!) (b - a) (c + m - b) c (by omega) (by omega)
  generalize bsF (fun x => !lt d[c + m - 1 - x]! d[x]!) (b - a) (c + m - b) c = s at *
  simp only [Bool.not_eq_true', Bool.not_eq_false'] at k3 k4
  refine ⟨by omega, by omega, k2, by omega, by omega, fun i j hi hi2 hj hj2 => ?_, fun i j hi hi2 hj hj2 => ?_⟩
  ·have hs : s < c := by omega
   have e1 : lexB lt tg d[c + m - 1 - s]! d[s]! = true := by rw [lexB_back (Nat.le_of_lt (ht _ _ (by omega) (by omega) (by omega) (by omega)))]; exact k4 hs
   exact lx_lt_le hS (lx_le_lt hS (srt_le hS hR hj (by omega) (by omega)) e1) (srt_le hS hL (by omega) hi hi2)
  ·have hs : c + m - b < s := by omega
   have e1 : lexB lt tg d[c + m - 1 - (s - 1)]! d[s - 1]! = false := by rw [lexB_back (Nat.le_of_lt (ht _ _ (by omega) (by omega) (by omega) (by omega)))]; exact k3 hs
   exact lx_tr hS (srt_le hS hL hi (show i ≤ s - 1 by omega) (by omega)) (lx_tr hS e1 (srt_le hS hR (by omega) (by omega) hj2))
 ·rw [if_neg hcm]
  obtain ⟨k1, k2, k3, k4⟩ := bsF_spec (fun x => !lt d[c + m - 1 - x]! d[x]!) (b - a) a m (by omega) (by omega)
  generalize bsF (fun x => !lt d[c + m - 1 - x]! d[x]!) (b - a) a m = s at *
  simp only [Bool.not_eq_true', Bool.not_eq_false'] at k3 k4
  refine ⟨k1, k2, by omega, by omega, by omega, fun i j hi hi2 hj hj2 => ?_, fun i j hi hi2 hj hj2 => ?_⟩
  ·have hs : s < m := by omega
   have e1 : lexB lt tg d[c + m - 1 - s]! d[s]! = true := by rw [lexB_back (Nat.le_of_lt (ht _ _ (by omega) (by omega) (by omega) (by omega)))]; exact k4 hs
   exact lx_lt_le hS (lx_le_lt hS (srt_le hS hR hj (by omega) (by omega)) e1) (srt_le hS hL (by omega) hi hi2)
  ·have hs : a < s := by omega
   have e1 : lexB lt tg d[c + m - 1 - (s - 1)]! d[s - 1]! = false := by rw [lexB_back (Nat.le_of_lt (ht _ _ (by omega) (by omega) (by omega) (by omega)))]; exact k3 hs
   exact lx_tr hS (srt_le hS hL hi (show i ≤ s - 1 by omega) (by omega)) (lx_tr hS e1 (srt_le hS hR (by omega) (by omega) hj2))
theorem turnF_size (d : Array α) (s m e : Nat) : (turnF d s m e).size = d.size := by
 unfold turnF; split
 ·exact rotF_size _ _ _ _ _
 ·rfl
theorem turnF_get (d : Array α) (s m e : Nat) (h1 : s ≤ m) (h2 : m ≤ e) (h3 : e ≤ d.size) (k : Nat) : (turnF d s m e)[k]! = if s ≤ k ∧ k < s + (e - m) then d[k + (m - s)]! else if s + (e - m) ≤ k ∧ k < e then d[k - (e - m)]! else d[k]! := by
 unfold turnF
 split
 ·next h =>
  rw [rotF_get _ d m (m - s) (e - m) (by omega) (by omega) (by omega) (by omega) (by omega)]
  repeat' split
  all_goals first | (exfalso; omega) | rfl | (congr 1; omega)
 ·next h =>
  repeat' split
  all_goals first | (exfalso; omega) | rfl | (congr 1; omega)
theorem turnF_perm (d : Array α) (lo hi s m e : Nat) (h1 : lo ≤ s) (h2 : s ≤ m) (h3 : m ≤ e) (h4 : e ≤ hi) (h5 : hi ≤ d.size) : PermIn lo hi d (turnF d s m e) := by
 unfold turnF
 split
 ·exact rotF_perm lo hi _ _ _ _ _ (by omega) (by omega) (by omega) h5
 ·exact permIn_refl d lo hi
theorem symF_ok (hS : SWO lt) : ∀ (f : Nat) (d : Array α) (a m b : Nat), b - a ≤ f → a < m → m < b → b ≤ d.size → SortedIn (lexB lt tg) a m d → SortedIn (lexB lt tg) m b d → (∀ p q, a ≤ p → p < m → m ≤ q → q < b → tg d[p]! < tg d[q]!) →
  PermIn a b d (symF lt f d a m b) ∧ SortedIn (lexB lt tg) a b (symF lt f d a m b) := by
 intro f
 induction f with
 | zero => intro d a m b h1 h2 h3; omega
 | succ f ih =>
  intro d a m b hf ham hmb hb hL hR ht
  unfold symF
  by_cases e1 : m - a = 1
  ·rw [if_pos e1]
   exact sym_up hS d a m b e1 ham hmb hb hR (fun q h1 h2 => ht a q (Nat.le_refl _) ham h1 h2)
  ·rw [if_neg e1]
   by_cases e2 : b - m = 1
   ·rw [if_pos e2]
    exact sym_dn hS d a m b e2 ham hmb hb hL (fun p h1 h2 => ht p m h1 h2 (Nat.le_refl _) hmb)
   ·rw [if_neg e2]
    dsimp only
    obtain ⟨s1, s2, s3, s4, s5, s6, s7⟩ := cut_spec (tg := tg) hS d a m b (by omega) (by omega) hb hL hR ht
    generalize cutF lt d a m b = s at *
    obtain ⟨c, hc⟩ : ∃ c, (a + b) / 2 = c := ⟨_, rfl⟩
    have hac : a < c := by omega
    have hcb : c < b := by omega
    rw [hc] at s3 s4 s5 s6 s7 ⊢
    obtain ⟨e, he⟩ : ∃ e, c + m - s = e := ⟨_, rfl⟩
    rw [he] at s4 s5 s6 s7 ⊢
    have hse : s + (e - m) = c := by omega
    have g := turnF_get d s m e s2 s4 (by omega)
    rw [hse] at g
    have hz := turnF_size d s m e
    have hP1 := turnF_perm d a b s m e s1 s2 s4 s5 hb
    generalize turnF d s m e = d1 at *
    -- the left half
    have L1 : PermIn a c d1 (if a < s ∧ s < c then symF lt f d1 a s c else d1) ∧ SortedIn (lexB lt tg) a c (if a < s ∧ s < c then symF lt f d1 a s c else d1) := by
     by_cases hl : a < s ∧ s < c
     ·rw [if_pos hl]
      refine ih d1 a s c (by omega) hl.1 hl.2 (by omega) (fun p q h1 h2 h3 => ?_) (fun p q h1 h2 h3 => ?_) (fun p q h1 h2 h3 h4 => ?_)
      ·rw [g, g, if_neg (by omega), if_neg (by omega), if_neg (by omega), if_neg (by omega)]
       exact srt_le hS hL h1 (by omega) (by omega)
      ·rw [g, g, if_pos (by omega), if_pos (by omega)]
       exact srt_le hS hR (by omega) (by omega) (by omega)
      ·rw [g, g, if_neg (by omega), if_neg (by omega), if_pos (by omega)]
       exact ht _ _ h1 (by omega) (by omega) (by omega)
     ·rw [if_neg hl]
      refine ⟨permIn_refl _ _ _, fun p q h1 h2 h3 => ?_⟩
      rw [g, g]
      by_cases hsa : s = a
      ·rw [if_pos (by omega), if_pos (by omega)]
       exact srt_le hS hR (by omega) (by omega) (by omega)
      ·rw [if_neg (by omega), if_neg (by omega), if_neg (by omega), if_neg (by omega)]
       exact srt_le hS hL h1 (by omega) (by omega)
    obtain ⟨d2, hd2⟩ : ∃ d2, (if a < s ∧ s < c then symF lt f d1 a s c else d1) = d2 := ⟨_, rfl⟩
    rw [hd2] at L1 ⊢
    obtain ⟨P2, S2⟩ := L1
    have g2 : ∀ k, c ≤ k → d2[k]! = d1[k]! := fun k hk => P2.2.1 k (.inr hk)
    have R1 : PermIn c b d2 (if c < e ∧ e < b then symF lt f d2 c e b else d2) ∧ SortedIn (lexB lt tg) c b (if c < e ∧ e < b then symF lt f d2 c e b else d2) := by
     by_cases hl : c < e ∧ e < b
     ·rw [if_pos hl]
      refine ih d2 c e b (by omega) hl.1 hl.2 (by rw [P2.1]; omega) (fun p q h1 h2 h3 => ?_) (fun p q h1 h2 h3 => ?_) (fun p q h1 h2 h3 h4 => ?_)
      ·rw [g2 _ (by omega), g2 _ (by omega), g, g, if_neg (by omega), if_pos (by omega), if_neg (by omega), if_pos (by omega)]
       exact srt_le hS hL (by omega) (by omega) (by omega)
      ·rw [g2 _ (by omega), g2 _ (by omega), g, g, if_neg (by omega), if_neg (by omega), if_neg (by omega), if_neg (by omega)]
       exact srt_le hS hR (by omega) (by omega) (by omega)
      ·rw [g2 _ (by omega), g2 _ (by omega), g, g, if_neg (by omega), if_pos (by omega), if_neg (by omega), if_neg (by omega)]
       exact ht _ _ (by omega) (by omega) (by omega) (by omega)
     ·rw [if_neg hl]
      refine ⟨permIn_refl _ _ _, fun p q h1 h2 h3 => ?_⟩
      rw [g2 _ (by omega), g2 _ (by omega), g, g]
      by_cases hec : e = c
      ·rw [if_neg (by omega), if_neg (by omega), if_neg (by omega), if_neg (by omega)]
       exact srt_le hS hR (by omega) (by omega) (by omega)
      ·rw [if_neg (by omega), if_pos (by omega), if_neg (by omega), if_pos (by omega)]
       exact srt_le hS hL (by omega) (by omega) (by omega)
    obtain ⟨d3, hd3⟩ : ∃ d3, (if c < e ∧ e < b then symF lt f d2 c e b else d2) = d3 := ⟨_, rfl⟩
    rw [hd3] at R1 ⊢
    obtain ⟨P3, S3⟩ := R1
    have z1 := P2.1
    have z2 := P3.1
    have g3 : ∀ k, k < c → d3[k]! = d2[k]! := fun k hk => P3.2.1 k (.inl hk)
    have cross : ∀ p q, a ≤ p → p < c → c ≤ q → q < b → lexB lt tg d1[q]! d1[p]! = false := fun p q h1 h2 h3 h4 => by
     rw [g, g]
     by_cases hp : s ≤ p ∧ p < c
     ·rw [if_neg (by omega), if_pos hp]
      by_cases hq : c ≤ q ∧ q < e
      ·rw [if_pos hq]
       exact lx_as hS (s6 _ _ (by omega) (by omega) (by omega) (by omega))
      ·rw [if_neg hq]
       exact srt_le hS hR (by omega) (by omega) (by omega)
     ·rw [if_neg (by omega), if_neg hp, if_neg (by omega : ¬ (c ≤ p ∧ p < e))]
      by_cases hq : c ≤ q ∧ q < e
      ·rw [if_pos hq]
       exact srt_le hS hL (by omega) (by omega) (by omega)
      ·rw [if_neg hq]
       exact s7 _ _ (by omega) (by omega) (by omega) (by omega)
    have cross2 : ∀ p q, a ≤ p → p < c → c ≤ q → q < b → lexB lt tg d3[q]! d3[p]! = false := fun p q h1 h2 h3 h4 => by
     refine permIn_all d2 d3 c b (fun x => lexB lt tg x d3[p]! = false) (by omega) P3 (fun r hr1 hr2 => ?_) q h3 h4
     rw [g3 p h2, g2 r hr1]
     exact permIn_all d1 d2 a c (fun x => lexB lt tg d1[r]! x = false) (by omega) P2 (fun u hu1 hu2 => cross u r hu1 hu2 hr1 hr2) p h1 h2
    refine ⟨permIn_trans _ _ _ a b hP1 (permIn_trans _ _ _ a b (permIn_mono d1 d2 a c a b (Nat.le_refl _) (by omega) (by omega) P2) (permIn_mono d2 d3 c b a b (by omega) (Nat.le_refl _) (by omega) P3)), fun p q h1 h2 h3 => ?_⟩
    by_cases hq : q < c
    ·rw [g3 p (by omega), g3 q hq]
     exact S2 p q h1 h2 hq
    ·by_cases hp : p < c
     ·exact cross2 p q h1 hp (by omega) h3
     ·exact S3 p q (by omega) h2 h3
end
open Go.Sort
section
variable {α : Type} [Inhabited α]
def insBF (lt : α → α → Bool) (n : Nat) : Nat → Array α → Nat → Array α
 | 0, d, _ => d
 | f + 1, d, a => if a + 20 ≤ n then insBF lt n f (insertionSort lt d a (a + 20)) (a + 20) else insertionSort lt d a n
def mrgF (lt : α → α → Bool) (n s : Nat) : Nat → Array α → Nat → Array α
 | 0, d, _ => d
 | f + 1, d, a => if a + 2 * s ≤ n then mrgF lt n s f (symF lt (2 * s) d a (a + s) (a + 2 * s)) (a + 2 * s) else if a + s < n then symF lt (n - a) d a (a + s) n else d
def stF (lt : α → α → Bool) (n : Nat) : Nat → Array α → Nat → Array α
 | 0, d, _ => d
 | f + 1, d, s => if s < n then stF lt n f (mrgF lt n s (n + 1) d 0) (2 * s) else d
def stableF (lt : α → α → Bool) (d : Array α) : Array α := stF lt d.size (d.size + 1) (insBF lt d.size (d.size + 1) d 0) 20
variable {lt : α → α → Bool} {tg : α → Nat}
def Cut (tg : α → Nat) (n c : Nat) (d : Array α) : Prop := ∀ p q, p < c → c ≤ q → q < n → tg d[p]! < tg d[q]!
theorem Cut.perm {n c lo hi : Nat} {d d' : Array α} (h : Cut tg n c d) (hP : PermIn lo hi d d') (hh : hi ≤ n) (hn : n ≤ d.size) (hc : hi ≤ c ∨ c ≤ lo) : Cut tg n c d' := by
 intro p q hp hq hqn
 by_cases hpi : lo ≤ p ∧ p < hi
 ·rw [hP.2.1 q (by omega)]
  exact permIn_all d d' lo hi (fun x => tg x < tg d[q]!) (by omega) hP (fun r h1 h2 => h r q (by omega) hq hqn) p hpi.1 hpi.2
 ·rw [hP.2.1 p (by omega)]
  by_cases hqi : lo ≤ q ∧ q < hi
  ·exact permIn_all d d' lo hi (fun x => tg d[p]! < tg x) (by omega) hP (fun r h1 h2 => h p r hp (by omega) (by omega)) q hqi.1 hqi.2
  ·rw [hP.2.1 q (by omega)]
   exact h p q hp hq hqn
theorem srt_keep {a b lo hi : Nat} {d d' : Array α} {r : α → α → Bool} (h : SortedIn r a b d) (hP : PermIn lo hi d d') (hx : b ≤ lo ∨ hi ≤ a) : SortedIn r a b d' := by
 intro p q h1 h2 h3
 rw [hP.2.1 p (by omega), hP.2.1 q (by omega)]
 exact h p q h1 h2 h3
def BS (lt : α → α → Bool) (tg : α → Nat) (n s : Nat) (d : Array α) : Prop := (∀ j, Cut tg n (j * s) d) ∧ ∀ j, SortedIn (lexB lt tg) (j * s) (min (j * s + s) n) d
theorem insBF_ok (hS : SWO lt) (n : Nat) : ∀ (f : Nat) (d : Array α) (k : Nat), n - k * 20 < f → n = d.size → k * 20 ≤ n → (∀ c, c ≥ k * 20 → Cut tg n c d) → (∀ j, Cut tg n (j * 20) d) → (∀ j, j < k → SortedIn (lexB lt tg) (j * 20) (j * 20 + 20) d) →
  PermIn 0 n d (insBF lt n f d (k * 20)) ∧ BS lt tg n 20 (insBF lt n f d (k * 20)) := by
 intro f
 induction f with
 | zero => intro d k h; omega
 | succ f ih =>
  intro d k hf hn hk hC hJ hSd
  unfold insBF
  have hinc : ∀ p q, k * 20 ≤ p → p < q → q < n → tg d[p]! < tg d[q]! := fun p q h1 h2 h3 => hC q (by omega) p q h2 (Nat.le_refl _) h3
  by_cases h : k * 20 + 20 ≤ n
  ·rw [if_pos h]
   obtain ⟨P1, S1⟩ := insertion_lex (tg := tg) hS d (k * 20) (k * 20 + 20) (by omega) (by omega) (fun p q h1 h2 h3 => hinc p q h1 h2 (by omega))
   generalize insertionSort lt d (k * 20) (k * 20 + 20) = d1 at *
   have e : k * 20 + 20 = (k + 1) * 20 := by omega
   rw [e] at P1 S1 h ⊢
   obtain ⟨P2, B2⟩ := ih d1 (k + 1) (by omega) (by rw [P1.1]; exact hn) h
    (fun c hc => (hC c (by omega)).perm P1 h (by omega) (.inl hc))
    (fun j => (hJ j).perm P1 h (by omega) (by rcases Nat.lt_or_ge k j with hj | hj <;> omega))
    (fun j hj => by
     rcases Nat.lt_or_ge j k with hjk | hjk
     ·exact srt_keep (hSd j hjk) P1 (.inl (by omega))
     ·obtain rfl : j = k := by omega
      rw [e]; exact S1)
   exact ⟨permIn_trans _ _ _ 0 n (permIn_mono d d1 _ _ 0 n (Nat.zero_le _) h (by omega) P1) P2, B2⟩
  ·rw [if_neg h]
   obtain ⟨P1, S1⟩ := insertion_lex (tg := tg) hS d (k * 20) n hk (by omega) (fun p q h1 h2 h3 => hinc p q h1 h2 h3)
   generalize insertionSort lt d (k * 20) n = d1 at *
   refine ⟨permIn_mono d d1 _ _ 0 n (Nat.zero_le _) (Nat.le_refl _) (by omega) P1, fun j => (hJ j).perm P1 (Nat.le_refl _) (by omega) ?_, fun j => ?_⟩
   ·rcases Nat.lt_or_ge k j with hj | hj <;> omega
   ·rcases Nat.lt_trichotomy j k with hj | hj | hj
    ·rw [Nat.min_eq_left (by omega)]
     exact srt_keep (hSd j hj) P1 (.inl (by omega))
    ·subst hj
     rw [Nat.min_eq_right (by omega)]; exact S1
    ·intro p q h1 h2 h3; omega
theorem mrgF_ok (hS : SWO lt) (n s : Nat) (hs : 0 < s) : ∀ (f : Nat) (d : Array α) (k a : Nat), a = k * (2 * s) → n < a + f → n = d.size → a ≤ n → (∀ j, Cut tg n (j * (2 * s)) d) → (∀ j, a ≤ j * s → Cut tg n (j * s) d) →
  (∀ j, j < k → SortedIn (lexB lt tg) (j * (2 * s)) (j * (2 * s) + 2 * s) d) → (∀ j, a ≤ j * s → SortedIn (lexB lt tg) (j * s) (min (j * s + s) n) d) →
  PermIn 0 n d (mrgF lt n s f d a) ∧ BS lt tg n (2 * s) (mrgF lt n s f d a) := by
 intro f
 induction f with
 | zero => intro d k a ha h; omega
 | succ f ih =>
  intro d k a ha hf hn han hC2 hC hB hSd
  have e2 : (2 * k) * s = a := by rw [ha, Nat.mul_comm 2 k, Nat.mul_assoc]
  have e3 : (2 * k + 1) * s = a + s := by rw [Nat.add_mul, Nat.one_mul, e2]
  have hmul : ∀ j, j * (2 * s) ≤ a ∨ a + 2 * s ≤ j * (2 * s) := fun j => by
   rcases Nat.lt_or_ge k j with h | h
   ·right
    have := Nat.mul_le_mul_right (2 * s) (show k + 1 ≤ j from h)
    rw [Nat.add_mul, Nat.one_mul] at this; omega
   ·left
    have := Nat.mul_le_mul_right (2 * s) h
    omega
  have hblk : ∀ j, j < k → j * (2 * s) + 2 * s ≤ a := fun j hj => by
   have := Nat.mul_le_mul_right (2 * s) (show j + 1 ≤ k from hj)
   rw [Nat.add_mul, Nat.one_mul] at this; omega
  have hA : SortedIn (lexB lt tg) a (min (a + s) n) d := by have := hSd (2 * k) (by omega); rw [e2] at this; exact this
  have hA2 : SortedIn (lexB lt tg) (a + s) (min (a + s + s) n) d := by have := hSd (2 * k + 1) (by omega); rw [e3] at this; exact this
  have hCm : Cut tg n (a + s) d := by have := hC (2 * k + 1) (by omega); rw [e3] at this; exact this
  unfold mrgF
  by_cases h : a + 2 * s ≤ n
  ·rw [if_pos h]
   rw [Nat.min_eq_left (by omega)] at hA hA2
   obtain ⟨P1, S1⟩ := symF_ok (tg := tg) hS (2 * s) d a (a + s) (a + 2 * s) (by omega) (by omega) (by omega) (by omega) hA (by rw [show a + 2 * s = a + s + s by omega]; exact hA2) (fun p q h1 h2 h3 h4 => hCm p q h2 h3 (by omega))
   generalize symF lt (2 * s) d a (a + s) (a + 2 * s) = d1 at *
   have hm : ∀ j, a + 2 * s ≤ j * s → a ≤ j * s := fun j hj => by omega
   obtain ⟨P2, B2⟩ := ih d1 (k + 1) (a + 2 * s) (by rw [Nat.add_mul, Nat.one_mul, ha]) (by omega) (by rw [P1.1]; exact hn) h
    (fun j => (hC2 j).perm P1 h (by omega) (hmul j).symm)
    (fun j hj => (hC j (hm j hj)).perm P1 h (by omega) (.inl hj))
    (fun j hj => by
     rcases Nat.lt_or_ge j k with hjk | hjk
     ·exact srt_keep (hB j hjk) P1 (.inl (hblk j hjk))
     ·obtain rfl : j = k := by omega
      rw [← ha]; exact S1)
    (fun j hj => srt_keep (hSd j (hm j hj)) P1 (.inr hj))
   exact ⟨permIn_trans _ _ _ 0 n (permIn_mono d d1 _ _ 0 n (Nat.zero_le _) h (by omega) P1) P2, B2⟩
  ·rw [if_neg h]
   have fin : ∀ d1 : Array α, PermIn a n d d1 → SortedIn (lexB lt tg) a n d1 → PermIn 0 n d d1 ∧ BS lt tg n (2 * s) d1 := fun d1 P1 S1 => by
    refine ⟨permIn_mono d d1 _ _ 0 n (Nat.zero_le _) (Nat.le_refl _) (by omega) P1, fun j => ?_, fun j => ?_⟩
    ·rcases hmul j with hj | hj
     ·exact (hC2 j).perm P1 (Nat.le_refl _) (by omega) (.inr hj)
     ·exact (hC2 j).perm P1 (Nat.le_refl _) (by omega) (.inl (by omega))
    ·rcases Nat.lt_trichotomy j k with hj | hj | hj
     ·have := hblk j hj
      rw [Nat.min_eq_left (by omega)]
      exact srt_keep (hB j hj) P1 (.inl this)
     ·subst hj
      rw [← ha, Nat.min_eq_right (by omega)]; exact S1
     ·rcases hmul j with h5 | h5
      ·exfalso
       have := Nat.mul_le_mul_right (2 * s) (show k + 1 ≤ j from hj)
       rw [Nat.add_mul, Nat.one_mul] at this; omega
      ·intro p q h1 h2 h3; omega
   by_cases h2 : a + s < n
   ·rw [if_pos h2]
    rw [Nat.min_eq_left (by omega)] at hA
    rw [Nat.min_eq_right (by omega)] at hA2
    obtain ⟨P1, S1⟩ := symF_ok (tg := tg) hS (n - a) d a (a + s) n (by omega) (by omega) h2 (by omega) hA hA2 (fun p q h1 h2 h3 h4 => hCm p q h2 h3 h4)
    exact fin _ P1 S1
   ·rw [if_neg h2]
    rw [Nat.min_eq_right (by omega)] at hA
    exact fin d (permIn_refl _ _ _) hA
theorem stF_ok (hS : SWO lt) (n : Nat) : ∀ (f : Nat) (d : Array α) (s : Nat), 0 < s → n < s + f → n = d.size → BS lt tg n s d → PermIn 0 n d (stF lt n f d s) ∧ SortedIn (lexB lt tg) 0 n (stF lt n f d s) := by
 intro f
 induction f with
 | zero =>
  intro d s hs h hn hB
  unfold stF
  have := hB.2 0
  rw [Nat.zero_mul, Nat.min_eq_right (by omega)] at this
  exact ⟨permIn_refl _ _ _, this⟩
 | succ f ih =>
  intro d s hs h hn hB
  unfold stF
  by_cases hsn : s < n
  ·rw [if_pos hsn]
   have e : ∀ j, j * (2 * s) = (2 * j) * s := fun j => by rw [Nat.mul_comm 2 j, Nat.mul_assoc]
   obtain ⟨P1, B1⟩ := mrgF_ok (tg := tg) hS n s hs (n + 1) d 0 0 (by omega) (by omega) hn (Nat.zero_le _) (fun j => by rw [e]; exact hB.1 _) (fun j _ => hB.1 j) (fun j hj => by omega) (fun j _ => hB.2 j)
   obtain ⟨P2, S2⟩ := ih _ (2 * s) (by omega) (by omega) (by rw [P1.1]; exact hn) B1
   exact ⟨permIn_trans _ _ _ 0 n P1 P2, S2⟩
  ·rw [if_neg hsn]
   have := hB.2 0
   rw [Nat.zero_mul, Nat.min_eq_right (by omega)] at this
   exact ⟨permIn_refl _ _ _, this⟩
theorem stableF_ok (hS : SWO lt) (d : Array α) (ht : ∀ p q, p < q → q < d.size → tg d[p]! < tg d[q]!) : PermIn 0 d.size d (stableF lt d) ∧ SortedIn (lexB lt tg) 0 d.size (stableF lt d) := by
 unfold stableF
 have hc : ∀ c, Cut tg d.size c d := fun c p q h1 h2 h3 => ht p q (by omega) h3
 obtain ⟨P1, B1⟩ := insBF_ok (tg := tg) hS d.size (d.size + 1) d 0 (by omega) rfl (Nat.zero_le _) (fun c _ => hc c) (fun j => hc _) (fun j hj => by omega)
 rw [Nat.zero_mul] at P1 B1
 obtain ⟨P2, S2⟩ := stF_ok (tg := tg) hS d.size (d.size + 1) _ 20 (by omega) (by omega) P1.1.symm B1
 exact ⟨permIn_trans _ _ _ 0 _ P1 P2, S2⟩
omit [Inhabited α] in
theorem lex_one (hS : SWO lt) : ∀ (l1 l2 : List α), l1.Perm l2 → l1.Pairwise (fun x y => lexB lt tg y x = false) → l2.Pairwise (fun x y => lexB lt tg y x = false) → (∀ x ∈ l1, ∀ y ∈ l1, tg x = tg y → x = y) → l1 = l2 := by
 intro l1
 induction l1 with
 | nil => intro l2 h _ _ _; exact (List.Perm.nil_eq h)
 | cons x l1 ih =>
  intro l2 h h1 h2 hu
  cases l2 with
  | nil => exact absurd (List.Perm.length_eq h) (by simp)
  | cons y l2 =>
   have hxy : x = y := by
    have hx : x ∈ y :: l2 := h.subset (by simp)
    have hy : y ∈ x :: l1 := h.symm.subset (by simp)
    rcases List.mem_cons.1 hx with e | hx
    ·exact e
    ·rcases List.mem_cons.1 hy with e | hy2
     ·exact e.symm
     ·have a1 := (List.pairwise_cons.1 h1).1 y hy2
      have a2 := (List.pairwise_cons.1 h2).1 x hx
      exact hu x (by simp) y hy (lexB_total hS a2 a1)
   subst hxy
   rw [ih l2 (List.Perm.cons_inv h) (List.pairwise_cons.1 h1).2 (List.pairwise_cons.1 h2).2 (fun u hu1 v hv1 => hu u (by simp [hu1]) v (by simp [hv1]))]
theorem srt_list {r : α → α → Bool} (d : Array α) (h : SortedIn r 0 d.size d) : d.toList.Pairwise (fun x y => r y x = false) := by
 rw [List.pairwise_iff_getElem]
 intro i j hi hj hij
 have := h i j (Nat.zero_le _) hij (by simpa using hj)
 rw [getElem!_pos d i (by simpa using hi), getElem!_pos d j (by simpa using hj)] at this
 simpa using this
end
def insS {α : Type} (lt : α → α → Bool) (x : α) : List α → List α
 | [] => [x]
 | y :: l => if lt x y = true then x :: y :: l else y :: insS lt x l
def insAll {α : Type} (lt : α → α → Bool) (l : List α) : List α := l.foldl (fun o x => insS lt x o) []
section
variable {α : Type} {lt : α → α → Bool} {tg : α → Nat}
theorem insS_perm (x : α) : ∀ l, (insS lt x l).Perm (x :: l) := by
 intro l
 induction l with
 | nil => exact List.Perm.refl _
 | cons y l ih =>
  unfold insS
  split
  ·exact List.Perm.refl _
  ·exact (List.Perm.cons y ih).trans (List.Perm.swap x y l)
theorem insS_sorted (hS : SWO lt) (x : α) : ∀ l : List α, l.Pairwise (fun x y => lexB lt tg y x = false) → (∀ y ∈ l, tg y < tg x) → (insS lt x l).Pairwise (fun x y => lexB lt tg y x = false) := by
 intro l
 induction l with
 | nil => intro _ _; unfold insS; simp
 | cons y l ih =>
  intro h ht
  obtain ⟨h1, h2⟩ := List.pairwise_cons.1 h
  have hb : lexB lt tg x y = lt x y := lexB_back (Nat.le_of_lt (ht y (by simp)))
  unfold insS
  by_cases hx : lt x y = true
  ·rw [if_pos hx]
   rw [hx] at hb
   have hyx : lexB lt tg y x = false := (lexB_swo hS).asymmA hb
   refine List.pairwise_cons.2 ⟨fun z hz => ?_, h⟩
   rcases List.mem_cons.1 hz with rfl | hz
   ·exact hyx
   ·exact (lexB_swo hS).ntrans _ _ _ (h1 z hz) hyx
  ·rw [if_neg hx]
   refine List.pairwise_cons.2 ⟨fun z hz => ?_, ih h2 (fun z hz => ht z (by simp [hz]))⟩
   have hz2 := (insS_perm x l).subset hz
   rcases List.mem_cons.1 hz2 with rfl | hz2
   ·rw [hb]; simpa using hx
   ·exact h1 z hz2
theorem insAll_ok (hS : SWO lt) : ∀ (l o : List α), o.Pairwise (fun x y => lexB lt tg y x = false) → (∀ y ∈ o, ∀ x ∈ l, tg y < tg x) → l.Pairwise (fun x y => tg x < tg y) →
  (l.foldl (fun o x => insS lt x o) o).Perm (o ++ l) ∧ (l.foldl (fun o x => insS lt x o) o).Pairwise (fun x y => lexB lt tg y x = false) := by
 intro l
 induction l with
 | nil => intro o ho _ _; rw [List.append_nil]; exact ⟨List.Perm.refl _, ho⟩
 | cons x l ih =>
  intro o ho ht hp
  obtain ⟨h1, h2⟩ := List.pairwise_cons.1 hp
  have hI := insS_perm (lt := lt) x o
  obtain ⟨p1, p2⟩ := ih (insS lt x o) (insS_sorted hS x o ho (fun y hy => ht y hy x (by simp))) (fun y hy z hz => by
   rcases List.mem_cons.1 (hI.subset hy) with rfl | hy
   ·exact h1 z hz
   ·exact ht y hy z (by simp [hz])) h2
  refine ⟨?_, p2⟩
  rw [List.foldl_cons]
  refine p1.trans ?_
  refine (List.Perm.append_right l hI).trans ?_
  exact (List.perm_middle).symm
theorem insS_map {β : Type} {lt' : β → β → Bool} (f : α → β) (hf : ∀ x y, lt x y = lt' (f x) (f y)) (x : α) : ∀ l, (insS lt x l).map f = insS lt' (f x) (l.map f) := by
 intro l
 induction l with
 | nil => rfl
 | cons y l ih =>
  rw [List.map_cons]
  unfold insS
  rw [hf]
  split
  ·simp
  ·rw [List.map_cons, ih]
theorem insAll_map {β : Type} {lt' : β → β → Bool} (f : α → β) (hf : ∀ x y, lt x y = lt' (f x) (f y)) : ∀ (l o : List α), (l.foldl (fun o x => insS lt x o) o).map f = (l.map f).foldl (fun o x => insS lt' x o) (o.map f) := by
 intro l
 induction l with
 | nil => intro o; rfl
 | cons x l ih => intro o; rw [List.foldl_cons, ih, insS_map f hf, List.map_cons, List.foldl_cons]
end
section
variable {β : Type} [Inhabited β]
def tagged (l : List β) : Array (β × Nat) := l.zipIdx.toArray
theorem stable_ins (lt : β → β → Bool) (hS : SWO lt) (l : List β) : (stableF (fun x y : β × Nat => lt x.1 y.1) (tagged l)).toList.map (·.1) = insAll lt l := by
 have hS2 : SWO (fun x y : β × Nat => lt x.1 y.1) := ⟨fun x => hS.irrefl _, fun x y z => hS.trans _ _ _, fun x y z => hS.ntrans _ _ _⟩
 have hz : (tagged l).size = l.length := by unfold tagged; simp
 have hg : ∀ p, p < l.length → (tagged l)[p]!.2 = p := fun p hp => by
  unfold tagged
  rw [getElem!_pos _ p (by simpa using hp)]
  simp
 obtain ⟨P, S⟩ := stableF_ok (tg := fun x : β × Nat => x.2) hS2 (tagged l) (fun p q hpq hq => by rw [hz] at hq; rw [hg p (by omega), hg q hq]; exact hpq)
 have hinc : l.zipIdx.Pairwise (fun x y => x.2 < y.2) := by
  rw [List.pairwise_iff_getElem]
  intro i j hi hj hij
  simp; exact hij
 obtain ⟨p1, p2⟩ := insAll_ok (lt := fun x y : β × Nat => lt x.1 y.1) (tg := fun x : β × Nat => x.2) hS2 l.zipIdx [] List.Pairwise.nil (fun y hy => by cases hy) hinc
 rw [List.nil_append] at p1
 have hperm : (stableF (fun x y : β × Nat => lt x.1 y.1) (tagged l)).toList.Perm l.zipIdx := by
  have h3 := P.2.2
  rw [show (tagged l).extract 0 (tagged l).size = tagged l by simp] at h3
  have e : (stableF (fun x y : β × Nat => lt x.1 y.1) (tagged l)).extract 0 (tagged l).size = stableF (fun x y : β × Nat => lt x.1 y.1) (tagged l) := by
   rw [← P.1]; simp
  rw [e] at h3
  simpa [tagged] using h3
 have hs2 := srt_list _ (by rw [P.1]; exact S)
 have e := lex_one (lt := fun x y : β × Nat => lt x.1 y.1) (tg := fun x : β × Nat => x.2) hS2 _ _ (hperm.trans p1.symm) hs2 p2 (fun x hx y hy hxy => by
  have hx2 := hperm.subset hx
  have hy2 := hperm.subset hy
  obtain ⟨a, i⟩ := x
  obtain ⟨b, j⟩ := y
  rw [List.mem_zipIdx_iff_getElem?] at hx2 hy2
  simp at hxy hx2 hy2
  subst hxy
  rw [hx2] at hy2
  simpa using hy2)
 have e3 := insAll_map (lt := fun x y : β × Nat => lt x.1 y.1) (lt' := lt) (fun x : β × Nat => x.1) (fun _ _ => rfl) l.zipIdx []
 rw [e, e3, List.map_nil]
 unfold insAll
 congr 1
 simp
end
theorem gPow : prog.globalNamed "internal/strconv.uint64pow10" = some 1 := by kernel_rfl
def Tab (w : World) : Prop := Lib.TabIs prog w "internal/strconv.uint64pow10" .u64 Lib.pow10Tab
section
variable {w w' w2 : World} {o o' : Obj}
theorem Tab.next (h : Tab w) (hb : Below w.heap.size w w') : Tab w' := Joins.tab_stays gPow h hb (Nat.le_refl _)
theorem Tab.alloc (h : Tab w) (o : Obj) : Tab (w.alloc o) := h.next ((Below.refl _ _).alloc (Nat.le_refl _) o)
theorem Tab.drewN (h : Tab w) (k : Nat) : Tab (w.drewN k) := h
theorem Tab.drew (h : Tab w) : Tab w.drew := h
end
def decT (n : Int) : ByteArray := ⟨(Lib.itoa n).toArray⟩
theorem decT_size (n : Int) (h0 : -9223372036854775808 ≤ n) (h1 : n ≤ 9223372036854775807) : (decT n).size ≤ 21 := by
 have h := Lib.itoa_length_le n h0 h1
 rwa [decT, show (⟨(Lib.itoa n).toArray⟩ : ByteArray).size = (Lib.itoa n).length by simp [ByteArray.size]]
theorem implDecimal_any (n : Int) (w : World) (h0 : -9223372036854775808 ≤ n) (h1 : n ≤ 9223372036854775807) (ht : Tab w) :
  Calls prog 62 #[.int .i64 n] w fun e w' => e = .returned (.string (decT n)) ∧ Below w.heap.size w w' := by
 go_enter func62, ntmps62
 go_wp2_with fail
 refine (Tryz.strconv_Itoa n h0 h1 _ ht).mono ?_
 rintro e w2 ⟨rfl, k, os, rfl⟩
 go_wp2
 go_ret
 exact ⟨rfl, Lib.below_grow _ _ (Nat.le_refl _) _ _⟩
def restD (q : Nat) : List UInt8 := if q = 0 then [] else Lib.decDigits q
theorem restD_step {q : Nat} (h : 0 < q) : restD q = restD (q / 10) ++ [UInt8.ofNat (48 + q % 10)] := by
 unfold restD
 rw [if_neg (by omega)]
 by_cases h10 : q < 10
 ·rw [if_pos (by omega), Lib.decDigits_one h10, Nat.mod_eq_of_lt h10]; rfl
 ·rw [if_neg (by omega), Lib.decDigits, dif_neg h10]
def DecAt (k q : Nat) (out : ByteArray) : Prop := Lib.decDigits k = restD q ++ out.data.toList
theorem decAt_step {k q : Nat} {out : ByteArray} (h : DecAt k q out) (hq : 0 < q) : DecAt k (q / 10) ((⟨#[48 + UInt8.ofNat (q % 10)]⟩ : ByteArray) ++ out) := by
 unfold DecAt at h ⊢
 rw [h, restD_step hq, ba_app, List.append_assoc]
 congr 1
 rw [show (48 + UInt8.ofNat (q % 10) : UInt8) = UInt8.ofNat (48 + q % 10) by rw [UInt8.ofNat_add]; rfl]
theorem decAt_end {k : Nat} {out : ByteArray} (h : DecAt k 0 out) : decT k = out := by
 unfold DecAt restD at h
 refine ba_ext ?_
 rw [if_pos rfl, List.nil_append] at h
 rw [← h, decT, Lib.itoa_nonneg]
theorem decAt_size {k q : Nat} {out : ByteArray} (h : DecAt k q out) (hk : k ≤ 9223372036854775807) : out.size ≤ 21 := by
 have h1 := Lib.itoa_length_le (k : Int) (by omega) (by omega)
 rw [Lib.itoa_nonneg] at h1
 unfold DecAt at h
 have h2 := congrArg List.length h
 rw [lA, ba_len] at h2
 omega
theorem figure_dec (d : Int) (w : World) (h0 : 0 ≤ d) (h1 : d < 10) : Calls prog 161 #[.int .i64 d] w fun e w' => e = .returned (.int .u8 (48 + d)) ∧ w = w' := by
 go_enter func161, ntmps161
 go_wp2
 go_ret
 exact ⟨rfl, rfl⟩
theorem specDecimal_nat (k : Nat) (w : World) (h1 : k ≤ 9223372036854775807) :
  Calls prog 113 #[.int .i64 (k : Int)] w fun e w' => e = .returned (.string (decT k)) ∧ Below w.heap.size w w' := by
 by_cases hk : k = 0
 ·subst hk
  have HE := hid (show decT (0 : Nat) = ⟨#[48]⟩ by rw [decT, Lib.itoa_nonneg, Lib.decDigits_one (by omega)]; rfl)
  go_enter func113, ntmps113
  go_wp2
  go_ret
  exact ⟨ret_str HE.out.symm, grow_⟩
 ·have hk1 : 0 < k := by omega
  have hk2 : ((k : Int) == 0) = false := by rw [beq_eq_false_iff_ne]; omega
  have hAt := hid (show DecAt k k ⟨#[]⟩ by unfold DecAt restD; rw [if_neg (by omega)]; simp)
  clear hk
  go_enter func113, ntmps113
  go_wp2
  go_loopw [0, 4, 5] (fun a o d wr => ∃ (q : Nat) (out : ByteArray), q ≤ k ∧ Hid (DecAt k q out) ∧ a = .int .i64 q ∧ o = .string out ∧ Below w.heap.size w wr) (fun a _ _ _ => (intOf a).toNat)
  case atStart => exact ⟨k, ⟨#[]⟩, Nat.le_refl _, hAt, rfl, rfl, Below.refl _ _⟩
  case round =>
   obtain ⟨q, out, hqk, hat, rfl, rfl, hb⟩ := hrel
   have hout := decAt_size hat.out h1
   by_cases hq : 0 < q
   ·have hst := hid (decAt_step hat.out hq)
    have hq1 : ((q : Int) != 0) = true := by rw [bne_iff_ne]; omega
    have hm0 : (0 : Int) ≤ (q : Int) % 10 := by omega
    have hm1 : (q : Int) % 10 < 10 := by omega
    have hcv := fun W => conv_one W q
    have hz := hb.size
    go_wp2_with (go_at_call 161; refine (figure_dec _ _ (by omega) (by omega)).mono ?_; rintro e w2 ⟨rfl, rfl⟩)
    go_roundw
    case rel => exact ⟨q / 10, _, by omega, hst, by go_num, rfl, grow_⟩
    case measure => simp [intOf]; omega
   ·obtain rfl : q = 0 := by omega
    have hst := hid (decAt_end hat.out)
    go_wp2
    go_ret
    exact ⟨ret_str hst.out.symm, hb⟩
theorem specDecimal_any (n : Int) (w : World) (h0 : 0 ≤ n) (h1 : n ≤ 9223372036854775807) :
  Calls prog 113 #[.int .i64 n] w fun e w' => e = .returned (.string (decT n)) ∧ Below w.heap.size w w' := by
 obtain ⟨k, rfl⟩ := Int.eq_ofNat_of_zero_le h0
 exact specDecimal_nat k w (by omega)
open Go.ChangeShapes Go.WideShapes Go.ChangeAt Go.RowKit
theorem powData : (Rows.laid_internal_strconv_uint64pow10 : DataW Unit) = Lib.tabData .u64 Lib.pow10Tab := by
 unfold Rows.laid_internal_strconv_uint64pow10 Lib.tabData Lib.pow10Tab
 rfl
theorem maxLenCell {W : World} (h : W.ShapedOpen prog) : ∃ m, W.cell? ⟨0, 0, none⟩ = some (.int .i64 m) :=
 cell_of_shapedOpen_int (t := 3) (zero := #[.int .i64 0]) h (of_decide_eq_true (by kernel_rfl)) (by kernel_rfl) rfl (by kernel_rfl) (by kernel_rfl) underlying3
theorem tab_of_laidT {W : World} (h : laidMetH prog Rows.fnExactTreatedRow.laid W) : Tab W := by
 rw [MakeChecks.laidMetH_plain _ _ _ (by kernel_rfl)] at h
 have h2 := laidMet.tail (laidMet.tail h)
 rw [powData] at h2
 exact Lib.tabIs_of_head (n := 20) (e := 203) (t := 222) gPow (by kernel_rfl) underlying222 underlying203 (by kernel_rfl) (by kernel_rfl) h2
end Go.Proofs.YtgaajcbklkchjaaGreatDoor

/-
  Put together by program (shake.py): Base, Mem, Open, LaidW, MemB, Mine, Row, Ints, FamNode, NodeS, MineB, SignA, SignB, Shelf, Options, Mark, MarkP, MkInt, NodeR.
-/
import Derived.WalkKit
import Derived.ProofKit
import Derived.OpenShut
import Derived.Below
import Derived.ChangeSame
import Derived.JoinedOf
import Derived.Lib.SmallJoins
import Derived.Lib.Hide
import Derived.WalkSmall
import Derived.Handy
import Derived.StillTailTactics
import Derived.Laws.OwnMore
import Derived.Deep.Draws
import Derived.Laws.Rows
import Derived.Deep.QuietTactic
import Derived.BigQuiet
import Derived.Laws.MakeOwn
import Derived.Test.YtgaajcbklkchjaaGreatDoorChecked
import Derived.KernelRfl
import Derived.Deep.Slices
import Derived.Deep.Fields
import Derived.Test.YtgaajcbklkchjaaGreatDoorRows
import Derived.Lay
import Derived.HandedShaped
import Derived.LaidMore
import Derived.MakeChecks
import Derived.LaidHandle
import Derived.Stop.LaidErr
import Derived.Shelf.Vars
import Derived.Laws.AppendOwn
import Derived.OwnWalk
import Derived.SliceStrings
import Derived.DataShut
import Derived.Outline
import Derived.Deep.Cut
import Derived.Shelf.Strings.Trim
import Derived.Shelf.Small.Utf8
import Derived.Shelf.Small.Strs
import Derived.Shelf.Small.Wraps
import Derived.Shelf.Strconv.Itoa0
import Derived.Shelf.Strconv.Itoa1
import Derived.Shelf.LaysM
import Derived.Shelf.Strconv.Itoa2
import Derived.Shelf.Strconv.Itoa3
import Derived.Shelf.Strings.Search1
import Derived.Shelf.Strings.Search2
import Derived.Shelf.Strings.Search3
import Derived.Shelf.Strings.Count
import Derived.Shelf.Strings.Shaped
import Derived.Shelf.Strings.LastIndex
import Derived.Shelf.Strings.Prefix
import Derived.Shelf.Strings.Split
import Derived.Shelf.Strings.SplitShaped
import Derived.Shelf.Unicode.Decode
import Derived.Shelf.Strings.Runes
import Derived.Shelf.Strings.RuneCount
import Derived.Shelf.Strings.AsciiSet
import Derived.Shelf.Strings.Explode
import Derived.Shelf.Unicode.DecodeSlow
import Derived.Shelf.Slices.Turned
import Derived.Ground.Names2Prog
import Derived.Shelf.Slices.Clone
import Derived.Shelf.Slices.SearchI
import Derived.Ground.PaProg
import Derived.Shelf.Path.Small
import Derived.Test.YtgaajcbklkchjaaGreatDoorProg
import Derived.Laws.IdiomStrings
import Derived.Deep.DeepCutAuto
import Derived.Deep.LoopGhost
import Derived.Deep.RegionWith
set_option maxRecDepth 100000
set_option maxHeartbeats 25600000
set_option linter.unusedVariables false
set_option linter.unusedSimpArgs false
open Go.Lib (hid)
open Go.Proofs.Tryz
namespace Go.Proofs.YtgaajcbklkchjaaGreatDoor
open Go.RowKit Go.WideShapes Go.ChangeShapes
section
variable {H : Type} {enc : TypeId × Value → H} {P : Program}
theorem post_of_below {f : Func} {s : ChangeSpec} {apart fresh handsOn again : Bool} {W W' : World} {args : Array Value} {v : Value} {ds gs : List (DataW H)} {before pa pv : List MemPlace}
  (hW : DataW.Whole enc P f.params.toList s.vars apart W args.toList ds gs before)
  (hres : ∀ (b : Nat) (sp : Nat → Bool) (hd : Bool), DataW.TrodAll enc P W' b sp hd f.resultTypes.toList (v.resultList f.resultTypes.size) (s.fn H (ds ++ gs)).results [])
  (hargs : ∀ sp : Nat → Bool, (∀ p ∈ before, sp p.block = true) → DataW.TrodAll enc P W' 0 sp true f.params.toList args.toList (s.fn H (ds ++ gs)).args pa)
  (hvars : ∀ sp : Nat → Bool, (∀ p ∈ before, sp p.block = true) → DataW.TrodVars enc P W' sp s.vars (s.fn H (ds ++ gs)).vars pv)
  (hps : before = pa ++ pv) (hb : Below W.heap.size W W')
  (hok : ∀ (j : Nat) (t : TypeId) (r : Value), f.resultTypes[j]? = some t → (v.resultList f.resultTypes.size)[j]? = some r → Value.okWide P W' .any 0 t r) :
  s.post enc P f apart fresh handsOn again W args v W' := by
 have hlt : ∀ p ∈ before, p.block < W.heap.size := fun p hp => hW.lt p hp
 have hold : ∀ p ∈ before, (fun b => decide (b < W.heap.size)) p.block = true := fun p hp => by simpa using hlt p hp
 refine ⟨ds, gs, before, [], pa, pv, hW, hres _ _ _, hargs _ hold, hvars _ hold, World.keptBut_mono (fun p hp => ⟨hp, ?_⟩) (hb.frame (· ∈ before)), fun _ => ?_⟩
 ·rw [hps, List.mem_append] at hp
  exact Or.inr hp
 ·obtain ⟨_, _, _, _, _, hz, hn⟩ := hW
  refine ⟨hok, _, _, ([] ++ pa) ++ pv, ⟨[] ++ pa, pv, trodAll_append (hargs _ (fun _ _ => rfl)) (hres _ _ _), hvars _ (fun _ _ => rfl), rfl, ?_, ?_⟩, ?_⟩
  ·intro b off hp
   have hin : MemPlace.cell b off ∈ before := by rw [hps]; simpa using hp
   rw [hb.frozen (hlt _ hin)]
   exact hz b off hin
  ·intro ha
   have := hn ha
   rw [hps] at this
   simpa using this
  ·intro p hp _
   rw [hps]
   simpa using hp
end
theorem bcell {W w1 : World} (hb : Below W.heap.size W w1) : (∀ b o, b < W.heap.size → w1.cell? ⟨b, o, none⟩ = W.cell? ⟨b, o, none⟩) ∧ (∀ b o, b < W.heap.size → w1.frozen? ⟨b, o, none⟩ = W.frozen? ⟨b, o, none⟩) :=
 ⟨fun b o h => hb.cell (p := ⟨b, o, none⟩) h, fun b o h => hb.frozen (p := ⟨b, o, none⟩) h⟩
theorem below_box {w w1 : World} {o : Obj} (hb : Below (w.alloc o).heap.size (w.alloc o) w1) : Below w.heap.size w w1 :=
 ((Below.refl _ _).alloc (Nat.le_refl _) o).trans (hb.mono (by simp))
theorem below_next {W w1 w2 : World} (h1 : Below W.heap.size W w1) (h2 : Below w1.heap.size w1 w2) : Below W.heap.size W w2 := h1.trans (h2.mono h1.size)
theorem ret_bool {a b : Bool} (h : a = b) : Ending.returned (.bool a) = .returned (.bool b) := by rw [h]
theorem ret_int {k : IntKind} {a b : Int} (h : a = b) : Ending.returned (.int k a) = .returned (.int k b) := by rw [h]
theorem ret_str {a b : ByteArray} (h : a = b) : Ending.returned (.string a) = .returned (.string b) := by rw [h]
def Blk (w : World) (g : Nat) (t : TypeId) (cs : Array Value) : Prop := w.heap[g]? = some (.cells cs t (0, 0))
section
variable {w w' : World} {g : Nat} {t : TypeId} {cs : Array Value}
theorem Blk.lt (h : Blk w g t cs) : g < w.heap.size := by
 rcases Nat.lt_or_ge g w.heap.size with hlt | hge
 ·exact hlt
 ·unfold Blk at h; rw [Array.getElem?_eq_none hge] at h; cases h
theorem Blk.cell (h : Blk w g t cs) (i : Nat) : w.cell? ⟨g, i, none⟩ = cs[i]? := cell_of_row w g i cs t (0, 0) h
theorem Blk.frozen (h : Blk w g t cs) (i : Nat) : w.frozen? ⟨g, i, none⟩ = false := by
 unfold Blk at h
 simp [World.frozen?, h]
theorem Blk.new (w : World) (t : TypeId) (cs : Array Value) : Blk (w.alloc (.cells cs t)) w.heap.size t cs := heap_alloc_new w _
theorem Blk.drew (h : Blk w g t cs) : Blk w.drew g t cs := h
theorem Blk.drewN (h : Blk w g t cs) (n : Nat) : Blk (w.drewN n) g t cs := h
theorem Blk.alloc (h : Blk w g t cs) (o : Obj) : Blk (w.alloc o) g t cs := (Below.heap_alloc w o g h.lt).trans h
theorem Blk.set_ (h : Blk w g t cs) (i : Nat) (u : Value) : Blk (w.setCell ⟨g, i, none⟩ u) g t (cs.setIfInBounds i u) := by
 unfold Blk at h ⊢
 simp [World.setCell, Array.getElem?_modify, h]
theorem Blk.far (h : Blk w g t cs) {p : Addr} (hp : g ≠ p.block) (u : Value) : Blk (w.setCell p u) g t cs := (Below.heap_setCell w p u g hp).trans h
theorem Blk.below {B : Nat} (h : Blk w g t cs) (hb : Below B w w') (hg : g < B) : Blk w' g t cs := (hb.block g hg).trans h
theorem Blk.grown {row : Option Nat} (h : Blk w g t cs) (hb : w.grownBy w' row) (hg : some g ≠ row) : Blk w' g t cs := (hb.block g h.lt hg).trans h
variable {w2 : World} {o o' : Obj}
theorem Blk.fresh (h : Below (w.alloc (.cells cs t)).heap.size (w.alloc (.cells cs t)) w2) : Blk w2 w.heap.size t cs := (Blk.new w t cs).below h (Blk.new w t cs).lt
theorem Blk.fresh2 (h : Below ((w.alloc (.cells cs t)).alloc o).heap.size ((w.alloc (.cells cs t)).alloc o) w2) : Blk w2 w.heap.size t cs := ((Blk.new w t cs).alloc o).below h ((Blk.new w t cs).alloc o).lt
theorem Blk.next (k : Blk w g t cs) (h : Below w.heap.size w w2) : Blk w2 g t cs := k.below h k.lt
theorem below_next1 {W : World} (h1 : Below W.heap.size W w) (h2 : Below (w.alloc o).heap.size (w.alloc o) w2) : Below W.heap.size W w2 := below_next (h1.alloc h1.size o) h2
theorem below_next2 {W : World} (h1 : Below W.heap.size W w) (h2 : Below ((w.alloc o).alloc o').heap.size ((w.alloc o).alloc o') w2) : Below W.heap.size W w2 := below_next1 (h1.alloc h1.size o) h2
end
theorem bft (b : Bool) : b = true ∨ b = false := Bool.eq_false_or_eq_true b
theorem gE {α : Type _} {l : List α} {i : Nat} (h : i < l.length) : l[i]? = some l[i] := List.getElem?_eq_getElem h
theorem lA {α : Type _} {a b : List α} : (a ++ b).length = a.length + b.length := List.length_append
theorem Blk.q0 {w : World} {g : Nat} {t : TypeId} {a : Value} {cs : List Value} (h : Blk w g t (a :: cs).toArray) : w.cell? ⟨g, 0, none⟩ = some a := h.cell 0
theorem Blk.q1 {w : World} {g : Nat} {t : TypeId} {x0 a : Value} {cs : List Value} (h : Blk w g t (x0 :: a :: cs).toArray) : w.cell? ⟨g, 1, none⟩ = some a := h.cell 1
theorem Blk.q2 {w : World} {g : Nat} {t : TypeId} {x0 x1 a : Value} {cs : List Value} (h : Blk w g t (x0 :: x1 :: a :: cs).toArray) : w.cell? ⟨g, 2, none⟩ = some a := h.cell 2
theorem Blk.q3 {w : World} {g : Nat} {t : TypeId} {x0 x1 x2 a : Value} {cs : List Value} (h : Blk w g t (x0 :: x1 :: x2 :: a :: cs).toArray) : w.cell? ⟨g, 3, none⟩ = some a := h.cell 3
theorem Blk.q4 {w : World} {g : Nat} {t : TypeId} {x0 x1 x2 x3 a : Value} {cs : List Value} (h : Blk w g t (x0 :: x1 :: x2 :: x3 :: a :: cs).toArray) : w.cell? ⟨g, 4, none⟩ = some a := h.cell 4
theorem Blk.q5 {w : World} {g : Nat} {t : TypeId} {x0 x1 x2 x3 x4 a : Value} {cs : List Value} (h : Blk w g t (x0 :: x1 :: x2 :: x3 :: x4 :: a :: cs).toArray) : w.cell? ⟨g, 5, none⟩ = some a := h.cell 5
theorem Blk.q6 {w : World} {g : Nat} {t : TypeId} {x0 x1 x2 x3 x4 x5 a : Value} {cs : List Value} (h : Blk w g t (x0 :: x1 :: x2 :: x3 :: x4 :: x5 :: a :: cs).toArray) : w.cell? ⟨g, 6, none⟩ = some a := h.cell 6
theorem Blk.q7 {w : World} {g : Nat} {t : TypeId} {x0 x1 x2 x3 x4 x5 x6 a : Value} {cs : List Value} (h : Blk w g t (x0 :: x1 :: x2 :: x3 :: x4 :: x5 :: x6 :: a :: cs).toArray) : w.cell? ⟨g, 7, none⟩ = some a := h.cell 7
theorem grow_ {B : Nat} {w w' : World} (h : Below B w w' := by repeat' (first | (with_reducible exact Below.refl _ _) | (with_reducible assumption) | (with_reducible refine below_drewN ?_ _) | (with_reducible refine Below.drew ?_) | (with_reducible refine Below.alloc ?_ ?_ _) | (with_reducible refine Below.setCell ?_ ?_ _) | go_size)) : Below B w w' := h
def Rd (w : World) (size : Nat) (A : Option Addr) (n : Nat) (xs : List Value) : Prop :=
 xs.length = n * size ∧ (0 < n → ∃ b off, A = some ⟨b, off, none⟩ ∧ b < w.heap.size ∧ ∀ j u, xs[j]? = some u → w.cell? ⟨b, off + j, none⟩ = some u)
section
variable {w w' : World} {size n : Nat} {A : Option Addr} {xs : List Value}
theorem Rd.none_ (w : World) (size : Nat) (A : Option Addr) : Rd w size A 0 [] := ⟨by simp, fun h => absurd h (by omega)⟩
theorem Rd.keep (h : Rd w size A n xs) (hz : w.heap.size ≤ w'.heap.size) (hk : ∀ b o, b < w.heap.size → w'.cell? ⟨b, o, none⟩ = w.cell? ⟨b, o, none⟩) : Rd w' size A n xs :=
 ⟨h.1, fun hne => by
  obtain ⟨b, off, e, hb, hc⟩ := h.2 hne
  exact ⟨b, off, e, by omega, fun j u hj => (hk b _ hb).trans (hc j u hj)⟩⟩
theorem Rd.below (h : Rd w size A n xs) (hb : Below w.heap.size w w') : Rd w' size A n xs := h.keep hb.size (bcell hb).1
theorem Rd.next (h : Rd w size A n xs) (hb : Below w.heap.size w w') : Rd w' size A n xs := h.below hb
theorem Rd.alloc (h : Rd w size A n xs) (o : Obj) : Rd (w.alloc o) size A n xs := h.below ((Below.refl _ _).alloc (Nat.le_refl _) o)
theorem Rd.drewN (h : Rd w size A n xs) (k : Nat) : Rd (w.drewN k) size A n xs := h
theorem Rd.drew (h : Rd w size A n xs) : Rd w.drew size A n xs := h
theorem Rd.at_ (h : Rd w size A n xs) (hk : 0 < n) : ∃ b off, A = some ⟨b, off, none⟩ ∧ b < w.heap.size ∧ ∀ j u, xs[j]? = some u → w.cell? ⟨b, off + j, none⟩ = some u := h.2 hk
end
def sumK {α : Type} (f : α → Nat) (l : List α) (k : Nat) : Nat := ((l.take k).map f).sum
theorem sumK_zero {α : Type} (f : α → Nat) (l : List α) : sumK f l 0 = 0 := by simp [sumK]
theorem sumK_succ {α : Type} (f : α → Nat) (l : List α) (k : Nat) (d : α) (h : l[k]? = some d) : sumK f l (k + 1) = sumK f l k + f d := by
 unfold sumK; rw [List.take_add_one, h]; simp
theorem sumK_le {α : Type} (f : α → Nat) (l : List α) (k : Nat) : sumK f l k ≤ (l.map f).sum := by
 have h : (l.map f).sum = ((l.take k).map f).sum + ((l.drop k).map f).sum := by
  rw [← List.sum_append, ← List.map_append, List.take_append_drop]
 unfold sumK; omega
theorem sumK_all {α : Type} (f : α → Nat) (l : List α) (k : Nat) (h : l.length ≤ k) : sumK f l k = (l.map f).sum := by
 unfold sumK; rw [List.take_of_length_le h]
theorem flat_len {α : Type} (f : α → List Value) {size : Nat} (hf : ∀ d, (f d).length = size) (l : List α) : (l.flatMap f).length = l.length * size := by
 induction l with
 | nil => simp
 | cons d l ih => simp only [List.flatMap_cons, lA, List.length_cons, ih, hf, Nat.add_mul]; omega
theorem flat_get {α : Type} (f : α → List Value) {size : Nat} (hf : ∀ d, (f d).length = size) : ∀ {l : List α} {i : Nat} {d : α}, l[i]? = some d → ∀ {j : Nat} {v : Value}, (f d)[j]? = some v → (l.flatMap f)[i * size + j]? = some v := by
 intro l
 induction l with
 | nil => intro i d h; simp at h
 | cons x l ih =>
  intro i d h j v hj
  cases i with
  | zero =>
   simp at h; subst h
   have hlt : j < (f x).length := (List.getElem?_eq_some_iff.1 hj).1
   simp only [List.flatMap_cons, Nat.zero_mul, Nat.zero_add]
   rw [List.getElem?_append_left hlt]; exact hj
  | succ i =>
   simp at h
   simp only [List.flatMap_cons]
   rw [List.getElem?_append_right (by rw [hf, Nat.add_mul]; omega)]
   rw [hf, show (i + 1) * size + j - size = i * size + j from by rw [Nat.add_mul]; omega]
   exact ih h hj
theorem flat_inv {α : Type} (f : α → List Value) {size : Nat} (hf : ∀ d, (f d).length = size) (hs : 0 < size) : ∀ (l : List α) (x : Nat), (l.flatMap f)[x]? = l[x / size]?.bind (fun d => (f d)[x % size]?) := by
 intro l
 induction l with
 | nil => intro x; simp
 | cons d l ih =>
  intro x
  simp only [List.flatMap_cons]
  by_cases h : x < size
  ·rw [List.getElem?_append_left (by rw [hf]; exact h), Nat.div_eq_of_lt h, Nat.mod_eq_of_lt h]; simp
  ·rw [List.getElem?_append_right (by rw [hf]; omega), hf, ih]
   have e1 : x / size = (x - size) / size + 1 := by
    have h2 : x = (x - size) + size := by omega
    conv => lhs; rw [h2]
    exact Nat.add_div_right _ hs
   have e2 : x % size = (x - size) % size := by
    have h2 : x = (x - size) + size := by omega
    conv => lhs; rw [h2]
    exact Nat.add_mod_right _ _
   rw [e1, e2, List.getElem?_cons_succ]
theorem block_of_cell {w : World} {b o : Nat} {v : Value} (h : w.cell? ⟨b, o, none⟩ = some v) : b < w.heap.size := by
 rcases Nat.lt_or_ge b w.heap.size with hl | hl
 ·exact hl
 ·exfalso
  have h2 : w.heap[b]? = none := Array.getElem?_eq_none hl
  simp [World.cell?, h2] at h
theorem rd_of_elems {α : Type} {W : World} {a : Addr} {n size : Nat} (cells : α → List Value) (Pr : α → Prop) (hlen : ∀ d, (cells d).length = size) (hsz : 0 < size)
  (h : ∀ i, i < n → ∃ d : α, Pr d ∧ ∀ j v, (cells d)[j]? = some v → W.cell? (a.add (i * size + j)) = some v) :
  ∃ l : List α, l.length = n ∧ Rd W size (some a) n (l.flatMap cells) ∧ ∀ d ∈ l, Pr d := by
 refine ⟨List.ofFn (fun i : Fin n => Classical.choose (h i.1 i.2)), by simp, ⟨by rw [flat_len cells hlen]; simp, fun hn => ?_⟩, ?_⟩
 ·have hall : ∀ j u, ((List.ofFn (fun i : Fin n => Classical.choose (h i.1 i.2))).flatMap cells)[j]? = some u → W.cell? (a.add j) = some u := by
   intro j u hj
   rw [flat_inv cells hlen hsz] at hj
   obtain ⟨d, hd, hu⟩ := Option.bind_eq_some_iff.1 hj
   rw [List.getElem?_ofFn] at hd
   split at hd
   ·rename_i hlt
    obtain rfl := Option.some.inj hd
    have h2 := (Classical.choose_spec (h (j / size) hlt)).2 (j % size) u hu
    rwa [show j / size * size + j % size = j from by rw [Nat.mul_comm]; exact Nat.div_add_mod j size] at h2
   ·cases hd
  obtain ⟨b, off, spot⟩ := a
  have hne : ∃ u, ((List.ofFn (fun i : Fin n => Classical.choose (h i.1 i.2))).flatMap cells)[0]? = some u := by
   have hl : 0 < ((List.ofFn (fun i : Fin n => Classical.choose (h i.1 i.2))).flatMap cells).length := by
    rw [flat_len cells hlen]; simp only [List.length_ofFn]; exact Nat.mul_pos hn hsz
   exact ⟨_, List.getElem?_eq_getElem hl⟩
  obtain ⟨u, hu⟩ := hne
  have hspot : spot = none := by simpa [Addr.add] using World.cell?_spot (hall 0 u hu)
  subst hspot
  have hall2 : ∀ j u, ((List.ofFn (fun i : Fin n => Classical.choose (h i.1 i.2))).flatMap cells)[j]? = some u → W.cell? ⟨b, off + j, none⟩ = some u := fun j u hj => by
   rw [← Go.WideShapes.add_plain]; exact hall j u hj
  exact ⟨b, off, rfl, block_of_cell (hall2 0 u hu), hall2⟩
 ·intro d hd
  obtain ⟨i, hi⟩ := List.mem_iff_getElem?.1 hd
  rw [List.getElem?_ofFn] at hi
  split at hi
  ·rename_i hlt
   obtain rfl := Option.some.inj hi
   exact (Classical.choose_spec (h i hlt)).1
  ·cases hi
def Own (w : World) (g : Nat) (t : TypeId) (cap : Nat) (xs : List Value) : Prop :=
 ∃ rest : List Value, Blk w g t (xs ++ rest).toArray ∧ (xs ++ rest).length = cap
section
variable {w w' : World} {g : Nat} {t : TypeId} {cap : Nat} {xs : List Value} {o : Obj}
theorem Own.lt (h : Own w g t cap xs) : g < w.heap.size := by obtain ⟨cs, hb, _⟩ := h; exact hb.lt
theorem Own.next (h : Own w g t cap xs) (hb : Below w.heap.size w w') : Own w' g t cap xs := by
 obtain ⟨cs, hb', h'⟩ := h; exact ⟨cs, hb'.next hb, h'⟩
theorem Own.drewN (h : Own w g t cap xs) (k : Nat) : Own (w.drewN k) g t cap xs := h
theorem Own.drew (h : Own w g t cap xs) : Own w.drew g t cap xs := h
theorem Own.there (h : Own w g t cap xs) {i : Nat} (hi : i < cap) : ∃ v, w.cell? ⟨g, i, none⟩ = some v := by
 obtain ⟨rest, hb, hs⟩ := h
 exact ⟨(xs ++ rest)[i]'(by omega), by rw [hb.cell]; simp⟩
theorem Own.frozen (h : Own w g t cap xs) (i : Nat) : w.frozen? ⟨g, i, none⟩ = false := by obtain ⟨cs, hb, _⟩ := h; exact hb.frozen i
theorem Own.push (h : Own w g t cap xs) (hk : xs.length < cap) {i : Nat} (hi : i = xs.length) (u : Value) : Own (w.setCell ⟨g, i, none⟩ u) g t cap (xs ++ [u]) := by
 subst hi
 obtain ⟨rest, hb, hs⟩ := h
 match rest, hb, hs with
 | [], _, hs => simp at hs; omega
 | r :: rest, hb, hs =>
  refine ⟨rest, ?_, by simpa using hs⟩
  have h2 := hb.set_ xs.length u
  have e : ((xs ++ r :: rest).toArray).setIfInBounds xs.length u = ((xs ++ [u]) ++ rest).toArray := by
   simp
  rwa [e] at h2
theorem Own.rd {size n : Nat} (h : Own w g t cap xs) (hl : xs.length = n * size) : Rd w size (some ⟨g, 0, none⟩) n xs := ⟨hl, fun _ => by
 obtain ⟨rest, hb, hs⟩ := h
 refine ⟨g, 0, rfl, hb.lt, fun j u hj => ?_⟩
 rw [hb.cell, Nat.zero_add]
 have hlt : j < xs.length := (List.getElem?_eq_some_iff.1 hj).1
 simpa [List.getElem?_append_left hlt] using hj⟩
end
theorem Rd.fresh {size n : Nat} (w : World) (t : TypeId) (xs : List Value) (hl : xs.length = n * size) : Rd (w.alloc (.cells xs.toArray t)) size (some ⟨w.heap.size, 0, none⟩) n xs :=
 ⟨hl, fun _ => ⟨w.heap.size, 0, rfl, (Blk.new w t xs.toArray).lt, fun j u hj => by rw [(Blk.new w t xs.toArray).cell, Nat.zero_add]; simpa using hj⟩⟩
theorem Own.alloc {w : World} {g : Nat} {t : TypeId} {cap : Nat} {xs : List Value} (h : Own w g t cap xs) (o : Obj) : Own (w.alloc o) g t cap xs := by
 obtain ⟨rest, hb, hs⟩ := h; exact ⟨rest, hb.alloc o, hs⟩
theorem Own.far {w : World} {g : Nat} {t : TypeId} {cap : Nat} {xs : List Value} (h : Own w g t cap xs) {p : Addr} (hp : g ≠ p.block) (u : Value) : Own (w.setCell p u) g t cap xs := by
 obtain ⟨rest, hb, hs⟩ := h; exact ⟨rest, hb.far hp u, hs⟩
theorem Blk.fresh3 {w w2 : World} {t : TypeId} {cs : Array Value} {o o' : Obj} (h : Below (((w.alloc (.cells cs t)).alloc o).alloc o').heap.size (((w.alloc (.cells cs t)).alloc o).alloc o') w2) : Blk w2 w.heap.size t cs :=
 (((Blk.new w t cs).alloc o).alloc o').next h
theorem below_next3 {W w w2 : World} {o o' o'' : Obj} (h1 : Below W.heap.size W w) (h2 : Below (((w.alloc o).alloc o').alloc o'').heap.size (((w.alloc o).alloc o').alloc o'') w2) : Below W.heap.size W w2 := below_next2 (h1.alloc h1.size o) h2
theorem str_ne {x t : ByteArray} (h : x ≠ t) : (x.toList == t.toList) = false := by
 rw [beq_eq_false_iff_ne]
 intro e
 rw [ByteArray.toList_eq, ByteArray.toList_eq] at e
 exact h (Go.WideShapes.bytes_inj e)
theorem run_make_rowN {P : Program} (t e : TypeId) (i : TypeInfo) (z : Value) (ht : P.underlying t = some (.slice e)) (hi : P.info? e = some i) (hz : i.zero = some z)
  (kl kc : IntKind) (n c : Nat) (hnc : n ≤ c) (hbytes : i.bytes * c ≤ 281474976710656) (h63 : c ≤ 9223372036854775807) (w : World) :
  (Instr.makeSlice t (.int kl (n : Int)) (.int kc (c : Int))).run P w = .ok (.slice (some ⟨w.heap.size, 0, none⟩) n c) (w.alloc (.cells (madeCells z.cells (c * i.size)) e)) := by
 have hb : (i.bytes : Int) * (c : Int) ≤ 281474976710656 := by
  have h : ((i.bytes * c : Nat) : Int) ≤ 281474976710656 := by omega
  rwa [Int.natCast_mul] at h
 have hr := run_make (P := P) w t e i z ht hi hz kl kc n c (by omega) (by omega) hb (by omega)
 simp only [Int.toNat_natCast] at hr
 exact hr
theorem Own.made {w : World} {e : TypeId} {cs : Array Value} {cap : Nat} (h : cs.size = cap) : Own (w.alloc (.cells cs e)) w.heap.size e cap [] :=
 ⟨cs.toList, by simpa using Blk.new w e cs, by simpa using h⟩
open Go.RowKit Go.WideShapes Go.ChangeShapes Go.Joins Go.Deep
section
variable {H : Type} {enc : TypeId × Value → H} {P : Program}
theorem trodAll_stays (hl : laidOutB P = true) {W W' : World} {sp' : Nat → Bool} : ∀ {ts : List TypeId} {vs : List Value} {ds : List (DataW H)} {ps : List MemPlace},
  ts.all (fun t => P.readableRec t && decide (t < P.types.size)) = true → DataW.TrodAll enc P W 0 (fun _ => true) true ts vs ds ps →
  (∀ x ∈ ps, W.sameAt W' x) → (∀ x ∈ ps, sp' x.block = true) → DataW.TrodAll enc P W' 0 sp' true ts vs ds ps
 | [], _, _, _, _, h, _, _ => by
  obtain ⟨rfl, rfl, rfl⟩ := trodAll_nil h
  exact trodAll_mk0
 | t :: ts, _, _, _, hr, h, hs, hp => by
  obtain ⟨v, vs', d, ds', p, q, rfl, rfl, rfl, h1, h2⟩ := trodAll_cons h
  simp only [List.all_cons, Bool.and_eq_true, decide_eq_true_eq] at hr
  exact trodAll_cons_mk (WideElems.Trod_stays hl hr.1.1 hr.1.2 h1 (fun x hx => hs x (List.mem_append.2 (.inl hx))) (fun x hx => hp x (List.mem_append.2 (.inl hx))))
   (trodAll_stays hl hr.2 h2 (fun x hx => hs x (List.mem_append.2 (.inr hx))) (fun x hx => hp x (List.mem_append.2 (.inr hx))))
end
section
variable {H : Type} {enc : TypeId × Value → H} {P : Program} {w : World} {base : Nat} {spare : Nat → Bool} {held : Bool}
theorem open_slice_fields {t e : TypeId} {fs : Array Field} {fuel : Nat} {cs : List Value} {x : DataW H × List MemPlace} (ht : P.underlying t = some (.slice e)) (he : P.underlying e = some (.struct fs))
  (hone : oneCellFields P fs = true) (hC : P.cellsOf e = fs.size) (h : DataW.trod enc P w base spare held fuel t cs = some x) :
  (cs = [.slice none 0 0] ∧ x = (.nil, [])) ∨
  ∃ (a : Addr) (len cap m : Nat) (D : Nat → DataW H) (Pl : Nat → List MemPlace), cs = [.slice (some a) len cap] ∧ base ≤ a.block ∧ len ≤ cap ∧ cap ≤ maxLen ∧ m = (if spare a.block then cap else len) ∧
   x = (.slice ((List.range len).map D) ((List.range (m - len)).map fun j => D (len + j)), MemPlace.row a (m * fs.size) ++ (List.range m).flatMap Pl) ∧
   ∀ i, i < m → ∃ (ys : List (DataW H × List MemPlace)) (n : Nat), D i = .agg (ys.map (·.1)) ∧ Pl i = ys.flatMap (·.2) ∧ ys.length = fs.size ∧
    ∀ (j : Nat) (f : Field), fs[j]? = some f → ∃ (v : Value) (y : DataW H × List MemPlace), w.cell? (a.add (i * fs.size + j)) = some v ∧ ys[j]? = some y ∧ DataW.trod enc P w base spare held n f.type [v] = some y := by
 rcases open_slice ht h with h0 | ⟨a, len, cap, m, n, D, Pl, hcs, hb, hl, hm, hmm, hx, hi⟩
 ·exact .inl h0
 ·refine .inr ⟨a, len, cap, m, D, Pl, hcs, hb, hl, hm, hmm, by rw [hC] at hx; exact hx, fun i him => ?_⟩
  obtain ⟨cs', hc, ht'⟩ := hi i him
  rw [hC] at hc
  obtain ⟨ys, n', hn', hy, hlen, hyl, hf⟩ := DataW.trod_struct he ht'
  obtain ⟨_, hcl, hat⟩ := World.cells?_some hc
  simp only [Prod.mk.injEq] at hy
  refine ⟨ys, n', hy.1, hy.2, hyl, fun j f hj => ?_⟩
  obtain ⟨ho, hk⟩ := hone_of hone j f hj
  have hjl : j < fs.size := (Array.getElem?_eq_some_iff.1 hj).1
  have hcell := hat j hjl
  have hv : cs'[j]? = some (cs'[j]'(by omega)) := List.getElem?_eq_getElem (by omega)
  have h1 := hf j f hj
  rw [ho, hk] at h1
  have hone' : (cs'.drop j).take 1 = [cs'[j]'(by omega)] := by
   rw [List.drop_eq_getElem_cons (by omega)]
   rfl
  rw [hone'] at h1
  have hys : ys[j]? = some (ys[j]'(by omega)) := List.getElem?_eq_getElem (by omega)
  refine ⟨_, _, ?_, hys, h1.trans hys⟩
  rw [← Go.Deep.add_add, hcell, hv]
theorem open_agg5 {r : Reach} {b0 : Nat} {t : TypeId} {f0 f1 f2 f3 f4 : Field} {v : Value} {d : DataW H} {p : List MemPlace} (hs : P.underlying t = some (.struct #[f0, f1, f2, f3, f4])) (hone : oneCellFields P #[f0, f1, f2, f3, f4] = true) (hC : P.cellsOf t = 5)
  (hv : Value.okWide P w r b0 t v) (h : DataW.Trod enc P w base spare held t v d p) :
  ∃ (v0 v1 v2 v3 v4 : Value) (y0 y1 y2 y3 y4 : DataW H × List MemPlace) (n : Nat), v = .agg #[v0, v1, v2, v3, v4] ∧ d = .agg [y0.1, y1.1, y2.1, y3.1, y4.1] ∧ p = y0.2 ++ (y1.2 ++ (y2.2 ++ (y3.2 ++ y4.2))) ∧
   DataW.trod enc P w base spare held n f0.type [v0] = some y0 ∧ DataW.trod enc P w base spare held n f1.type [v1] = some y1 ∧ DataW.trod enc P w base spare held n f2.type [v2] = some y2 ∧ DataW.trod enc P w base spare held n f3.type [v3] = some y3 ∧ DataW.trod enc P w base spare held n f4.type [v4] = some y4 := by
 obtain ⟨cs, rfl, hsz⟩ := okWide_struct hs hv
 obtain ⟨l⟩ := cs
 match l, hsz.trans hC with
 | [c0, c1, c2, c3, c4], _ =>
  obtain ⟨fuel, hf⟩ := h
  obtain ⟨xs, n, _, hx, _, hlen, hg⟩ := DataW.trod_struct hs hf
  obtain ⟨o0, k0⟩ := hone_of hone 0 f0 rfl
  obtain ⟨o1, k1⟩ := hone_of hone 1 f1 rfl
  obtain ⟨o2, k2⟩ := hone_of hone 2 f2 rfl
  obtain ⟨o3, k3⟩ := hone_of hone 3 f3 rfl
  obtain ⟨o4, k4⟩ := hone_of hone 4 f4 rfl
  match xs, hlen with
  | [y0, y1, y2, y3, y4], _ =>
   simp only [Prod.mk.injEq] at hx
   exact ⟨c0, c1, c2, c3, c4, y0, y1, y2, y3, y4, n, rfl, by simpa using hx.1, by simpa using hx.2, by simpa [Value.cells, o0, k0] using hg 0 f0 rfl, by simpa [Value.cells, o1, k1] using hg 1 f1 rfl, by simpa [Value.cells, o2, k2] using hg 2 f2 rfl, by simpa [Value.cells, o3, k3] using hg 3 f3 rfl, by simpa [Value.cells, o4, k4] using hg 4 f4 rfl⟩
end
section
variable {H : Type} {enc : TypeId × Value → H} {W : World} {base : Nat} {v : Value} {d : DataW H} {p : List MemPlace} {sp : Nat → Bool} {hd : Bool}
theorem cellsOptions : prog.cellsOf 24 = 5 := by kernel_rfl
theorem open_options (hv : Value.okWide prog W .any base 24 v) (h : DataW.Trod enc prog W 0 sp hd 24 v d p) :
  ∃ (a b : Int) (c d e : Bool), v = .agg #[.int .i64 a, .int .i64 b, .bool c, .bool d, .bool e] ∧ (Lit.int .i64 a).wf = true ∧ (Lit.int .i64 b).wf = true := by
 obtain ⟨v0, v1, v2, v3, v4, y0, y1, y2, y3, y4, n, rfl, _, _, h0, h1, h2, h3, h4⟩ := open_agg5 underlying24 (by kernel_rfl) cellsOptions hv h
 obtain ⟨a, e0, _, wa⟩ := DataW.trod_int underlying3 h0
 obtain ⟨b, e1, _, wb⟩ := DataW.trod_int underlying3 h1
 obtain ⟨c, e2, _⟩ := DataW.trod_bool underlying4 h2
 obtain ⟨d, e3, _⟩ := DataW.trod_bool underlying4 h3
 obtain ⟨e, e4, _⟩ := DataW.trod_bool underlying4 h4
 simp only [List.cons.injEq, and_true] at e0 e1 e2 e3 e4
 subst e0 e1 e2 e3 e4
 exact ⟨a, b, c, d, e, rfl, wa, wb⟩
end
open Go.ChangeShapes Go.WideShapes Go.ChangeAt Go.RowKit
theorem retAndShaped {H : Type} {enc : TypeId × Value → H} {a : Assume} {C : Checked} {os : Os} {f : FuncId} {fn : Func} {s : ChangeSpec} {conds : List PathCond} {apart fresh handsOn again : Bool} {X : World → Array Value → Prop}
  (hX : ∀ (w w' : World) (args : Array Value), w.heap = w'.heap → X w args → X w' args)
  (own : ownKnob C.prog.godebug = none) (started : os.Started) (noInit : C.prog.inits.idxOf? f = none) (hfn : C.prog.funcs[f]? = some fn)
  (witness : ∃ (w : World) (tape : Tape) (i : Input), w.os = os ∧ (w.forCall tape i).Shaped C.prog ∧ i.vars = [] ∧ Input.okWide C.prog (w.forCall tape i) .any w.heap.size f i ∧
   ((s.pre enc C.prog fn conds apart (w.forCall tape i).memory i.args ∧ X (w.forCall tape i).memory i.args) ∧ sizedMet enc C.prog fn (OpenSpec.ofChange s) apart (w.forCall tape i).memory i.args) ∧ a.holds C.prog (lone (Frame.enter C.prog f i.args .normal) [] (w.forCall tape i)))
  (contract : ∀ (W : World) (base : Nat) (args : Array Value) (ds gs : List (DataW H)) (before : List MemPlace),
   (∀ (j : Nat) t v, fn.params[j]? = some t → args[j]? = some v → Value.okWide C.prog W .any base t v) →
   DataW.Whole enc C.prog fn.params.toList s.vars apart W args.toList ds gs before →
   conds.all (PathCond.test C.prog ⟨fn.params.toList, ds, s.plain.varTypes C.prog, gs⟩) = true →
   (DataW.weightsEach C.prog (fn.params.toList ++ s.plain.varTypes C.prog) (ds ++ gs)).all (· ≤ reachBytes) = true → X W args → W.ShapedOpen C.prog →
   a.holds C.prog (lone (Frame.enter C.prog f args .normal) [] W) →
   Calls C.prog f args W fun e W' => ∃ v, e = .returned v ∧ s.post enc C.prog fn apart fresh handsOn again W args v W') :
  ReturnsInHanded a C os f .any (fun w args => (s.pre enc C.prog fn conds apart w args ∧ X w args) ∧ sizedMet enc C.prog fn (OpenSpec.ofChange s) apart w args) (s.post enc C.prog fn apart fresh handsOn again) := by
 refine returnsInHanded_of_calls own started noInit witness ?_
 intro w tape i _ hsh _ hok hpre hholds
 obtain ⟨_, _, _, fn', hfn', _, _, _, _, hval⟩ := hok
 have e : fn' = fn := Option.some.inj (hfn'.symm.trans hfn)
 subst e
 obtain ⟨⟨⟨ds, gs, before, hw, hc⟩, hx⟩, hz⟩ := hpre
 have hw' := DataW.Whole.of_heap (w' := w.forCall tape i) (by rfl) hw
 refine (contract (w.forCall tape i) w.heap.size i.args ds gs before hval hw' hc (hz.weights hw) (hX _ _ _ (by rfl) hx) hsh hholds).mono fun e W' ⟨v, he, hp⟩ => ?_
 subst he
 exact ChangeSpec.post_blind hp
theorem Rd.grown {w w' : World} {size n g : Nat} {A : Option Addr} {xs : List Value} (h : Rd w size A n xs) (hg : w.grownBy w' (some g)) (hne : 0 < n → ∀ b off, A = some ⟨b, off, none⟩ → b ≠ g) : Rd w' size A n xs :=
 ⟨h.1, fun hn => by
  obtain ⟨b, off, e, hb, hc⟩ := h.2 hn
  exact ⟨b, off, e, Nat.lt_of_lt_of_le hb hg.size, fun j u hj => (World.cell?_of_block (a := ⟨b, off + j, none⟩) (hg.block b hb (fun q => hne hn b off e (Option.some.inj q)))).trans (hc j u hj)⟩⟩
theorem ba_ext {x y : ByteArray} (h : x.data.toList = y.data.toList) : x = y := by
 apply ByteArray.ext
 exact Array.toList_inj.1 h
theorem ba_app (x y : ByteArray) : (x ++ y).data.toList = x.data.toList ++ y.data.toList := by rw [ByteArray.data_append]; simp
theorem ba_len (x : ByteArray) : x.data.toList.length = x.size := by rw [Array.length_toList]; rfl
def Mine (w : World) (B : Nat) (e : TypeId) (s : Nat) (A : Option Addr) (n c : Nat) (xs : List Value) : Prop := w.ownsRow B e s (.slice A n c) n xs
section
variable {w w' w2 : World} {B : Nat} {e : TypeId} {s : Nat} {A : Option Addr} {n c : Nat} {xs : List Value} {o o' o'' : Obj}
theorem Mine.of {v : Value} (h : w.ownsRow B e s v n xs) : ∃ A c, v = .slice A n c ∧ Mine w B e s A n c xs := by
 obtain ⟨h1, h2⟩ := h
 rcases h2 with ⟨rfl, rfl⟩ | ⟨g, cap, cur, rfl, r⟩
 ·exact ⟨none, 0, rfl, h1, .inl ⟨rfl, rfl⟩⟩
 ·exact ⟨_, cap, rfl, h1, .inr ⟨g, cap, cur, rfl, r⟩⟩
theorem Mine.len (h : Mine w B e s A n c xs) : xs.length = n * s := h.1
theorem Mine.own (h : Mine w B e s A n c xs) : (A = none ∧ n = 0 ∧ c = 0) ∨ ∃ g, A = some ⟨g, 0, none⟩ ∧ B ≤ g ∧ n ≤ c ∧ c ≤ maxLen ∧ Own w g e (c * s) xs := by
 obtain ⟨h1, h2⟩ := h
 rcases h2 with ⟨h2, h3⟩ | ⟨g, cap, cur, hv, hg, hh, hn, hc, hsz, ht⟩
 ·injection h2 with a b d
  exact .inl ⟨a, h3, d⟩
 ·injection hv with a b d
  subst a; subst d
  refine .inr ⟨g, rfl, hg, hn, hc, cur.toList.drop (n * s), ?_, ?_⟩
  ·have e1 : (xs ++ cur.toList.drop (n * s)).toArray = cur := by rw [← ht, List.take_append_drop]
   rw [e1]; exact hh
  ·rw [← ht, List.take_append_drop]; simpa using hsz
theorem Mine.mk_own {g : Nat} (h : Own w g e (c * s) xs) (hl : xs.length = n * s) (hg : B ≤ g) (hn : n ≤ c) (hc : c ≤ maxLen) : Mine w B e s (some ⟨g, 0, none⟩) n c xs := by
 obtain ⟨rest, hb, hs⟩ := h
 refine ⟨hl, .inr ⟨g, c, _, rfl, hg, hb, hn, hc, by simpa using hs, ?_⟩⟩
 rw [← hl]; simp
theorem Mine.mk_nil (w : World) (B : Nat) (e : TypeId) (s : Nat) : Mine w B e s none 0 0 [] := ⟨by simp, .inl ⟨rfl, rfl⟩⟩
theorem Mine.rd (h : Mine w B e s A n c xs) : Rd w s A n xs := by
 rcases h.own with ⟨rfl, rfl, _⟩ | ⟨g, rfl, _, _, _, ho⟩
 ·have : xs = [] := List.eq_nil_of_length_eq_zero (by simpa using h.len)
  subst this; exact Rd.none_ _ _ _
 ·exact ho.rd h.len
theorem Mine.grown {row : Option Nat} (h : Mine w B e s A n c xs) (hg : w.grownBy w' row) (hne : ∀ g, row = some g → g < B ∨ A.map (·.block) ≠ some g) : Mine w' B e s A n c xs := by
 have hl := h.len
 rcases h.own with ⟨rfl, rfl, rfl⟩ | ⟨g, rfl, hB, hn, hc, rest, hb, hs⟩
 ·exact ⟨hl, .inl ⟨rfl, rfl⟩⟩
 ·refine Mine.mk_own ⟨rest, hb.grown hg (fun q => ?_), hs⟩ hl hB hn hc
  rcases hne g q.symm with h1 | h1
  ·omega
  ·exact h1 rfl
theorem Mine.next (h : Mine w B e s A n c xs) (hb : Below w.heap.size w w') : Mine w' B e s A n c xs := by
 have hl := h.len
 rcases h.own with ⟨rfl, rfl, rfl⟩ | ⟨g, rfl, hB, hn, hc, ho⟩
 ·exact ⟨hl, .inl ⟨rfl, rfl⟩⟩
 ·exact Mine.mk_own (ho.next hb) hl hB hn hc
theorem Mine.alloc (h : Mine w B e s A n c xs) (o : Obj) : Mine (w.alloc o) B e s A n c xs := h.next ((Below.refl _ _).alloc (Nat.le_refl _) o)
theorem Mine.drewN (h : Mine w B e s A n c xs) (k : Nat) : Mine (w.drewN k) B e s A n c xs := h
theorem Mine.drew (h : Mine w B e s A n c xs) : Mine w.drew B e s A n c xs := h
theorem Mine.more (h : Mine w B e s A n c xs) {B' : Nat} (hB : B' ≤ B) : Mine w B' e s A n c xs := by
 have hl := h.len
 rcases h.own with ⟨rfl, rfl, rfl⟩ | ⟨g, rfl, hg, hn, hc, ho⟩
 ·exact ⟨hl, .inl ⟨rfl, rfl⟩⟩
 ·exact Mine.mk_own ho hl (by omega) hn hc
theorem own_empty (w : World) (e : TypeId) (s : Nat) : (w.alloc (.cells #[] e)).ownsRow w.heap.size e s (.slice (some ⟨w.heap.size, 0, none⟩) 0 0) 0 [] :=
 ⟨by simp, .inr ⟨w.heap.size, 0, #[], rfl, Nat.le_refl _, heap_alloc_new w _, Nat.le_refl _, Nat.zero_le _, by simp, by simp⟩⟩
theorem Mine.blk (h : Mine w B e s A n c xs) {g : Nat} (hg : A.map (·.block) = some g) : B ≤ g ∧ g < w.heap.size := by
 rcases h.own with ⟨rfl, _⟩ | ⟨g', rfl, hB, _, _, ho⟩
 ·simp at hg
 ·simp at hg; subst hg; exact ⟨hB, ho.lt⟩
theorem Rd.lt {size : Nat} (h : Rd w size A n xs) (hn : 0 < n) : ∀ b off, A = some ⟨b, off, none⟩ → b < w.heap.size := fun b off e => by
 obtain ⟨b', off', e', hb, _⟩ := h.2 hn
 rw [e] at e'
 injection e' with e'
 injection e' with e1
 omega
theorem Rd.turned {size : Nat} {row : Option Nat} (h : Rd w size A n xs) (hg : w.grownBy w' row) (hne : 0 < n → ∀ g, row = some g → ∀ b off, A = some ⟨b, off, none⟩ → b ≠ g) : Rd w' size A n xs :=
 ⟨h.1, fun hn => by
  obtain ⟨b, off, e, hb, hc⟩ := h.2 hn
  refine ⟨b, off, e, Nat.lt_of_lt_of_le hb hg.size, fun j u hj => (World.cell?_of_block (a := ⟨b, off + j, none⟩) (hg.block b hb (fun q => ?_))).trans (hc j u hj)⟩
  exact hne hn b q.symm b off e rfl⟩
theorem Blk.turned {g : Nat} {t : TypeId} {cs : Array Value} {row : Option Nat} (h : Blk w g t cs) (hb : w.grownBy w' row) (hg : ∀ q, row = some q → g ≠ q) : Blk w' g t cs :=
 h.grown hb (fun q => hg g q.symm rfl)
theorem Own.grown {g cap : Nat} {t : TypeId} {row : Option Nat} (h : Own w g t cap xs) (hb : w.grownBy w' row) (hg : ∀ q, row = some q → g ≠ q) : Own w' g t cap xs := by
 obtain ⟨rest, h1, h2⟩ := h; exact ⟨rest, h1.turned hb hg, h2⟩
theorem below_turned {W : World} {row : Option Nat} (h : Below W.heap.size W w) (hg : w.grownBy w' row) (hr : ∀ g, row = some g → W.heap.size ≤ g) : Below W.heap.size W w' :=
 h.grown hg h.size hr
end
theorem Mine.apart {w : World} {B B' : Nat} {e e' : TypeId} {s s' : Nat} {A A' : Option Addr} {n c n' c' : Nat} {xs xs' : List Value} (h : Mine w B e s A n c xs) (h' : Mine w B' e' s' A' n' c' xs') (hne : e ≠ e') {g : Nat} (hg : A'.map (·.block) = some g) : A.map (·.block) ≠ some g := by
 intro h2
 rcases h.own with ⟨rfl, _⟩ | ⟨a, rfl, _, _, _, r, hb, _⟩
 ·simp at h2
 ·rcases h'.own with ⟨rfl, _⟩ | ⟨a', rfl, _, _, _, r', hb', _⟩
  ·simp at hg
  ·simp at h2 hg
   subst h2; subst hg
   have := hb.symm.trans hb'
   injection this with this
   injection this with _ this
   exact hne this
theorem ownBlk (A : Option Addr) (n c : Nat) : (Value.slice A n c).ownBlock = A.map (·.block) := by cases A <;> rfl
theorem nil_or_snoc {α : Type} (l : List α) : l = [] ∨ ∃ i d, l = i ++ [d] := by
 by_cases h : l = []
 ·exact .inl h
 ·exact .inr ⟨l.dropLast, l.getLast h, (List.dropLast_concat_getLast h).symm⟩
section
variable {P : Program} (w : World)
theorem append_where (base : Nat) (t ty e : TypeId) (i : TypeInfo) (z : Value) (size bytes : Nat) (ht : P.underlying t = some (.slice e)) (hi : P.info? e = some i) (hz : i.zero = some z)
  (hsize : i.size = size) (hby : i.bytes = bytes) (hsz : 0 < size)
  (v : Value) (n : Nat) (xs : List Value) (hown : w.ownsRow base e size v n xs)
  (a : Addr) (m c : Nat) (news : List Value) (hl : news.length = m * size) (hnews : ∀ j u, news[j]? = some u → w.cell? (a.add j) = some u) (h1 : ∀ u ∈ news, u.oneCell' = true)
  (h63 : n + m ≤ maxLen) (hbytes : (n + m) * bytes ≤ 140737488355328) {v' : Value} {w' : World}
  (hr : (Builtin.append_ #[t, t] ty #[v, .slice (some a) m c]).run P w = .ok v' w') : v'.ownBlock = v.ownBlock ∨ v'.ownBlock = some w.heap.size := by
 subst hsize
 subst hby
 have h64 : n + m ≤ 9223372036854775807 := by simp only [maxLen] at h63; omega
 rcases hown.2 with ⟨rfl, rfl⟩ | ⟨g, cap, cur, rfl, _, hg, _, _, hcs, _⟩
 ·rcases Nat.eq_zero_or_pos m with rfl | hm
  ·obtain rfl : news = [] := List.eq_nil_of_length_eq_zero (by simpa using hl)
   have h : (Builtin.append_ #[t, t] ty #[.slice none 0 0, .slice (some a) 0 c]).run P w = .ok (.slice none 0 0) w := by
    simp [Builtin.append_, run_underlying ht, sizeOf, typeInfo, hi, Builtin.lenOf, Builtin.firstCells, loadCells, loadCellsFrom]
   rw [h] at hr
   injection hr with h2 _
   exact .inl (by rw [← h2])
  ·rw [run_append_nil (P := P) w t ty e i z ht hi hz a m c news hl hnews hm (by omega) (by rw [Nat.zero_add] at hbytes; omega)] at hr
   injection hr with h2 _
   exact .inr (by rw [← h2]; rfl)
 ·rcases Nat.lt_or_ge cap (n + m) with hroom | hroom
  ·rw [run_append_grow (P := P) w t ty e i z ht hi hz ⟨g, 0, none⟩ n cap xs hown.1 (hown.cells (g := g) rfl) a m c news hl hnews hroom (by omega) (growslice_fits hroom hbytes)] at hr
   injection hr with h2 _
   exact .inr (by rw [← h2]; rfl)
  ·rw [run_append_room (P := P) w t ty e i ht hi g n cap cur hg a m c news hl hnews h1 hroom (by rw [hl, hcs, ← Nat.add_mul]; exact Nat.mul_le_mul_right _ hroom)] at hr
   injection hr with h2 _
   exact .inl (by rw [← h2]; rfl)
theorem wpList_append_row {ops : Array Oper} {rest : List Oper} {o : Oper} {a : Act} {Q : Exit → Act → World → Prop} (hgd : o.guard = none) (s x : Operand) (t : TypeId)
  (ho : o.op = .call { callee := .builtin .append, args := #[s, x], argTypes := #[t, t] })
  (base : Nat) (e : TypeId) (i : TypeInfo) (z : Value) (size bytes : Nat) (ht : P.underlying t = some (.slice e)) (hi : P.info? e = some i) (hz : i.zero = some z)
  (hsize : i.size = size) (hby : i.bytes = bytes) (hzs : z.cells.size = size) (hsz : 0 < size)
  (v : Value) (n : Nat) (xs : List Value) (hs : a.eval s = v) (hown : w.ownsRow base e size v n xs)
  (ad : Addr) (m c : Nat) (news : List Value) (hx : a.eval x = .slice (some ad) m c) (hl : news.length = m * size) (hnews : ∀ j u, news[j]? = some u → w.cell? (ad.add j) = some u) (h1 : ∀ u ∈ news, u.oneCell' = true)
  (h63 : n + m ≤ maxLen) (hbytes : (n + m) * bytes ≤ 140737488355328) (hbase : base ≤ w.heap.size)
  (h : ∀ v' w', w'.ownsRow base e size v' (n + m) (xs ++ news) → w.grownBy w' v.ownBlock → (v'.ownBlock = v.ownBlock ∨ v'.ownBlock = some w.heap.size) → wpList P ops Q rest (a.put o.dst v') w') : wpList P ops Q (o :: rest) a w := by
 obtain ⟨v', w', hr, h2, h3, _⟩ := run_append_own (P := P) w base t o.type e i z size bytes ht hi hz hsize hby hzs hsz v n xs hown ad m c news hl hnews h1 h63 hbytes hbase
 have h4 := append_where (P := P) w base t o.type e i z size bytes ht hi hz hsize hby hsz v n xs hown ad m c news hl hnews h1 h63 hbytes hr
 refine wpList_plain hgd fun K hK => ?_
 unfold Oper.wp
 simp [execOp, ho, resolve, invoke, builtin, hs, hx, hr, Result.andThen]
 exact hK _ _ (h v' w' h2 h3 h4)
end
open Go.RowKit Go.WideShapes Go.ChangeShapes Go.Joins Go.Deep
def intCells (l : List Int) : List Value := l.map (Value.int .i64)
def IntB (x : Int) : Prop := -9223372036854775808 ≤ x ∧ x ≤ 9223372036854775807
theorem int_at {w : World} {A : Option Addr} {n k : Nat} {l : List Int} {x : Int} (h : Rd w 1 A n (intCells l)) (hk : k < n) (hd : l[k]? = some x) :
  ∃ b off, A = some ⟨b, off, none⟩ ∧ b < w.heap.size ∧ w.cell? ⟨b, off + k, none⟩ = some (.int .i64 x) := by
 obtain ⟨b, off, e, hb, hc⟩ := h.at_ (by omega)
 exact ⟨b, off, e, hb, hc k _ (by unfold intCells; rw [List.getElem?_map, hd]; rfl)⟩
section
variable {H : Type} {enc : TypeId × Value → H} {W : World} {base : Nat} {v : Value} {d : DataW H} {p : List MemPlace} {hd : Bool}
theorem flat_ints (l : List Int) : l.flatMap (fun x => [Value.int .i64 x]) = intCells l := by
 induction l with
 | nil => rfl
 | cons x l ih => simp [ih, intCells]
theorem cellsInt : prog.cellsOf 3 = 1 := by kernel_rfl
theorem open_nums_cells {cs : List Value} {fuel : Nat} {x : DataW H × List MemPlace} (hf : DataW.trod enc prog W 0 (fun _ => true) hd fuel 37 cs = some x) :
  ∃ (A : Option Addr) (n c : Nat) (l : List Int), cs = [.slice A n c] ∧ (l.length = n ∧ n ≤ maxLen ∧ Rd W 1 A n (intCells l) ∧ ∀ x ∈ l, IntB x) := by
 rcases open_ints underlying37 underlying3 cellsInt hf with ⟨h1, _⟩ | ⟨a, n', c', zs, h1, _, hle, hmax, hm, hx, hi, hw⟩
 ·exact ⟨none, 0, 0, [], h1, rfl, Nat.zero_le _, Rd.none_ _ _ _, fun d hd => by cases hd⟩
 ·simp only [if_true] at hm
  have key : ∀ i, i < n' → ∃ x : Int, IntB x ∧ ∀ j u, ([Value.int .i64 x])[j]? = some u → W.cell? (a.add (i * 1 + j)) = some u := by
   intro i hin
   refine ⟨zs[i]'(by omega), (Lit.wf_int_iff .i64 _).1 (hw _ (List.getElem_mem _)), fun j u hj => ?_⟩
   match j, hj with
   | 0, hj =>
    obtain rfl := Option.some.inj hj
    have h3 := hi i (by omega)
    simp only [Nat.mul_one, Nat.add_zero]
    rw [h3, List.getD_eq_getElem?_getD, List.getElem?_eq_getElem (by omega)]; rfl
   | j + 1, hj => simp at hj
  obtain ⟨l, hl, hr, ho⟩ := rd_of_elems (W := W) (a := a) (n := n') (fun x => [Value.int .i64 x]) IntB (size := 1) (fun _ => rfl) (by omega) key
  exact ⟨some a, n', c', l, h1, hl, by omega, by rw [flat_ints] at hr; exact hr, ho⟩
end
theorem infoInt : (prog.info? 3).map (fun i => (i.zero, i.size, i.bytes)) = some (some (.int .i64 0), 1, 8) := by kernel_rfl
def intTo (l : List Int) (k : Nat) : List Value := intCells (l.take k)
theorem intTo_step {l : List Int} {k : Nat} {x : Int} (h : l[k]? = some x) : intTo l (k + 1) = intTo l k ++ [.int .i64 x] := by
 unfold intTo intCells; rw [List.take_add_one, h]; simp
theorem toIntS_any (A : Option Addr) (n c : Nat) (l : List Int) (w : World) (hn : n ≤ 1048576) (hl : Hid (l.length = n)) (hr : Rd w 1 A n (intCells l)) :
  Calls prog 73 #[.slice A n c] w fun e w' => ∃ g, e = .returned (.slice (some ⟨g, 0, none⟩) n n) ∧ Own w' g 3 n (intCells l) ∧ w.heap.size ≤ g ∧ Below w.heap.size w w' := by
 obtain ⟨i0, hi, hz0, hz1, hz2⟩ := info_parts infoInt
 have hmk := fun W => run_make_rowN (P := prog) 37 3 i0 _ underlying37 hi hz0 .i64 .i64 n n (Nat.le_refl _) (by rw [hz2]; omega) (by omega) W
 have HR := hid hr
 rw [hz1] at hmk
 clear hi hz0 hz1 hz2 hr
 go_enter func73, ntmps73
 go_wp2
 clear hmk
 go_loopw [4] (fun i wr => ∃ k : Nat, k ≤ n ∧ i = .int .i64 k ∧ Own wr w.heap.size 3 n (intTo l k) ∧ Below w.heap.size w wr) (fun i _ => n - (intOf i).toNat)
 case atStart => exact ⟨0, Nat.zero_le _, rfl, by unfold intTo; simpa [intCells] using (Own.made (by rw [size_madeCells])), grow_⟩
 case round =>
  obtain ⟨k, hk, rfl, how, hb⟩ := hrel
  by_cases hkn : k < n
  ·obtain ⟨x, hd⟩ : ∃ d, l[k]? = some d := ⟨_, gE (by have := hl.out; omega)⟩
   obtain ⟨b, off, rfl, hblt, c0⟩ := int_at (HR.out.below hb) hkn hd
   have HD := hid hd
   have hzz := hb.size
   have hgg := how.lt
   obtain ⟨o0, e0⟩ := how.there (i := k) (by omega)
   have hfz := how.frozen
   clear hd
   go_wp2
   go_roundw
   case rel =>
    have hlen : (intTo l k).length = k := by
     unfold intTo intCells
     rw [List.length_map, List.length_take, Nat.min_eq_left (by have := hl.out; omega)]
    exact ⟨k + 1, by omega, by go_num, by rw [intTo_step HD.out]; exact how.push (by omega) hlen.symm _, grow_⟩
   case measure => simp [intOf]; omega
  ·obtain rfl : k = n := by omega
   have hfin : intTo l k = intCells l := by unfold intTo; rw [List.take_of_length_le (by have := hl.out; omega)]
   rw [hfin] at how
   go_wp2
   go_ret
   exact ⟨_, rfl, how, Nat.le_refl _, hb⟩
theorem eqIntS_same (A B : Option Addr) (n c c' : Nat) (l : List Int) (w : World) (hn : n ≤ 4194304) (hl : Hid (l.length = n)) (ha : Rd w 1 A n (intCells l)) (hb : Rd w 1 B n (intCells l)) :
  Calls prog 82 #[.slice A n c, .slice B n c'] w fun e w' => e = .returned (.bool true) ∧ Below w.heap.size w w' := by
 have HA := hid ha
 have HB := hid hb
 clear ha hb
 go_enter func82, ntmps82
 go_wp2
 go_loopw [5] (fun i wr => ∃ k : Nat, k ≤ n ∧ i = .int .i64 k ∧ Below w.heap.size w wr) (fun i _ => n - (intOf i).toNat)
 case atStart => exact ⟨0, Nat.zero_le _, rfl, Below.refl _ _⟩
 case round =>
  obtain ⟨k, hk, rfl, hbb⟩ := hrel
  by_cases hkn : k < n
  ·obtain ⟨x, hd⟩ : ∃ d, l[k]? = some d := ⟨_, gE (by have := hl.out; omega)⟩
   obtain ⟨b, off, rfl, hblt, c0⟩ := int_at (HA.out.below hbb) hkn hd
   obtain ⟨b', off', rfl, hblt', c1⟩ := int_at (HB.out.below hbb) hkn hd
   clear hd
   go_wp2
   go_quiet (fail)
   go_wp2
   go_roundw
   case rel => exact ⟨k + 1, by omega, by go_num, grow_⟩
   case measure => simp [intOf]; omega
  ·obtain rfl : k = n := by omega
   go_wp2
   go_ret
   exact ⟨rfl, hbb⟩
open Go.RowKit Go.WideShapes Go.ChangeShapes Go.Joins Go.Deep
structure Nd where
 kind : Int
 text : ByteArray
 adr : Option Addr
 cnt : Nat
 cap : Nat
 kids : List Int
 blank : Bool
structure PN where
 kind : Int
 text : ByteArray
 kids : List Int
 blank : Bool
def Nd.pn (d : Nd) : PN := ⟨d.kind, d.text, d.kids, d.blank⟩
def nodeCells (d : Nd) : List Value := [.int .i64 d.kind, .string d.text, .slice d.adr d.cnt d.cap, .bool d.blank]
theorem nodeCells_len (d : Nd) : (nodeCells d).length = 4 := rfl
def szNode (d : Nd) : Nat := d.text.size + d.cnt
def szNodeL (l : List Nd) : Nat := l.length + (l.map szNode).sum
def OkNode (d : Nd) : Prop := d.text.size ≤ maxLen ∧ d.cnt ≤ maxLen ∧ ∀ x ∈ d.kids, IntB x
def Nds (w : World) (A : Option Addr) (n : Nat) (l : List Nd) : Prop :=
 l.length = n ∧ Rd w 4 A n (l.flatMap nodeCells) ∧ ∀ d ∈ l, Rd w 1 d.adr d.cnt (intCells d.kids)
def OwnNds (w : World) (t u : TypeId) (B g n : Nat) (l : List Nd) : Prop :=
 l.length = n ∧ B ≤ g ∧ Own w g t (n * 4) (l.flatMap nodeCells) ∧ ∀ d ∈ l, ∃ h, d.adr = some ⟨h, 0, none⟩ ∧ B ≤ h ∧ h ≠ g ∧ Own w h u d.cnt (intCells d.kids)
section
variable {w w' w2 : World} {A : Option Addr} {n k g B : Nat} {l : List Nd} {d : Nd} {o o' : Obj} {t u : TypeId}
theorem Nds.len (h : Nds w A n l) : l.length = n := h.1
theorem Nds.next (h : Nds w A n l) (hb : Below w.heap.size w w') : Nds w' A n l := ⟨h.1, h.2.1.next hb, fun d hd => (h.2.2 d hd).next hb⟩
theorem Nds.below (h : Nds w A n l) (hb : Below w.heap.size w w') : Nds w' A n l := h.next hb
theorem Nds.alloc (h : Nds w A n l) (o : Obj) : Nds (w.alloc o) A n l := ⟨h.1, h.2.1.alloc o, fun d hd => (h.2.2 d hd).alloc o⟩
theorem Nds.drewN (h : Nds w A n l) (k : Nat) : Nds (w.drewN k) A n l := h
theorem Nds.drew (h : Nds w A n l) : Nds w.drew A n l := h
theorem rd1_len {xs : List Int} {m : Nat} (h : Rd w 1 A m (intCells xs)) : xs.length = m := by have := h.1; simpa [intCells] using this
theorem Nds.cnt (h : Nds w A n l) (hd : d ∈ l) : d.kids.length = d.cnt := rd1_len (h.2.2 d hd)
theorem Nds.get (h : Nds w A n l) (hk : k < n) : ∃ d, l[k]? = some d := ⟨_, gE (by have := h.1; omega)⟩
theorem Nds.at_ (h : Nds w A n l) (hk : k < n) (hd : l[k]? = some d) :
  ∃ b off, A = some ⟨b, off, none⟩ ∧ b < w.heap.size ∧ w.cell? ⟨b, off + k * 4, none⟩ = some (.int .i64 d.kind) ∧ w.cell? ⟨b, off + k * 4 + 1, none⟩ = some (.string d.text) ∧ w.cell? ⟨b, off + k * 4 + 2, none⟩ = some (.slice d.adr d.cnt d.cap) ∧ w.cell? ⟨b, off + k * 4 + 3, none⟩ = some (.bool d.blank) := by
 obtain ⟨b, off, e, hb, hc⟩ := h.2.1.at_ (by omega)
 exact ⟨b, off, e, hb, hc _ _ (flat_get nodeCells nodeCells_len hd (j := 0) rfl), hc _ _ (flat_get nodeCells nodeCells_len hd (j := 1) rfl), hc _ _ (flat_get nodeCells nodeCells_len hd (j := 2) rfl), hc _ _ (flat_get nodeCells nodeCells_len hd (j := 3) rfl)⟩
theorem Nds.kids (h : Nds w A n l) (hd : l[k]? = some d) : Rd w 1 d.adr d.cnt (intCells d.kids) := h.2.2 d (List.mem_of_getElem? hd)
theorem OwnNds.next (h : OwnNds w t u B g n l) (hb : Below w.heap.size w w') : OwnNds w' t u B g n l :=
 ⟨h.1, h.2.1, h.2.2.1.next hb, fun d hd => by obtain ⟨x, e, hx, hne, ho⟩ := h.2.2.2 d hd; exact ⟨x, e, hx, hne, ho.next hb⟩⟩
theorem OwnNds.alloc (h : OwnNds w t u B g n l) (o : Obj) : OwnNds (w.alloc o) t u B g n l := h.next ((Below.refl _ _).alloc (Nat.le_refl _) o)
theorem OwnNds.nds (h : OwnNds w t u B g n l) (hc : ∀ d ∈ l, d.kids.length = d.cnt) : Nds w (some ⟨g, 0, none⟩) n l :=
 ⟨h.1, h.2.2.1.rd (by rw [flat_len nodeCells nodeCells_len, h.1]), fun d hd => by
  obtain ⟨x, e, _, _, ho⟩ := h.2.2.2 d hd
  rw [e]
  exact ho.rd (by rw [intCells, List.length_map, hc d hd]; omega)⟩
end
section
variable {H : Type} {enc : TypeId × Value → H} {W : World} {base : Nat} {v : Value} {d : DataW H} {p : List MemPlace} {hd : Bool}
theorem cellsNodeE : prog.cellsOf 53 = 4 := by kernel_rfl
theorem open_nodes_cells {cs : List Value} {fuel : Nat} {x : DataW H × List MemPlace} (hf : DataW.trod enc prog W 0 (fun _ => true) hd fuel 22 cs = some x) :
  ∃ (A : Option Addr) (n c : Nat) (l : List Nd), cs = [.slice A n c] ∧ (n ≤ maxLen ∧ Nds W A n l ∧ ∀ d ∈ l, OkNode d) := by
 rcases open_slice_fields underlying22 underlying53 (by kernel_rfl) cellsNodeE hf with ⟨h1, _⟩ | ⟨a, n, c, m, D, Pl, h1, _, hle, hmax, hm, hx, hi⟩
 ·exact ⟨none, 0, 0, [], h1, Nat.zero_le _, ⟨rfl, Rd.none_ _ _ _, fun d hd => by cases hd⟩, fun d hd => by cases hd⟩
 ·have key : ∀ i, i < n → ∃ d : Nd, (OkNode d ∧ Rd W 1 d.adr d.cnt (intCells d.kids)) ∧ ∀ j v, (nodeCells d)[j]? = some v → W.cell? (a.add (i * 4 + j)) = some v := by
   intro i hin
   obtain ⟨ys, nn, _, _, _, hfl⟩ := hi i (by simp at hm; omega)
   obtain ⟨v0, y0, g0, _, t0⟩ := hfl 0 _ rfl
   obtain ⟨x0, e0, _, o0⟩ := DataW.trod_int underlying3 t0
   obtain ⟨v1, y1, g1, _, t1⟩ := hfl 1 _ rfl
   obtain ⟨x1, e1, _, o1⟩ := DataW.trod_string underlying9 t1
   obtain ⟨v2, y2, g2, _, t2⟩ := hfl 2 _ rfl
   obtain ⟨A2, n2, c2, l2, e2, q21, q22, q23, q24⟩ := open_nums_cells t2
   obtain ⟨v3, y3, g3, _, t3⟩ := hfl 3 _ rfl
   obtain ⟨x3, e3, _⟩ := DataW.trod_bool underlying4 t3
   simp only [List.cons.injEq, and_true] at e0 e1 e2 e3
   subst e0 e1 e2 e3
   refine ⟨⟨x0, x1, A2, n2, c2, l2, x3⟩, ⟨⟨o1, q22, q24⟩, q23⟩, fun j v hj => ?_⟩
   match j, hj with
   | 0, hj => obtain rfl := Option.some.inj hj; exact g0
   | 1, hj => obtain rfl := Option.some.inj hj; exact g1
   | 2, hj => obtain rfl := Option.some.inj hj; exact g2
   | 3, hj => obtain rfl := Option.some.inj hj; exact g3
   | j + 4, hj => simp [nodeCells] at hj
  obtain ⟨l, hl, hr, ho⟩ := rd_of_elems (W := W) (a := a) (n := n) nodeCells _ nodeCells_len (by omega) key
  exact ⟨some a, n, c, l, h1, by omega, ⟨hl, hr, fun d hd => (ho d hd).2⟩, fun d hd => (ho d hd).1⟩
theorem open_nodes (hv : Value.okWide prog W .any base 22 v) (h : DataW.Trod enc prog W 0 (fun _ => true) hd 22 v d p) :
  ∃ (A : Option Addr) (n c : Nat) (l : List Nd), v = .slice A n c ∧ (n ≤ maxLen ∧ Nds W A n l ∧ ∀ d ∈ l, OkNode d) := by
 obtain ⟨A, n, c, rfl⟩ := okWide_slice underlying22 hv
 obtain ⟨fuel, hf⟩ := h
 obtain ⟨A', n', c', l, e, r⟩ := open_nodes_cells hf
 simp only [Value.cells, List.cons.injEq, Value.slice.injEq, and_true] at e
 obtain ⟨rfl, rfl, rfl⟩ := e
 exact ⟨_, _, _, l, rfl, r⟩
end
theorem szIntS_ok (A : Option Addr) (n c : Nat) (left : Int) (w : World) (hl1 : left ≤ 1048576) (hle : (n : Int) ≤ left) :
  Calls prog 68 #[.slice A n c, .int .i64 left] w fun e w' => e = .returned (.int .i64 (left - n)) ∧ Below w.heap.size w w' := by
 have g0 : (0 : Int) ≤ left - n := by omega
 go_enter func68, ntmps68
 go_wp2
 go_ret
 exact ⟨rfl, grow_⟩
theorem szIntS_big (A : Option Addr) (n c : Nat) (left : Int) (w : World) (hl0 : 0 ≤ left) (hl1 : left ≤ 1048576) (h0 : n ≤ maxLen) (hle : left < n) :
  Calls prog 68 #[.slice A n c, .int .i64 left] w fun e w' => e = .returned (.int .i64 (-1)) ∧ Below w.heap.size w w' := by
 unfold maxLen at h0
 go_enter func68, ntmps68
 go_wp2
 go_ret
 exact ⟨rfl, grow_⟩
theorem szNode_ok (d : Nd) (left : Int) (w : World) (hl1 : left ≤ 1048576) (hle : (szNode d : Nat) ≤ left) :
  Calls prog 26 #[.agg #[.int .i64 d.kind, .string d.text, .slice d.adr d.cnt d.cap, .bool d.blank], .int .i64 left] w fun e w' => e = .returned (.int .i64 (left - (szNode d : Nat))) ∧ Below w.heap.size w w' := by
 obtain ⟨x0, x1, A, n, c, ks, x3⟩ := d
 have hs : szNode ⟨x0, x1, A, n, c, ks, x3⟩ = x1.size + n := rfl
 rw [hs] at hle ⊢
 clear hs
 rw [show left - ((x1.size + n : Nat) : Int) = left - x1.size - n by omega]
 have g0 : (0 : Int) ≤ left - x1.size := by omega
 have g1 : (0 : Int) ≤ left - x1.size - n := by omega
 have g2 : left - x1.size ≤ 1048576 := by omega
 have g3 : (n : Int) ≤ left - x1.size := by omega
 go_enter func26, ntmps26
 go_wp2_with fail
 refine (szIntS_ok _ _ _ _ _ g2 g3).mono ?_
 rintro e w2 ⟨rfl, h2⟩
 replace h2 := below_box h2
 go_wp2
 go_ret
 exact ⟨rfl, grow_⟩
theorem szNode_big (d : Nd) (left : Int) (w : World) (hl0 : 0 ≤ left) (hl1 : left ≤ 1048576) (h0 : d.text.size ≤ maxLen) (h1 : d.cnt ≤ maxLen) (hle : left < (szNode d : Nat)) :
  Calls prog 26 #[.agg #[.int .i64 d.kind, .string d.text, .slice d.adr d.cnt d.cap, .bool d.blank], .int .i64 left] w fun e w' => e = .returned (.int .i64 (-1)) ∧ Below w.heap.size w w' := by
 obtain ⟨x0, x1, A, n, c, ks, x3⟩ := d
 have hs : szNode ⟨x0, x1, A, n, c, ks, x3⟩ = x1.size + n := rfl
 rw [hs] at hle
 clear hs
 dsimp only at h0 h1 ⊢
 have h1' := h1
 unfold maxLen at h0 h1'
 by_cases g0 : left < x1.size
 ·go_enter func26, ntmps26
  go_wp2
  go_ret
  exact ⟨rfl, grow_⟩
 ·have g1 : (0 : Int) ≤ left - x1.size := by omega
  have g2 : left - x1.size ≤ 1048576 := by omega
  have g3 : left - x1.size < (n : Int) := by omega
  go_enter func26, ntmps26
  go_wp2_with fail
  refine (szIntS_big _ _ _ _ _ g1 g2 h1 g3).mono ?_
  rintro e w2 ⟨rfl, h2⟩
  replace h2 := below_box h2
  go_wp2
  go_ret
  exact ⟨rfl, grow_⟩
def Nps (w : World) (A : Option Addr) (n : Nat) (ps : List PN) : Prop := ∃ l, Nds w A n l ∧ (∀ d ∈ l, d.cnt ≤ d.cap) ∧ l.map Nd.pn = ps
section
variable {w w' : World} {A : Option Addr} {n k : Nat} {ps : List PN} {p : PN} {o o' : Obj}
theorem Nps.len (h : Nps w A n ps) : ps.length = n := by obtain ⟨l, h, _, rfl⟩ := h; rw [List.length_map]; exact h.1
theorem Nps.next (h : Nps w A n ps) (hb : Below w.heap.size w w') : Nps w' A n ps := by obtain ⟨l, h, c, e⟩ := h; exact ⟨l, h.next hb, c, e⟩
theorem Nps.below (h : Nps w A n ps) (hb : Below w.heap.size w w') : Nps w' A n ps := h.next hb
theorem Nps.alloc (h : Nps w A n ps) (o : Obj) : Nps (w.alloc o) A n ps := by obtain ⟨l, h, c, e⟩ := h; exact ⟨l, h.alloc o, c, e⟩
theorem Nps.drewN (h : Nps w A n ps) (k : Nat) : Nps (w.drewN k) A n ps := h
theorem Nps.drew (h : Nps w A n ps) : Nps w.drew A n ps := h
theorem Nps.get (h : Nps w A n ps) (hk : k < n) : ∃ p, ps[k]? = some p := ⟨_, gE (by have := h.len; omega)⟩
theorem Nps.atc (h : Nps w A n ps) (hk : k < n) (hd : ps[k]? = some p) :
  ∃ b off A' c', A = some ⟨b, off, none⟩ ∧ b < w.heap.size ∧ w.cell? ⟨b, off + k * 4, none⟩ = some (.int .i64 p.kind) ∧ w.cell? ⟨b, off + k * 4 + 1, none⟩ = some (.string p.text) ∧ w.cell? ⟨b, off + k * 4 + 2, none⟩ = some (.slice A' p.kids.length c') ∧ w.cell? ⟨b, off + k * 4 + 3, none⟩ = some (.bool p.blank) ∧ p.kids.length ≤ c' ∧ Rd w 1 A' p.kids.length (intCells p.kids) := by
 obtain ⟨l, h, hcap, rfl⟩ := h
 rw [List.getElem?_map] at hd
 obtain ⟨d, hd2, rfl⟩ := Option.map_eq_some_iff.1 hd
 obtain ⟨b, off, e, hb, c0, c1, c2, c3⟩ := h.at_ hk hd2
 have hc := h.cnt (List.mem_of_getElem? hd2)
 have hr := h.kids hd2
 refine ⟨b, off, d.adr, d.cap, e, hb, c0, c1, ?_, c3, ?_, ?_⟩
 ·show w.cell? _ = some (.slice d.adr d.kids.length d.cap); rw [hc]; exact c2
 ·show d.kids.length ≤ d.cap; rw [hc]; exact hcap d (List.mem_of_getElem? hd2)
 ·show Rd w 1 d.adr d.kids.length (intCells d.kids); rw [hc]; exact hr
theorem Nps.at_ (h : Nps w A n ps) (hk : k < n) (hd : ps[k]? = some p) :
  ∃ b off A' c', A = some ⟨b, off, none⟩ ∧ b < w.heap.size ∧ w.cell? ⟨b, off + k * 4, none⟩ = some (.int .i64 p.kind) ∧ w.cell? ⟨b, off + k * 4 + 1, none⟩ = some (.string p.text) ∧ w.cell? ⟨b, off + k * 4 + 2, none⟩ = some (.slice A' p.kids.length c') ∧ w.cell? ⟨b, off + k * 4 + 3, none⟩ = some (.bool p.blank) ∧ Rd w 1 A' p.kids.length (intCells p.kids) := by
 obtain ⟨b, off, A', c', e, hb, c0, c1, c2, c3, _, hr⟩ := h.atc hk hd
 exact ⟨b, off, A', c', e, hb, c0, c1, c2, c3, hr⟩
end
theorem szNodeS_ok (A : Option Addr) (n c : Nat) (l : List Nd) (left : Int) (w : World) (h1 : left ≤ 1048576) (hl : l.length = n)
  (hr : Nds w A n l) (hle : (szNodeL l : Nat) ≤ left) :
  Calls prog 5 #[.slice A n c, .int .i64 left] w fun e w' => e = .returned (.int .i64 (left - (szNodeL l : Nat))) ∧ Below w.heap.size w w' := by
 unfold szNodeL at hle ⊢
 have g0 : (0 : Int) ≤ left - n := by omega
 have gn : n ≤ 1048576 := by omega
 have HL := hid hl
 have HR := hid hr
 clear hl hr
 go_enter func5, ntmps5
 go_wp2
 go_loopw [1, 5] (fun s i wr => ∃ k : Nat, k ≤ n ∧ i = .int .i64 k ∧ s = .int .i64 (left - n - sumK szNode l k) ∧ Below w.heap.size w wr) (fun s i _ => n - (intOf i).toNat)
 case atStart => exact ⟨0, Nat.zero_le _, rfl, by rw [sumK_zero]; go_num, Below.refl _ _⟩
 case round =>
  obtain ⟨k, hk, rfl, rfl, hb⟩ := hrel
  by_cases hkn : k < n
  ·obtain ⟨d, hd⟩ : ∃ d, l[k]? = some d := ⟨_, gE (by have := HL.out; omega)⟩
   obtain ⟨b, off, rfl, hblt, c0, c1, c2, c3⟩ := (HR.out.below hb).at_ hkn hd
   have hq2 := hid (sumK_succ szNode l k _ hd)
   have hq3 := hid (show (szNode d : Nat) ≤ left - n - sumK szNode l k by have := sumK_le szNode l (k + 1); have := hq2.out; have := HL.out; omega)
   have hq4 := hid (show left - n - sumK szNode l k ≤ 1048576 by omega)
   have hq5 : (0 : Int) ≤ left - n - sumK szNode l k - (szNode d : Nat) := by have := hq3.out; omega
   clear hd
   go_wp2_with fail
   refine (szNode_ok _ _ _ hq4.out hq3.out).mono ?_
   rintro e w2 ⟨rfl, h2⟩
   have hb2 := hb.trans (h2.mono hb.size)
   clear hblt c0 c1 c2 c3
   go_wp2
   go_roundw
   case rel => exact ⟨k + 1, by omega, by go_num, by rw [hq2.out]; go_num, grow_⟩
   case measure => simp [intOf]; omega
  ·obtain rfl : k = n := by omega
   have ht : left - (k : Nat) - sumK szNode l k = left - ((l.length + (l.map szNode).sum : Nat) : Int) := by
    have := HL.out; rw [sumK_all _ _ _ (by omega)]; omega
   have HT := hid ht
   clear ht
   go_wp2
   go_ret
   exact ⟨ret_int HT.out, grow_⟩
theorem szNodeS_big (A : Option Addr) (n c : Nat) (l : List Nd) (left : Int) (w : World) (h0 : 0 ≤ left) (h1 : left ≤ 1048576) (hn : n ≤ maxLen) (hl : l.length = n)
  (hr : Nds w A n l) (hs : ∀ d ∈ l, OkNode d) (hle : left < (szNodeL l : Nat)) :
  Calls prog 5 #[.slice A n c, .int .i64 left] w fun e w' => e = .returned (.int .i64 (-1)) ∧ Below w.heap.size w w' := by
 unfold maxLen at hn
 unfold szNodeL at hle
 have HL := hid hl
 have HS := hid hs
 have HR := hid hr
 clear hl hs hr
 by_cases h2 : left < n
 ·go_enter func5, ntmps5
  go_wp2
  go_ret
  exact ⟨rfl, grow_⟩
 ·have g0 : (0 : Int) ≤ left - n := by omega
  go_enter func5, ntmps5
  go_wp2
  go_loopw [1, 5] (fun s i wr => ∃ k : Nat, k ≤ n ∧ i = .int .i64 k ∧ 0 ≤ left - n - sumK szNode l k ∧ s = .int .i64 (left - n - sumK szNode l k) ∧ Below w.heap.size w wr) (fun s i _ => n - (intOf i).toNat)
  case atStart => exact ⟨0, Nat.zero_le _, rfl, by rw [sumK_zero]; omega, by rw [sumK_zero]; go_num, Below.refl _ _⟩
  case round =>
   obtain ⟨k, hk, rfl, hp, rfl, hb⟩ := hrel
   by_cases hkn : k < n
   ·obtain ⟨d, hd⟩ : ∃ d, l[k]? = some d := ⟨_, gE (by have := HL.out; omega)⟩
    have HKh := hid (HS.out _ (List.mem_of_getElem? hd))
    obtain ⟨b, off, rfl, hblt, c0, c1, c2, c3⟩ := (HR.out.below hb).at_ hkn hd
    have hq2 := hid (sumK_succ szNode l k _ hd)
    have hq4 := hid (show left - n - sumK szNode l k ≤ 1048576 by omega)
    clear hd
    by_cases hq3 : (szNode d : Nat) ≤ left - n - sumK szNode l k
    ·have hq5 : (0 : Int) ≤ left - n - sumK szNode l k - (szNode d : Nat) := by omega
     have hq3h := hid hq3
     clear hq3
     go_wp2_with fail
     refine (szNode_ok _ _ _ hq4.out hq3h.out).mono ?_
     rintro e w2 ⟨rfl, h2⟩
     have hb2 := hb.trans (h2.mono hb.size)
     clear hblt c0 c1 c2 c3
     go_wp2
     go_roundw
     case rel => exact ⟨k + 1, by omega, by go_num, by rw [hq2.out]; omega, by rw [hq2.out]; go_num, grow_⟩
     case measure => simp [intOf]; omega
    ·have hq3h := hid (show left - n - sumK szNode l k < (szNode d : Nat) by omega)
     have hph := hid hp
     clear hq3
     go_wp2_with fail
     refine (szNode_big _ _ _ hph.out hq4.out HKh.out.1 HKh.out.2.1 hq3h.out).mono ?_
     rintro e w2 ⟨rfl, h2⟩
     have hb2 := hb.trans (h2.mono hb.size)
     clear hblt c0 c1 c2 c3
     go_wp2
     go_ret
     exact ⟨rfl, grow_⟩
   ·have hf : False := by
     have := HL.out; rw [sumK_all _ _ _ (by omega)] at hp; omega
    exact hf.elim
theorem toNode_any (d : Nd) (w : World) (hn : d.cnt ≤ 1048576) (hr : Rd w 1 d.adr d.cnt (intCells d.kids)) :
  Calls prog 31 #[.agg #[.int .i64 d.kind, .string d.text, .slice d.adr d.cnt d.cap, .bool d.blank]] w fun e w' => ∃ g, e = .returned (.agg #[.int .i64 d.kind, .string d.text, .slice (some ⟨g, 0, none⟩) d.cnt d.cnt, .bool d.blank]) ∧ Own w' g 3 d.cnt (intCells d.kids) ∧ w.heap.size ≤ g ∧ Below w.heap.size w w' := by
 obtain ⟨x0, x1, A, n, c, ks, x3⟩ := d
 dsimp only at hn hr ⊢
 have HL := hid (rd1_len hr)
 have HR := hid hr
 have hbw := Below.refl w.heap.size w
 clear hr
 go_enter func31, ntmps31
 go_wp2_with fail
 refine Calls.mono (toIntS_any _ _ _ ks _ hn HL ?_) ?_
 ·with_reducible exact ((HR.out.alloc _).alloc _).alloc _
 rintro e w2 ⟨g, rfl, ho, hg, h2⟩
 have K1 := Blk.fresh3 h2
 have K2 := Blk.fresh2 h2
 have K3 := Blk.fresh h2
 replace hbw := below_next3 hbw h2
 simp only [World.size_alloc] at K2 K3 hg
 have z1 := K1.lt
 have z2 := K2.lt
 have z3 := K3.lt
 have f2 := K2.frozen
 have f3 := K3.frozen
 have a1 := K1.cell
 have d0 : w2.cell? ⟨w.heap.size + 1, 0, none⟩ = some (.int .i64 0) := K2.cell 0
 have d1 : w2.cell? ⟨w.heap.size + 1, 1, none⟩ = some (.string ⟨#[]⟩) := K2.cell 1
 have d2 : w2.cell? ⟨w.heap.size + 1, 2, none⟩ = some (.slice none 0 0) := K2.cell 2
 have d3 : w2.cell? ⟨w.heap.size + 1, 3, none⟩ = some (.bool false) := K2.cell 3
 have e0 : w2.cell? ⟨w.heap.size + 1 + 1, 0, none⟩ = some (.int .i64 x0) := K3.cell 0
 have e1 : w2.cell? ⟨w.heap.size + 1 + 1, 1, none⟩ = some (.string x1) := K3.cell 1
 have e2 : w2.cell? ⟨w.heap.size + 1 + 1, 2, none⟩ = some (.slice none 0 0) := K3.cell 2
 have e3 : w2.cell? ⟨w.heap.size + 1 + 1, 3, none⟩ = some (.bool false) := K3.cell 3
 have HO := hid ho
 clear K1 K2 K3 h2 ho
 go_wp2
 refine bodyPost_ret (by simp [results, Tryz.results31, go_sem, d0, d1, d2, d3]; try rfl) rfl ?_
 refine ⟨g, rfl, ?_, by omega, grow_⟩
 repeat (first | with_reducible exact HO.out | with_reducible refine Own.far ?_ (by simp; omega) _)
def ToN (w : World) (B n k : Nat) (l : List Nd) : Prop :=
 l.length = k ∧ Own w B 48 (n * 4) (l.flatMap nodeCells) ∧ ∀ d ∈ l, (d.kids.length = d.cnt ∧ d.cnt ≤ d.cap) ∧ ∃ h, d.adr = some ⟨h, 0, none⟩ ∧ B < h ∧ Own w h 3 d.cnt (intCells d.kids)
theorem ToN.next {w w' : World} {B n k : Nat} {l : List Nd} (h : ToN w B n k l) (hb : Below w.heap.size w w') : ToN w' B n k l :=
 ⟨h.1, h.2.1.next hb, fun d hd => by obtain ⟨e, x, e1, h1, ho⟩ := h.2.2 d hd; exact ⟨e, x, e1, h1, ho.next hb⟩⟩
theorem ToN.push {w : World} {B n k : Nat} {l : List Nd} (h : ToN w B n k l) (hk : k < n) (d : Nd) (hc : d.kids.length = d.cnt ∧ d.cnt ≤ d.cap) {g : Nat} (ha : d.adr = some ⟨g, 0, none⟩) (hB : B < g) (ho : Own w g 3 d.cnt (intCells d.kids)) {v0 v1 v2 v3 : Value} (hv : nodeCells d = [v0, v1, v2, v3]) :
  ToN ((((w.setCell ⟨B, k * 4, none⟩ v0).setCell ⟨B, k * 4 + 1, none⟩ v1).setCell ⟨B, k * 4 + 2, none⟩ v2).setCell ⟨B, k * 4 + 3, none⟩ v3) B n (k + 1) (l ++ [d]) := by
 obtain ⟨h1, h2, h3⟩ := h
 have hlen : (l.flatMap nodeCells).length = k * 4 := by rw [flat_len nodeCells nodeCells_len, h1]
 have hp0 := h2.push (by simp [hlen]; omega) (i := k * 4) (by simp [hlen]) v0
 have hp1 := hp0.push (by simp [hlen]; omega) (i := k * 4 + 1) (by simp [hlen]) v1
 have hp2 := hp1.push (by simp [hlen]; omega) (i := k * 4 + 2) (by simp [hlen]) v2
 have hp3 := hp2.push (by simp [hlen]; omega) (i := k * 4 + 3) (by simp [hlen]) v3
 refine ⟨by simp [h1], ?_, fun x hx => ?_⟩
 ·rw [List.flatMap_append, show [d].flatMap nodeCells = [v0, v1, v2, v3] by simp [hv]]
  simpa using hp3
 ·rcases List.mem_append.1 hx with hx | hx
  ·obtain ⟨e, y, e1, h4, hw⟩ := h3 x hx
   exact ⟨e, y, e1, h4, (((hw.far (by simp; omega) _).far (by simp; omega) _).far (by simp; omega) _).far (by simp; omega) _⟩
  ·obtain rfl := List.mem_singleton.1 hx
   exact ⟨hc, g, ha, hB, (((ho.far (by simp; omega) _).far (by simp; omega) _).far (by simp; omega) _).far (by simp; omega) _⟩
theorem infoNode : (prog.info? 48).map (fun i => (i.zero, i.size, i.bytes)) = some (some (.agg #[.int .i64 0, .string ⟨#[]⟩, .slice none 0 0, .bool false]), 4, 56) := by kernel_rfl
theorem eqNode_same (k : Int) (t : ByteArray) (ks : List Int) (z : Bool) (A B : Option Addr) (c c' : Nat) (w : World) (hn : ks.length ≤ 4194304) (ha : Rd w 1 A ks.length (intCells ks)) (hb : Rd w 1 B ks.length (intCells ks)) :
  Calls prog 36 #[.agg #[.int .i64 k, .string t, .slice A ks.length c, .bool z], .agg #[.int .i64 k, .string t, .slice B ks.length c', .bool z]] w fun e w' => e = .returned (.bool true) ∧ Below w.heap.size w w' := by
 have HA := hid ha
 have HB := hid hb
 have hbw := Below.refl w.heap.size w
 clear ha hb
 go_enter func36, ntmps36
 go_wp2_with fail
 refine Calls.mono (eqIntS_same _ _ _ _ _ ks _ hn (hid rfl) ?_ ?_) ?_
 ·with_reducible exact (HA.out.alloc _).alloc _
 ·with_reducible exact (HB.out.alloc _).alloc _
 rintro e w2 ⟨rfl, h2⟩
 have K1 := Blk.fresh2 h2
 have K2 := Blk.fresh h2
 replace hbw := below_next2 hbw h2
 simp only [World.size_alloc] at K2
 have z1 := K1.lt
 have z2 := K2.lt
 have d3 : w2.cell? ⟨w.heap.size, 3, none⟩ = some (.bool z) := K1.cell 3
 have e3 : w2.cell? ⟨w.heap.size + 1, 3, none⟩ = some (.bool z) := K2.cell 3
 clear K1 K2 h2
 go_wp2
 go_ret
 exact ⟨rfl, hbw⟩
theorem eqNodeS_same (A B : Option Addr) (n c c' : Nat) (ps : List PN) (w : World) (hn : n ≤ 4194304) (ha : Nps w A n ps) (hb : Nps w B n ps) (hs : Hid (∀ p ∈ ps, p.kids.length ≤ 4194304)) :
  Calls prog 10 #[.slice A n c, .slice B n c'] w fun e w' => e = .returned (.bool true) ∧ Below w.heap.size w w' := by
 have HL := hid ha.len
 have HA := hid ha
 have HB := hid hb
 clear ha hb
 go_enter func10, ntmps10
 go_wp2
 go_loopw [5] (fun i wr => ∃ k : Nat, k ≤ n ∧ i = .int .i64 k ∧ Below w.heap.size w wr) (fun i _ => n - (intOf i).toNat)
 case atStart => exact ⟨0, Nat.zero_le _, rfl, Below.refl _ _⟩
 case round =>
  obtain ⟨k, hk, rfl, hbb⟩ := hrel
  by_cases hkn : k < n
  ·obtain ⟨p, hd⟩ : ∃ d, ps[k]? = some d := ⟨_, gE (by have := HL.out; omega)⟩
   obtain ⟨b, off, A1, c1, rfl, hblt, d0, d1, d2, d3, hr1⟩ := (HA.out.below hbb).at_ hkn hd
   obtain ⟨b', off', A2, c2, rfl, hblt', d0b, d1b, d2b, d3b, hr2⟩ := (HB.out.below hbb).at_ hkn hd
   have hsz := hs.out p (List.mem_of_getElem? hd)
   have HR1 := hid hr1
   have HR2 := hid hr2
   clear hd hr1 hr2
   go_upto_region 6 with fail
   go_still_tail 8, (by kernel_rfl)
   change wpList _ _ _ _ _ wr.drew
   go_wp2_with fail
   refine (eqNode_same p.kind p.text p.kids p.blank _ _ _ _ _ hsz HR1.out.drew HR2.out.drew).mono ?_
   rintro e w2 ⟨rfl, h2⟩
   have hb2 : Below w.heap.size w w2 := hbb.drew.trans (h2.mono hbb.size)
   clear hblt hblt' d0 d1 d2 d3 d0b d1b d2b d3b
   go_wp2
   go_roundw
   case rel => exact ⟨k + 1, by omega, by go_num, grow_⟩
   case measure => simp [intOf]; omega
  ·obtain rfl : k = n := by omega
   go_wp2
   go_ret
   exact ⟨rfl, hbb⟩
theorem mine_blk' {w : World} {A : Option Addr} {n c : Nat} {B : Nat} {e : TypeId} {sz : Nat} {xs : List Value} (h : Mine w B e sz A n c xs) {g : Nat} (hg : A.map (·.block) = some g) : ∃ cs, Blk w g e cs := by
 rcases h.own with ⟨rfl, _⟩ | ⟨g', rfl, _, _, _, rest, hb, _⟩
 ·simp at hg
 ·simp at hg; subst hg; exact ⟨_, hb⟩
theorem blk_ne {w : World} {g g' : Nat} {t t' : TypeId} {cs cs' : Array Value} (h : Blk w g t cs) (h' : Blk w g' t' cs') (ht : t ≠ t') : g ≠ g' := by
 rintro rfl
 unfold Blk at h h'
 rw [h] at h'
 injection h' with h'
 injection h' with _ h2
 exact ht h2
theorem mine_set {w : World} {B : Nat} {t : TypeId} {s : Nat} {A : Option Addr} {n c : Nat} {xs : List Value} {g : Nat} {t' : TypeId} {cs : Array Value} (hm : Mine w B t s A n c xs) (hb : Blk w g t' cs) (ht : t ≠ t') (i : Nat) (u : Value) : Mine (w.setCell ⟨g, i, none⟩ u) B t s A n c xs := by
 have hl := hm.len
 rcases hm.own with ⟨rfl, rfl, rfl⟩ | ⟨g', rfl, hB, hn, hc, rest, hb', hs⟩
 ·exact ⟨hl, .inl ⟨rfl, rfl⟩⟩
 ·exact Mine.mk_own ⟨rest, hb'.far (blk_ne hb' hb ht) u, hs⟩ hl hB hn hc
theorem grown_undrewP {w w' : World} {row : Option Nat} (h : w.drew.grownBy w' row) : w.grownBy w' row := ⟨h.os, h.tape, h.output, h.size, h.block⟩
theorem infoNd : (prog.info? 48).map (fun i => (i.zero, i.size, i.bytes)) = some (some (.agg #[.int .i64 0, .string ⟨#[]⟩, .slice none 0 0, .bool false]), 4, 56) := by kernel_rfl
theorem nd_new (w : World) (x : Nd) (t : TypeId) : ∀ j v, (nodeCells x)[j]? = some v → (w.alloc (.cells #[.int .i64 x.kind, .string x.text, .slice x.adr x.cnt x.cap, .bool x.blank] t)).cell? ((⟨w.heap.size, 0, none⟩ : Addr).add j) = some v := by
 intro j v hj
 have hb := Blk.new w t #[.int .i64 x.kind, .string x.text, .slice x.adr x.cnt x.cap, .bool x.blank]
 match j, hj with
 | 0, hj => obtain rfl := Option.some.inj hj; exact hb.cell 0
 | 1, hj => obtain rfl := Option.some.inj hj; exact hb.cell 1
 | 2, hj => obtain rfl := Option.some.inj hj; exact hb.cell 2
 | 3, hj => obtain rfl := Option.some.inj hj; exact hb.cell 3
 | j + 4, hj => simp [nodeCells] at hj
theorem nd_one (x : Nd) : ∀ u ∈ nodeCells x, u.oneCell' = true := by
 intro u hu
 simp [nodeCells] at hu
 rcases hu with rfl | rfl | rfl | rfl <;> rfl
theorem int_new (w : World) (x : Int) (t : TypeId) : ∀ j v, [Value.int .i64 x][j]? = some v → (w.alloc (.cells #[.int .i64 x] t)).cell? ((⟨w.heap.size, 0, none⟩ : Addr).add j) = some v := by
 intro j v hj
 have hb := Blk.new w t #[.int .i64 x]
 match j, hj with
 | 0, hj => obtain rfl := Option.some.inj hj; exact hb.cell 0
 | j + 1, hj => simp at hj
theorem int_one (x : Int) : ∀ u ∈ [Value.int .i64 x], u.oneCell' = true := by
 intro u hu
 simp at hu
 subst hu; rfl
theorem ints_snoc (l : List Int) (x : Int) : intCells (l ++ [x]) = intCells l ++ [.int .i64 x] := by simp [intCells]
def KidsIn (w : World) (B : Nat) (U : Nat → Prop) (d : Nd) : Prop := (d.cnt ≤ d.cap ∧ ∀ g, d.adr.map (·.block) = some g → ¬ U g) ∧ Mine w B 3 1 d.adr d.cnt d.cap (intCells d.kids)
theorem KidsIn.next {w w' : World} {B : Nat} {U : Nat → Prop} {x : Nd} (h : KidsIn w B U x) (hb : Below w.heap.size w w') : KidsIn w' B U x := ⟨h.1, h.2.next hb⟩
def allB (p : UInt8 → Bool) (s : ByteArray) : Bool := s.data.toList.all p
def AllTo (p : UInt8 → Bool) (s : ByteArray) (k : Nat) : Prop := (s.data.toList.take k).all p = true
section
variable {p : UInt8 → Bool} {s : ByteArray} {k : Nat}
theorem allTo_zero (p : UInt8 → Bool) (s : ByteArray) : AllTo p s 0 := by simp [AllTo]
theorem allTo_step (h : AllTo p s k) (hk : k < s.size) (hc : p s[k] = true) : AllTo p s (k + 1) := by
 unfold AllTo at h ⊢
 rw [List.take_succ_eq_append_getElem (by simpa using hk), List.all_append, h]
 simp only [List.all_cons, List.all_nil, Bool.and_true, Bool.true_and]
 exact hc
theorem allTo_no (hk : k < s.size) (hc : p s[k] = false) : allB p s = false := by
 unfold allB
 rw [List.all_eq_false]
 exact ⟨s[k], by rw [show s[k] = s.data.toList[k]'(by simpa using hk) from rfl]; exact List.getElem_mem _, by simp [hc]⟩
theorem allTo_all (h : AllTo p s k) (hk : k = s.size) : allB p s = true := by
 unfold AllTo at h; unfold allB
 rwa [List.take_of_length_le (by simp [hk])] at h
end
def firstC (c : UInt8) : Bool := decide ((97 ≤ (c.toNat : Int) ∧ (c.toNat : Int) ≤ 122) ∨ (65 ≤ (c.toNat : Int) ∧ (c.toNat : Int) ≤ 90) ∨ (c.toNat : Int) = 95)
def figC (c : UInt8) : Bool := decide (48 ≤ (c.toNat : Int) ∧ (c.toNat : Int) ≤ 57)
def innerC (c : UInt8) : Bool := firstC c || figC c
def plainC (c : UInt8) : Bool := decide (32 ≤ (c.toNat : Int) ∧ (c.toNat : Int) ≤ 126)
def runN (p : UInt8 → Bool) : List UInt8 → Nat
 | [] => 0
 | c :: l => if p c then runN p l + 1 else 0
theorem runN_le (p : UInt8 → Bool) (l : List UInt8) : runN p l ≤ l.length := by
 induction l with
 | nil => exact Nat.le_refl _
 | cons c l ih => unfold runN; split <;> simp <;> omega
theorem runN_all (p : UInt8 → Bool) (l : List UInt8) : runN p l = l.length ↔ l.all p = true := by
 induction l with
 | nil => simp [runN]
 | cons c l ih =>
  unfold runN
  by_cases h : p c = true
  ·rw [if_pos h, List.length_cons, List.all_cons, h, Bool.true_and, ← ih]; omega
  ·rw [if_neg h, List.length_cons, List.all_cons, Bool.eq_false_iff.2 h]; simp
theorem run_whole (p : UInt8 → Bool) (s : ByteArray) : runN p s.data.toList = s.size ↔ allB p s = true := by
 have h := runN_all p s.data.toList
 rw [ba_len] at h
 exact h
theorem runN_step {p : UInt8 → Bool} {s : ByteArray} {k : Nat} (h : AllTo p s k) (hk : k < s.size) (hc : p s[k] = false) : runN p s.data.toList = k := by
 have key : ∀ (l : List UInt8) (k : Nat) (hk : k < l.length), (l.take k).all p = true → p l[k] = false → runN p l = k := by
  intro l
  induction l with
  | nil => intro k hk; simp at hk
  | cons c l ih =>
   intro k hk h hc
   cases k with
   | zero => simp only [List.getElem_cons_zero] at hc; unfold runN; rw [if_neg (by rw [hc]; decide)]
   | succ k =>
    simp only [List.take_succ_cons, List.all_cons, Bool.and_eq_true] at h
    simp only [List.getElem_cons_succ] at hc
    unfold runN
    rw [if_pos h.1, ih k (by simpa using hk) h.2 hc]
 exact key s.data.toList k (by rw [ba_len]; exact hk) h hc
theorem runN_end {p : UInt8 → Bool} {s : ByteArray} {k : Nat} (h : AllTo p s k) (hk : k = s.size) : runN p s.data.toList = k := by
 rw [(run_whole p s).2 (allTo_all h hk), hk]
theorem firstC_yes {c : UInt8} (h : ((97 : Int) ≤ c.toNat ∧ (c.toNat : Int) ≤ 122) ∨ ((65 : Int) ≤ c.toNat ∧ (c.toNat : Int) ≤ 90) ∨ (c.toNat : Int) = 95) : true = firstC c := (decide_eq_true h).symm
theorem firstC_no {c : UInt8} (h : ¬ (((97 : Int) ≤ c.toNat ∧ (c.toNat : Int) ≤ 122) ∨ ((65 : Int) ≤ c.toNat ∧ (c.toNat : Int) ≤ 90) ∨ (c.toNat : Int) = 95)) : false = firstC c := (decide_eq_false h).symm
theorem figC_yes {c : UInt8} (h : (48 : Int) ≤ c.toNat ∧ (c.toNat : Int) ≤ 57) : true = figC c := (decide_eq_true h).symm
theorem figC_no {c : UInt8} (h : ¬ ((48 : Int) ≤ c.toNat ∧ (c.toNat : Int) ≤ 57)) : false = figC c := (decide_eq_false h).symm
theorem plainC_yes {c : UInt8} (h : (32 : Int) ≤ c.toNat ∧ (c.toNat : Int) ≤ 126) : true = plainC c := (decide_eq_true h).symm
theorem plainC_no {c : UInt8} (h : ¬ ((32 : Int) ≤ c.toNat ∧ (c.toNat : Int) ≤ 126)) : false = plainC c := (decide_eq_false h).symm
theorem specFirst_any (c : UInt8) (w : World) : Calls prog 136 #[.int .u8 c.toNat] w fun e w' => e = .returned (.bool (firstC c)) ∧ w = w' := by
 by_cases h1 : (97 : Int) ≤ c.toNat
 all_goals by_cases h2 : (c.toNat : Int) ≤ 122
 all_goals by_cases h3 : (65 : Int) ≤ c.toNat
 all_goals by_cases h4 : (c.toNat : Int) ≤ 90
 all_goals by_cases h5 : (c.toNat : Int) = 95
 all_goals try omega
 all_goals
  go_enter func136, ntmps136
  go_wp2
  go_ret
  refine ⟨ret_bool ?_, rfl⟩
  first | exact firstC_yes (c := c) (by omega) | exact firstC_no (c := c) (by omega) | (have d : ((c.toNat : Int) == 95) = false := (by rw [beq_eq_false_iff_ne]; omega); rw [d]; exact firstC_no (c := c) (by omega)) | (have d : decide ((c.toNat : Int) = 95) = false := decide_eq_false (by omega); rw [d]; exact firstC_no (c := c) (by omega))
theorem implFirst_any (c : UInt8) (w : World) : Calls prog 185 #[.int .u8 c.toNat] w fun e w' => e = .returned (.bool (firstC c)) ∧ w = w' := by
 by_cases h1 : (97 : Int) ≤ c.toNat
 all_goals by_cases h2 : (c.toNat : Int) ≤ 122
 all_goals by_cases h3 : (65 : Int) ≤ c.toNat
 all_goals by_cases h4 : (c.toNat : Int) ≤ 90
 all_goals by_cases h5 : (c.toNat : Int) = 95
 all_goals try omega
 all_goals
  go_enter func185, ntmps185
  go_wp2
  go_ret
  refine ⟨ret_bool ?_, rfl⟩
  first | exact firstC_yes (c := c) (by omega) | exact firstC_no (c := c) (by omega) | (have d : ((c.toNat : Int) == 95) = false := (by rw [beq_eq_false_iff_ne]; omega); rw [d]; exact firstC_no (c := c) (by omega)) | (have d : decide ((c.toNat : Int) = 95) = false := decide_eq_false (by omega); rw [d]; exact firstC_no (c := c) (by omega))
theorem specFigure_any (c : UInt8) (w : World) : Calls prog 137 #[.int .u8 c.toNat] w fun e w' => e = .returned (.bool (figC c)) ∧ w = w' := by
 by_cases h1 : (48 : Int) ≤ c.toNat
 all_goals by_cases h2 : (c.toNat : Int) ≤ 57
 all_goals
  go_enter func137, ntmps137
  go_wp2
  go_ret
  refine ⟨ret_bool ?_, rfl⟩
  first | exact figC_yes (by omega) | exact figC_no (by omega)
theorem implFigure_any (c : UInt8) (w : World) : Calls prog 188 #[.int .u8 c.toNat] w fun e w' => e = .returned (.bool (figC c)) ∧ w = w' := by
 by_cases h1 : (48 : Int) ≤ c.toNat
 all_goals by_cases h2 : (c.toNat : Int) ≤ 57
 all_goals
  go_enter func188, ntmps188
  go_wp2
  go_ret
  refine ⟨ret_bool ?_, rfl⟩
  first | exact figC_yes (by omega) | exact figC_no (by omega)
theorem specPlain_any (c : UInt8) (w : World) : Calls prog 169 #[.int .u8 c.toNat] w fun e w' => e = .returned (.bool (plainC c)) ∧ w = w' := by
 by_cases h1 : (32 : Int) ≤ c.toNat
 all_goals by_cases h2 : (c.toNat : Int) ≤ 126
 all_goals
  go_enter func169, ntmps169
  go_wp2
  go_ret
  refine ⟨ret_bool ?_, rfl⟩
  first | exact plainC_yes (by omega) | exact plainC_no (by omega)
theorem implInner_any (c : UInt8) (w : World) : Calls prog 187 #[.int .u8 c.toNat] w fun e w' => e = .returned (.bool (innerC c)) ∧ w = w' := by
 have H1 := hid (fun (b : Bool) (hb : firstC c = b) (W : World) => show Calls prog 185 #[.int .u8 (c.toNat : Int)] W fun e w' => e = .returned (.bool b) ∧ W = w' by rw [← hb]; exact implFirst_any c W)
 cases hb : firstC c with
 | true =>
  have H2 := hid (H1.out _ hb)
  have hi : innerC c = true := by unfold innerC; rw [hb]; rfl
  rw [hi]
  clear H1 hb hi
  go_enter func187, ntmps187
  go_wp2_with (go_at_call 185; refine (H2.out _).mono ?_; rintro e w1 ⟨rfl, rfl⟩)
  go_ret
  exact ⟨rfl, rfl⟩
 | false =>
  have H2 := hid (H1.out _ hb)
  have hi : innerC c = figC c := by unfold innerC; rw [hb]; rfl
  rw [hi]
  clear H1 hb hi
  go_enter func187, ntmps187
  go_wp2_with (first | (go_at_call 185; refine (H2.out _).mono ?_; rintro e w1 ⟨rfl, rfl⟩) | (go_at_call 188; refine (implFigure_any c _).mono ?_; rintro e w1 ⟨rfl, rfl⟩))
  go_ret
  exact ⟨rfl, rfl⟩
theorem implNotEnd_any (c : UInt8) (w : World) : Calls prog 191 #[.int .u8 c.toNat] w fun e w' => e = .returned (.bool (c != 10)) ∧ w = w' := by
 by_cases h : (c.toNat : Int) = 10
 ·have hc : c = 10 := by apply UInt8.toNat_inj.1; show c.toNat = 10; omega
  subst hc
  go_enter func191, ntmps191
  go_wp2
  go_ret
  exact ⟨rfl, rfl⟩
 ·have hc : (c != 10) = true := by
   rw [bne_iff_ne]; intro e; subst e; exact h rfl
  rw [hc]
  have h2 : ((c.toNat : Int) == 10) = false := by rw [beq_eq_false_iff_ne]; exact h
  have h3 : ((c.toNat : Int) != 10) = true := by rw [bne_iff_ne]; exact h
  go_enter func191, ntmps191
  go_wp2
  go_ret
  refine ⟨ret_bool ?_, rfl⟩
  first | rfl | exact h3 | simp [h2] | simpa using h
theorem implPlain_any (s : ByteArray) (w : World) (hs : s.size ≤ maxLen) : Calls prog 193 #[.string s] w fun e w' => e = .returned (.bool (allB plainC s)) ∧ w = w' := by
 unfold maxLen at hs
 go_enter func193, ntmps193
 go_wp2
 go_loop [3] (fun i => ∃ k : Nat, k ≤ s.size ∧ AllTo plainC s k ∧ i = .int .i64 k) (fun i => s.size - (intOf i).toNat)
 case atStart => exact ⟨0, Nat.zero_le _, allTo_zero _ s, rfl⟩
 case round =>
  obtain ⟨k, hk, ha, rfl⟩ := hrel
  by_cases hlt : k < s.size
  ·by_cases h1 : (s[k].toNat : Int) < 32
   ·have hn := hid (allTo_no hlt (plainC_no (by omega)).symm)
    go_wp2
    go_ret
    exact ⟨ret_bool hn.out.symm, rfl⟩
   ·by_cases h2 : (126 : Int) < s[k].toNat
    ·have hn := hid (allTo_no hlt (plainC_no (by omega)).symm)
     go_wp2
     go_ret
     exact ⟨ret_bool hn.out.symm, rfl⟩
    ·have hn := allTo_step ha hlt (plainC_yes (by omega)).symm
     go_wp2
     go_round
     case rel => exact ⟨k + 1, by omega, hn, by go_num⟩
     case measure => simp [intOf]; omega
  ·have hn := hid (allTo_all ha (by omega))
   go_wp2
   go_ret
   exact ⟨ret_bool hn.out.symm, rfl⟩
def keyB (s : ByteArray) : Bool :=
 s.toList == [99, 108, 97, 115, 115] || s.toList == [118, 97, 114] || s.toList == [105, 102] || s.toList == [101, 108, 115, 101] || s.toList == [119, 104, 105, 108, 101] || s.toList == [114, 101, 116, 117, 114, 110]
theorem implKey_any (s : ByteArray) (w : World) : Calls prog 244 #[.string s] w fun e w' => e = .returned (.bool (keyB s)) ∧ w = w' := by
 cases h0 : (s.toList == [99, 108, 97, 115, 115]) with
 | true =>
  have hk : keyB s = true := by unfold keyB; simp only [h0, Bool.or_true, Bool.true_or]
  rw [hk]; clear hk
  go_enter func244, ntmps244
  go_wp2
  go_ret
  exact ⟨rfl, rfl⟩
 | false =>
 cases h1 : (s.toList == [118, 97, 114]) with
 | true =>
  have hk : keyB s = true := by unfold keyB; simp only [h1, Bool.or_true, Bool.true_or]
  rw [hk]; clear hk
  go_enter func244, ntmps244
  go_wp2
  go_ret
  exact ⟨rfl, rfl⟩
 | false =>
 cases h2 : (s.toList == [105, 102]) with
 | true =>
  have hk : keyB s = true := by unfold keyB; simp only [h2, Bool.or_true, Bool.true_or]
  rw [hk]; clear hk
  go_enter func244, ntmps244
  go_wp2
  go_ret
  exact ⟨rfl, rfl⟩
 | false =>
 cases h3 : (s.toList == [101, 108, 115, 101]) with
 | true =>
  have hk : keyB s = true := by unfold keyB; simp only [h3, Bool.or_true, Bool.true_or]
  rw [hk]; clear hk
  go_enter func244, ntmps244
  go_wp2
  go_ret
  exact ⟨rfl, rfl⟩
 | false =>
 cases h4 : (s.toList == [119, 104, 105, 108, 101]) with
 | true =>
  have hk : keyB s = true := by unfold keyB; simp only [h4, Bool.or_true, Bool.true_or]
  rw [hk]; clear hk
  go_enter func244, ntmps244
  go_wp2
  go_ret
  exact ⟨rfl, rfl⟩
 | false =>
 cases h5 : (s.toList == [114, 101, 116, 117, 114, 110]) with
 | true =>
  have hk : keyB s = true := by unfold keyB; simp only [h5, Bool.or_true, Bool.true_or]
  rw [hk]; clear hk
  go_enter func244, ntmps244
  go_wp2
  go_ret
  exact ⟨rfl, rfl⟩
 | false =>
 have hk : keyB s = false := by unfold keyB; simp only [h0, h1, h2, h3, h4, h5, Bool.or_self]
 rw [hk]; clear hk
 go_enter func244, ntmps244
 go_wp2
 go_ret
 exact ⟨rfl, rfl⟩
theorem specKey_any (s : ByteArray) (w : World) : Calls prog 140 #[.string s] w fun e w' => e = .returned (.bool (keyB s)) ∧ w = w' := by
 cases h0 : (s.toList == [99, 108, 97, 115, 115]) with
 | true =>
  have hk : keyB s = true := by unfold keyB; simp only [h0, Bool.or_true, Bool.true_or]
  rw [hk]; clear hk
  go_enter func140, ntmps140
  go_wp2
  go_ret
  exact ⟨rfl, rfl⟩
 | false =>
 cases h1 : (s.toList == [118, 97, 114]) with
 | true =>
  have hk : keyB s = true := by unfold keyB; simp only [h1, Bool.or_true, Bool.true_or]
  rw [hk]; clear hk
  go_enter func140, ntmps140
  go_wp2
  go_ret
  exact ⟨rfl, rfl⟩
 | false =>
 cases h2 : (s.toList == [105, 102]) with
 | true =>
  have hk : keyB s = true := by unfold keyB; simp only [h2, Bool.or_true, Bool.true_or]
  rw [hk]; clear hk
  go_enter func140, ntmps140
  go_wp2
  go_ret
  exact ⟨rfl, rfl⟩
 | false =>
 cases h3 : (s.toList == [101, 108, 115, 101]) with
 | true =>
  have hk : keyB s = true := by unfold keyB; simp only [h3, Bool.or_true, Bool.true_or]
  rw [hk]; clear hk
  go_enter func140, ntmps140
  go_wp2
  go_ret
  exact ⟨rfl, rfl⟩
 | false =>
 cases h4 : (s.toList == [119, 104, 105, 108, 101]) with
 | true =>
  have hk : keyB s = true := by unfold keyB; simp only [h4, Bool.or_true, Bool.true_or]
  rw [hk]; clear hk
  go_enter func140, ntmps140
  go_wp2
  go_ret
  exact ⟨rfl, rfl⟩
 | false =>
 cases h5 : (s.toList == [114, 101, 116, 117, 114, 110]) with
 | true =>
  have hk : keyB s = true := by unfold keyB; simp only [h5, Bool.or_true, Bool.true_or]
  rw [hk]; clear hk
  go_enter func140, ntmps140
  go_wp2
  go_ret
  exact ⟨rfl, rfl⟩
 | false =>
 have hk : keyB s = false := by unfold keyB; simp only [h0, h1, h2, h3, h4, h5, Bool.or_self]
 rw [hk]; clear hk
 go_enter func140, ntmps140
 go_wp2
 go_ret
 exact ⟨rfl, rfl⟩
def chainB (s : ByteArray) : Bool :=
 s.toList == [38, 38] || s.toList == [124, 124] || s.toList == [61, 61] || s.toList == [60] || s.toList == [43] || s.toList == [45] || s.toList == [42]
theorem specChain_any (s : ByteArray) (w : World) : Calls prog 242 #[.string s] w fun e w' => e = .returned (.bool (chainB s)) ∧ w = w' := by
 cases h0 : (s.toList == [38, 38]) with
 | true =>
  have hk : chainB s = true := by unfold chainB; simp only [h0, Bool.or_true, Bool.true_or]
  rw [hk]; clear hk
  go_enter func242, ntmps242
  go_wp2
  go_ret
  exact ⟨rfl, rfl⟩
 | false =>
 cases h1 : (s.toList == [124, 124]) with
 | true =>
  have hk : chainB s = true := by unfold chainB; simp only [h1, Bool.or_true, Bool.true_or]
  rw [hk]; clear hk
  go_enter func242, ntmps242
  go_wp2
  go_ret
  exact ⟨rfl, rfl⟩
 | false =>
 cases h2 : (s.toList == [61, 61]) with
 | true =>
  have hk : chainB s = true := by unfold chainB; simp only [h2, Bool.or_true, Bool.true_or]
  rw [hk]; clear hk
  go_enter func242, ntmps242
  go_wp2
  go_ret
  exact ⟨rfl, rfl⟩
 | false =>
 cases h3 : (s.toList == [60]) with
 | true =>
  have hk : chainB s = true := by unfold chainB; simp only [h3, Bool.or_true, Bool.true_or]
  rw [hk]; clear hk
  go_enter func242, ntmps242
  go_wp2
  go_ret
  exact ⟨rfl, rfl⟩
 | false =>
 cases h4 : (s.toList == [43]) with
 | true =>
  have hk : chainB s = true := by unfold chainB; simp only [h4, Bool.or_true, Bool.true_or]
  rw [hk]; clear hk
  go_enter func242, ntmps242
  go_wp2
  go_ret
  exact ⟨rfl, rfl⟩
 | false =>
 cases h5 : (s.toList == [45]) with
 | true =>
  have hk : chainB s = true := by unfold chainB; simp only [h5, Bool.or_true, Bool.true_or]
  rw [hk]; clear hk
  go_enter func242, ntmps242
  go_wp2
  go_ret
  exact ⟨rfl, rfl⟩
 | false =>
 cases h6 : (s.toList == [42]) with
 | true =>
  have hk : chainB s = true := by unfold chainB; simp only [h6, Bool.or_true, Bool.true_or]
  rw [hk]; clear hk
  go_enter func242, ntmps242
  go_wp2
  go_ret
  exact ⟨rfl, rfl⟩
 | false =>
 have hk : chainB s = false := by unfold chainB; simp only [h0, h1, h2, h3, h4, h5, h6, Bool.or_self]
 rw [hk]; clear hk
 go_enter func242, ntmps242
 go_wp2
 go_ret
 exact ⟨rfl, rfl⟩
end Go.Proofs.YtgaajcbklkchjaaGreatDoor
namespace Go.Proofs
open Go.Shelf
def Tryz.lays162_ren : Go.Shelf.Ren := ⟨fun | 162 => 221 | 232 => 246 | 227 => 247 | 234 => 248 | 236 => 249 | 228 => 270 | 271 => 271 | 151 => 272 | 120 => 285 | 197 => 227 | 152 => 286 | 260 => 252 | 137 => 219 | 119 => 292 | 224 => 225 | 225 => 224 | 217 => 223 | 266 => 250 | n => n, fun | 9 => 9 | 4 => 4 | 3 => 3 | 5 => 5 | 117 => 215 | 116 => 214 | 0 => 0 | 124 => 218 | 21 => 21 | 105 => 200 | 46 => 122 | 119 => 228 | 139 => 231 | 138 => 230 | n => n, fun | 3 => 2 | 4 => 3 | n => n⟩
theorem Tryz.lays162 : Go.Proofs.Lays.n162 prog Tryz.lays162_ren := {
 mixed := by kernel_rfl
 f119 := func292.trans (congrArg some (by kernel_rfl))
 f120 := func285.trans (congrArg some (by kernel_rfl))
 f137 := func219.trans (congrArg some (by kernel_rfl))
 f151 := func272.trans (congrArg some (by kernel_rfl))
 f152 := func286.trans (congrArg some (by kernel_rfl))
 f162 := func221.trans (congrArg some (by kernel_rfl))
 f197 := func227.trans (congrArg some (by kernel_rfl))
 f217 := func223.trans (congrArg some (by kernel_rfl))
 f224 := func225.trans (congrArg some (by kernel_rfl))
 f225 := func224.trans (congrArg some (by kernel_rfl))
 f227 := func247.trans (congrArg some (by kernel_rfl))
 f228 := func270.trans (congrArg some (by kernel_rfl))
 f232 := func246.trans (congrArg some (by kernel_rfl))
 f234 := func248.trans (congrArg some (by kernel_rfl))
 f236 := func249.trans (congrArg some (by kernel_rfl))
 f260 := func252.trans (congrArg some (by kernel_rfl))
 f266 := func250.trans (congrArg some (by kernel_rfl))
 f271 := func271.trans (congrArg some (by kernel_rfl))
 t0 := underlying0
 a0 := Tryz.isAgg0
 z0 := Tryz.sizeOf0
 v0 := Tryz.zeroValue0
 t3 := underlying3
 a3 := Tryz.isAgg3
 z3 := Tryz.sizeOf3
 v3 := Tryz.zeroValue3
 t4 := underlying4
 a4 := Tryz.isAgg4
 z4 := Tryz.sizeOf4
 v4 := Tryz.zeroValue4
 t5 := underlying5
 a5 := Tryz.isAgg5
 z5 := Tryz.sizeOf5
 v5 := Tryz.zeroValue5
 t9 := underlying9
 a9 := Tryz.isAgg9
 z9 := Tryz.sizeOf9
 v9 := Tryz.zeroValue9
 t21 := underlying21
 a21 := Tryz.isAgg21
 z21 := Tryz.sizeOf21
 v21 := Tryz.zeroValue21
 t46 := underlying122
 a46 := Tryz.isAgg122
 z46 := Tryz.sizeOf122
 v46 := Tryz.zeroValue122
 t105 := underlying200
 a105 := Tryz.isAgg200
 z105 := Tryz.sizeOf200
 v105 := Tryz.zeroValue200
 t116 := underlying214
 a116 := Tryz.isAgg214
 z116 := Tryz.sizeOf214
 t117 := underlying215
 a117 := Tryz.isAgg215
 z117 := Tryz.sizeOf215
 v117 := Tryz.zeroValue215
 t119 := underlying228
 a119 := Tryz.isAgg228
 z119 := Tryz.sizeOf228
 t124 := underlying218
 a124 := Tryz.isAgg218
 z124 := Tryz.sizeOf218
 v124 := Tryz.zeroValue218
 t138 := underlying230
 a138 := Tryz.isAgg230
 z138 := Tryz.sizeOf230
 v138 := Tryz.zeroValue230
 t139 := underlying231
 a139 := Tryz.isAgg231
 z139 := Tryz.sizeOf231
 v139 := Tryz.zeroValue231
 g3 := by kernel_rfl
 g4 := by kernel_rfl }
open Go.RowKit in
/-- strings.TrimRight: "TrimRight returns a slice of the string s, with all trailing Unicode code points contained in cutset removed.": AT A cutset OF ONE ASCII BYTE. The world is as it was. (LAID: no walk: one application.) -/
theorem Tryz.strings_TrimRight_one (s : ByteArray) (c : UInt8) (hc : c.toNat < 128) (w : World) (hs : s.size ≤ 9223372036854775807) :
    Calls prog 221 #[.string s, .string ⟨#[c]⟩] w fun e w' => e = .returned (.string ⟨(Lib.trimRightB s.data.toList c).toArray⟩) ∧ w' = w := Any.strings_TrimRight_one Tryz.lays162 s c hc w hs
def Tryz.lays137_ren : Go.Shelf.Ren := ⟨fun | 137 => 219 | 217 => 223 | 266 => 250 | n => n, fun | 9 => 9 | 5 => 5 | 3 => 3 | n => n, fun | n => n⟩
theorem Tryz.lays137 : Go.Proofs.Lays.n137 prog Tryz.lays137_ren := {
 mixed := by kernel_rfl
 f137 := func219.trans (congrArg some (by kernel_rfl))
 f217 := func223.trans (congrArg some (by kernel_rfl))
 f266 := func250.trans (congrArg some (by kernel_rfl))
 t3 := underlying3
 a3 := Tryz.isAgg3
 z3 := Tryz.sizeOf3
 v3 := Tryz.zeroValue3
 t5 := underlying5
 a5 := Tryz.isAgg5
 z5 := Tryz.sizeOf5
 v5 := Tryz.zeroValue5
 t9 := underlying9
 a9 := Tryz.isAgg9
 z9 := Tryz.sizeOf9
 v9 := Tryz.zeroValue9 }
open Go.RowKit in
/-- strings.IndexByte: "IndexByte returns the index of the first instance of c in s, or -1 if c is not present in s.": IT RETURNS 'Lib.indexByte s c'; the world is as it was. (LAID: no walk: one application.) -/
theorem Tryz.strings_IndexByte (s : ByteArray) (c : Int) (w : World) :
    Calls prog 219 #[.string s, .int .u8 c] w fun e w' => e = .returned (.int .i64 (Lib.indexByte s.data.toList c.toNat.toUInt8)) ∧ w' = w := Any.strings_IndexByte Tryz.lays137 s c w
def Tryz.laysM171_ren : Go.Shelf.Ren := ⟨fun | 171 => 106 | 243 => 156 | 246 => 197 | 283 => 228 | 284 => 229 | 285 => 230 | 286 => 231 | 129 => 254 | 317 => 253 | 318 => 255 | 319 => 256 | 320 => 257 | 337 => 273 | 338 => 274 | n => n, fun | 3 => 3 | 9 => 9 | 2 => 2 | 4 => 4 | 171 => 202 | 0 => 0 | 53 => 203 | 37 => 34 | 5 => 5 | 173 => 206 | 212 => 222 | 51 => 219 | 20 => 20 | 213 => 223 | 46 => 122 | 232 => 235 | 233 => 236 | n => n, fun | 17 => 1 | 18 => 4 | 19 => 5 | n => n⟩
theorem Tryz.laysM171 : Go.Proofs.LaysM.n171 prog Tryz.laysM171_ren := {
 mixed := by kernel_rfl
 f129 := func254.trans (congrArg some (by kernel_rfl))
 f171 := func106.trans (congrArg some (by kernel_rfl))
 f243 := func156.trans (congrArg some (by kernel_rfl))
 f246 := func197.trans (congrArg some (by kernel_rfl))
 f283 := func228.trans (congrArg some (by kernel_rfl))
 f284 := func229.trans (congrArg some (by kernel_rfl))
 f285 := func230.trans (congrArg some (by kernel_rfl))
 f286 := func231.trans (congrArg some (by kernel_rfl))
 f317 := func253.trans (congrArg some (by kernel_rfl))
 f318 := func255.trans (congrArg some (by kernel_rfl))
 f319 := func256.trans (congrArg some (by kernel_rfl))
 f320 := func257.trans (congrArg some (by kernel_rfl))
 f337 := func273.trans (congrArg some (by kernel_rfl))
 f338 := func274.trans (congrArg some (by kernel_rfl))
 t0 := underlying0
 a0 := Tryz.isAgg0
 z0 := Tryz.sizeOf0
 v0 := Tryz.zeroValue0
 t2 := underlying2
 a2 := Tryz.isAgg2
 z2 := Tryz.sizeOf2
 v2 := Tryz.zeroValue2
 t3 := underlying3
 a3 := Tryz.isAgg3
 z3 := Tryz.sizeOf3
 v3 := Tryz.zeroValue3
 t4 := underlying4
 a4 := Tryz.isAgg4
 z4 := Tryz.sizeOf4
 v4 := Tryz.zeroValue4
 t5 := underlying5
 a5 := Tryz.isAgg5
 z5 := Tryz.sizeOf5
 v5 := Tryz.zeroValue5
 t9 := underlying9
 a9 := Tryz.isAgg9
 z9 := Tryz.sizeOf9
 v9 := Tryz.zeroValue9
 t20 := underlying20
 a20 := Tryz.isAgg20
 z20 := Tryz.sizeOf20
 v20 := Tryz.zeroValue20
 t37 := underlying34
 a37 := Tryz.isAgg34
 z37 := Tryz.sizeOf34
 v37 := Tryz.zeroValue34
 t46 := underlying122
 a46 := Tryz.isAgg122
 z46 := Tryz.sizeOf122
 v46 := Tryz.zeroValue122
 t51 := underlying219
 a51 := Tryz.isAgg219
 z51 := Tryz.sizeOf219
 v51 := Tryz.zeroValue219
 t53 := underlying203
 a53 := Tryz.isAgg203
 z53 := Tryz.sizeOf203
 v53 := Tryz.zeroValue203
 t171 := underlying202
 a171 := Tryz.isAgg202
 z171 := Tryz.sizeOf202
 v171 := Tryz.zeroValue202
 t173 := underlying206
 a173 := Tryz.isAgg206
 z173 := Tryz.sizeOf206
 v173 := Tryz.zeroValue206
 t212 := underlying222
 a212 := Tryz.isAgg222
 z212 := Tryz.sizeOf222
 v212 := Tryz.zeroValue222
 t213 := underlying223
 a213 := Tryz.isAgg223
 z213 := Tryz.sizeOf223
 t232 := underlying235
 a232 := Tryz.isAgg235
 z232 := Tryz.sizeOf235
 v232 := Tryz.zeroValue235
 t233 := underlying236
 a233 := Tryz.isAgg236
 z233 := Tryz.sizeOf236
 v233 := Tryz.zeroValue236
 g17 := by kernel_rfl
 g18 := by kernel_rfl
 g19 := by kernel_rfl
 i0 := by kernel_rfl
 i2 := by kernel_rfl
 i3 := by kernel_rfl
 i4 := by kernel_rfl
 i5 := by kernel_rfl
 i9 := by kernel_rfl
 i20 := by kernel_rfl
 i37 := by kernel_rfl
 i46 := by kernel_rfl
 i51 := by kernel_rfl
 i53 := by kernel_rfl
 i171 := by kernel_rfl
 i173 := by kernel_rfl
 i212 := by kernel_rfl
 i232 := by kernel_rfl
 i233 := by kernel_rfl
 m17 := by kernel_rfl
 m18 := by kernel_rfl
 m19 := by kernel_rfl }
open Go.RowKit Go.Sort Go.Lib in
/-- strconv.Itoa: "Itoa is equivalent to FormatInt(int64(i), 10).": i's DECIMAL NUMERAL ('Lib.itoa': a '-' where i is negative, then the digits), FOR EVERY int. The world behind the call: the world before it, new blocks behind the heap (the library's 'var a [24]byte'), draws. (LAID: no walk: one application.) -/
theorem Tryz.strconv_Itoa (n : Int) (h0 : -9223372036854775808 ≤ n) (h1 : n ≤ 9223372036854775807) (w : World) (htab : Lib.TabIs prog w "internal/strconv.uint64pow10" .u64 Lib.pow10Tab) :
    Calls prog 106 #[.int .i64 n] w fun e w' => e = .returned (.string ⟨(Lib.itoa n).toArray⟩) ∧ ∃ k os, w' = grow (w.drewN k) os := Any.strconv_Itoa Tryz.laysM171 n h0 h1 w htab
def Tryz.lays144_ren : Go.Shelf.Ren := ⟨fun | 144 => 222 | 143 => 153 | 219 => 195 | 217 => 223 | 225 => 224 | 224 => 225 | 267 => 226 | 266 => 250 | 314 => 251 | n => n, fun | 9 => 9 | 4 => 4 | 3 => 3 | 5 => 5 | 46 => 122 | 146 => 220 | 51 => 219 | n => n, fun | 1 => 0 | n => n⟩
theorem Tryz.lays144 : Go.Proofs.Lays.n144 prog Tryz.lays144_ren := {
 mixed := by kernel_rfl
 f143 := func153.trans (congrArg some (by kernel_rfl))
 f144 := func222.trans (congrArg some (by kernel_rfl))
 f217 := func223.trans (congrArg some (by kernel_rfl))
 f219 := func195.trans (congrArg some (by kernel_rfl))
 f224 := func225.trans (congrArg some (by kernel_rfl))
 f225 := func224.trans (congrArg some (by kernel_rfl))
 f266 := func250.trans (congrArg some (by kernel_rfl))
 f267 := func226.trans (congrArg some (by kernel_rfl))
 f314 := func251.trans (congrArg some (by kernel_rfl))
 t3 := underlying3
 a3 := Tryz.isAgg3
 z3 := Tryz.sizeOf3
 v3 := Tryz.zeroValue3
 t4 := underlying4
 a4 := Tryz.isAgg4
 z4 := Tryz.sizeOf4
 v4 := Tryz.zeroValue4
 t5 := underlying5
 a5 := Tryz.isAgg5
 z5 := Tryz.sizeOf5
 v5 := Tryz.zeroValue5
 t9 := underlying9
 a9 := Tryz.isAgg9
 z9 := Tryz.sizeOf9
 v9 := Tryz.zeroValue9
 t46 := underlying122
 a46 := Tryz.isAgg122
 z46 := Tryz.sizeOf122
 v46 := Tryz.zeroValue122
 t51 := underlying219
 a51 := Tryz.isAgg219
 z51 := Tryz.sizeOf219
 v51 := Tryz.zeroValue219
 t146 := underlying220
 a146 := Tryz.isAgg220
 z146 := Tryz.sizeOf220
 v146 := Tryz.zeroValue220
 g1 := by kernel_rfl }
open Go.RowKit Go.Lib in
/-- strings.Contains: "Contains reports whether substr is within s.": AT A substr OF ONE BYTE c: IT RETURNS 'decide (0 ≤ Lib.indexByte s c)'; the world is as it was. (LAID: no walk: one application.) -/
theorem Tryz.strings_Contains_one (s : ByteArray) (c : UInt8) (w : World) :
    Calls prog 222 #[.string s, .string ⟨#[c]⟩] w fun e w' => e = .returned (.bool (decide (0 ≤ Lib.indexByte s.data.toList c))) ∧ w' = w := Any.strings_Contains_one Tryz.lays144 s c w
def Tryz.lays99_ren : Go.Shelf.Ren := ⟨fun | 99 => 190 | 206 => 220 | n => n, fun | 9 => 9 | 4 => 4 | 3 => 3 | n => n, fun | n => n⟩
theorem Tryz.lays99 : Go.Proofs.Lays.n99 prog Tryz.lays99_ren := {
 mixed := by kernel_rfl
 f99 := func190.trans (congrArg some (by kernel_rfl))
 f206 := func220.trans (congrArg some (by kernel_rfl))
 t3 := underlying3
 a3 := Tryz.isAgg3
 z3 := Tryz.sizeOf3
 v3 := Tryz.zeroValue3
 t4 := underlying4
 a4 := Tryz.isAgg4
 z4 := Tryz.sizeOf4
 v4 := Tryz.zeroValue4
 t9 := underlying9
 a9 := Tryz.isAgg9
 z9 := Tryz.sizeOf9
 v9 := Tryz.zeroValue9 }
open Go.RowKit Go.Lib in
/-- strings.HasPrefix: "HasPrefix reports whether the string s begins with prefix.": IT RETURNS 'Lib.hasPrefix s prefix'; the world is as it was. (LAID: no walk: one application.) -/
theorem Tryz.strings_HasPrefix (s p : ByteArray) (w : World) :
    Calls prog 190 #[.string s, .string p] w fun e w' => e = .returned (.bool (Lib.hasPrefix s.data.toList p.data.toList)) ∧ w' = w := Any.strings_HasPrefix Tryz.lays99 s p w
def Tryz.lays107_ren : Go.Shelf.Ren := ⟨fun | 107 => 176 | 108 => 212 | n => n, fun | 28 => 37 | 3 => 3 | 4 => 4 | 0 => 0 | n => n, fun | n => n⟩
theorem Tryz.lays107 : Go.Proofs.Lays.n107 prog Tryz.lays107_ren := {
 mixed := by kernel_rfl
 f107 := func176.trans (congrArg some (by kernel_rfl))
 f108 := func212.trans (congrArg some (by kernel_rfl))
 t0 := underlying0
 a0 := Tryz.isAgg0
 z0 := Tryz.sizeOf0
 v0 := Tryz.zeroValue0
 t3 := underlying3
 a3 := Tryz.isAgg3
 z3 := Tryz.sizeOf3
 v3 := Tryz.zeroValue3
 t4 := underlying4
 a4 := Tryz.isAgg4
 z4 := Tryz.sizeOf4
 v4 := Tryz.zeroValue4
 t28 := underlying37
 a28 := Tryz.isAgg37
 z28 := Tryz.sizeOf37
 v28 := Tryz.zeroValue37 }
open Go.Lib in
/-- slices.Contains at []int: "Contains reports whether v is present in s.": IT RETURNS 'elements.contains v'; the world is as it was. ITS CALLEE slices.Index IS MET BY ITS OWN CONTRACT OFF THE SHELF (lay that first): no loop is walked here. (LAID: no walk: one application.) -/
theorem Tryz.slices_Contains_int (b off n c : Nat) (zs : List Int) (x : Int) (w : World) (hz : n ≤ zs.length) (hbig : n ≤ 9223372036854775807) (hc : ∀ j, j < zs.length → w.cell? ⟨b, off + j, none⟩ = some (.int .i64 (zs.getD j 0))) :
    Calls prog 176 #[.slice (some ⟨b, off, none⟩) n c, .int .i64 x] w fun e w' => e = .returned (.bool ((zs.take n).contains x)) ∧ w' = w := Any.slices_Contains_int Tryz.lays107 b off n c zs x w hz hbig hc
def Tryz.laysNm215_ren : Go.Shelf.Ren := ⟨fun | 15 => 74 | n => n, fun | 22 => 37 | 3 => 3 | 4 => 4 | n => n, fun | n => n⟩
theorem Tryz.laysNm215 : Go.Proofs.Lays2.n15 prog Tryz.laysNm215_ren := {
 mixed := by kernel_rfl
 f15 := func74.trans (congrArg some (by kernel_rfl))
 t3 := underlying3
 a3 := Tryz.isAgg3
 z3 := Tryz.sizeOf3
 v3 := Tryz.zeroValue3
 t4 := underlying4
 a4 := Tryz.isAgg4
 z4 := Tryz.sizeOf4
 v4 := Tryz.zeroValue4
 t22 := underlying37
 a22 := Tryz.isAgg37
 z22 := Tryz.sizeOf37
 v22 := Tryz.zeroValue37
 i3 := by kernel_rfl }
open Go.RowKit Go.Lib in
/-- slices.Clone at []int: "Clone returns a copy of the slice. The elements are copied using assignment, so this is a shallow clone. The result may have additional unused capacity. The result preserves the nilness of s.": OF A SLICE THAT IS NOT nil IT RETURNS A SLICE THAT IS NOT nil, OF THE SAME ELEMENTS, IN MEMORY OF THE CALL's OWN: in the how-to's words (6f): 'w'.ownsRow B e 1 v' n cells': v' begins at the head of a row among the blocks from B on (B: the heap's size at the call), not frozen, whose first cells are the elements · 'Below B w w'': below B all is as it was. The capacity is whatever the run-time gives. 'zs': what the cells behind the slice's address hold; 'zs.take n': its elements. (LAID: no walk: one application.) -/
theorem Tryz.slices_Clone_int (b off n c : Nat) (zs : List Int) (w : World) (hz : n ≤ zs.length) (hbig : n * 8 ≤ 140737488355328) (hc : ∀ j, j < zs.length → w.cell? ⟨b, off + j, none⟩ = some (.int .i64 (zs.getD j 0))) :
    Calls prog 74 #[.slice (some ⟨b, off, none⟩) n c] w fun e w' => ∃ v', e = .returned v' ∧ w'.ownsRow w.heap.size 3 1 v' n ((zs.take n).map (Value.int .i64)) ∧ v' ≠ .slice none 0 0 ∧ Below w.heap.size w w' := Any.slices_Clone_int Tryz.laysNm215 b off n c zs w hz hbig hc
open Go.RowKit Go.Lib in
/-- The same at nil: nil comes back; the world is as it was. (LAID: no walk: one application.) -/
theorem Tryz.slices_Clone_int_nil (n c : Nat) (w : World) :
    Calls prog 74 #[.slice none n c] w fun e w' => e = .returned (.slice none 0 0) ∧ w' = w := Any.slices_Clone_int_nil Tryz.laysNm215 n c w
open Go.RowKit Go.Lib in
/-- The same at a slice of length 0 that is not nil, WHATEVER ITS ADDRESS (no cell is asked for): a slice that is not nil and owns nothing comes back. (LAID: no walk: one application.) -/
theorem Tryz.slices_Clone_int_zero (a : Addr) (c : Nat) (w : World) :
    Calls prog 74 #[.slice (some a) 0 c] w fun e w' => ∃ v', e = .returned v' ∧ w'.ownsRow w.heap.size 3 1 v' 0 [] ∧ v' ≠ .slice none 0 0 ∧ Below w.heap.size w w' := Any.slices_Clone_int_zero Tryz.laysNm215 a c w
end Go.Proofs
namespace Go.Proofs.YtgaajcbklkchjaaGreatDoor
open Go.RowKit
def inB (n a b : Int) : Bool := decide (a ≤ n ∧ n ≤ b)
theorem inB_yes {n a b : Int} (h : a ≤ n) (h' : n ≤ b) : inB n a b = true := decide_eq_true ⟨h, h'⟩
theorem inB_lo {n a b : Int} (h : ¬ a ≤ n) : inB n a b = false := decide_eq_false (fun g => h g.1)
theorem inB_hi {n a b : Int} (h : ¬ n ≤ b) : inB n a b = false := decide_eq_false (fun g => h g.2)
theorem l01In_b (a b c : Int) (w : World) : Calls prog 97 #[.int .i64 a, .int .i64 b, .int .i64 c] w fun e w' => e = .returned (.bool (inB a b c)) ∧ w = w' := by
 by_cases h0 : b ≤ a
 ·by_cases h1 : a ≤ c
  ·rw [inB_yes h0 h1]
   go_enter func97, ntmps97
   go_wp2
   go_ret
   exact ⟨rfl, rfl⟩
  ·rw [inB_hi h1]
   go_enter func97, ntmps97
   go_wp2
   go_ret
   exact ⟨rfl, rfl⟩
 ·rw [inB_lo h0]
  go_enter func97, ntmps97
  go_wp2
  go_ret
  exact ⟨rfl, rfl⟩
theorem inRange_b (a b c : Int) (w : World) : Calls prog 59 #[.int .i64 a, .int .i64 b, .int .i64 c] w fun e w' => e = .returned (.bool (inB a b c)) ∧ w = w' := by
 by_cases h0 : b ≤ a
 ·by_cases h1 : a ≤ c
  ·rw [inB_yes h0 h1]
   go_enter func59, ntmps59
   go_wp2
   go_ret
   exact ⟨rfl, rfl⟩
  ·rw [inB_hi h1]
   go_enter func59, ntmps59
   go_wp2
   go_ret
   exact ⟨rfl, rfl⟩
 ·rw [inB_lo h0]
  go_enter func59, ntmps59
  go_wp2
  go_ret
  exact ⟨rfl, rfl⟩
theorem toOptions_any (a b : Int) (c d e : Bool) (w : World) : Calls prog 8 #[.agg #[.int .i64 a, .int .i64 b, .bool c, .bool d, .bool e]] w fun x w' => x = .returned (.agg #[.int .i64 a, .int .i64 b, .bool c, .bool d, .bool e]) ∧ Below w.heap.size w w' := by
 go_enter func8, ntmps8
 go_wp2
 go_returns
 exact ⟨rfl, grow_⟩
def mkGo : Nat → Nat → ByteArray → ByteArray
 | 0, _, out => out
 | f + 1, k, out => if k = 0 then out else mkGo f (k / 10) ((⟨#[48 + UInt8.ofNat (k % 10)]⟩ : ByteArray) ++ out)
def mkT (k : Int) : ByteArray := (⟨#[109]⟩ : ByteArray) ++ mkGo k.toNat k.toNat ⟨#[]⟩
def MkAt (k f q : Nat) (out : ByteArray) : Prop := mkGo k k ⟨#[]⟩ = mkGo f q out ∧ q ≤ f ∧ out.size + f ≤ k
theorem mkAt_step {k f q : Nat} {out : ByteArray} (h : MkAt k f q out) (hq : 0 < q) : MkAt k (f - 1) (q / 10) ((⟨#[48 + UInt8.ofNat (q % 10)]⟩ : ByteArray) ++ out) := by
 obtain ⟨h1, h2, h3⟩ := h
 obtain ⟨f, rfl⟩ : ∃ g, f = g + 1 := ⟨f - 1, by omega⟩
 refine ⟨?_, by omega, ?_⟩
 ·rw [h1, mkGo, if_neg (by omega)]; rfl
 ·rw [ByteArray.size_append, show (⟨#[48 + UInt8.ofNat (q % 10)]⟩ : ByteArray).size = 1 from rfl]; omega
theorem mkAt_end {k f q : Nat} {out : ByteArray} (h : MkAt k f q out) (hq : q = 0) : mkGo k k ⟨#[]⟩ = out := by
 obtain ⟨h1, h2, h3⟩ := h
 subst hq
 rw [h1]
 cases f with
 | zero => rfl
 | succ f => rw [mkGo, if_pos rfl]
theorem conv_one (W : World) (q : Nat) : (convert 34 9 (.slice (some ⟨W.heap.size, 0, none⟩) 1 1)).run prog (W.alloc (.cells #[.int .u8 (48 + (q : Int) % 10)] 5)) = .ok (.string ⟨#[48 + UInt8.ofNat (q % 10)]⟩) (W.alloc (.cells #[.int .u8 (48 + (q : Int) % 10)] 5)) := by
 have h := run_convert_bytes_back (P := prog) (W.alloc (.cells #[.int .u8 (48 + (q : Int) % 10)] 5)) 34 9 5 ⟨W.heap.size, 0, none⟩ 1 [48 + UInt8.ofNat (q % 10)] underlying34 underlying5 underlying9 (fun j hj => by
  simp at hj
  subst hj
  have h2 := (Blk.new W 5 #[.int .u8 (48 + (q : Int) % 10)]).cell 0
  rw [show (⟨W.heap.size, 0, none⟩ : Addr).add 0 = ⟨W.heap.size, 0, none⟩ from rfl, h2]
  simp
  omega)
 simpa using h
theorem markText_nat (k : Nat) (w : World) (h0 : 1 ≤ k) (h1 : k ≤ 1099511627776) :
  Calls prog 37 #[.int .i64 (k : Int)] w fun e w' => e = .returned (.string (mkT k)) ∧ Below w.heap.size w w' := by
 have hk0 : ¬ (k : Int) ≤ 0 := by omega
 have HC := hid (show mkT k = (⟨#[109]⟩ : ByteArray) ++ mkGo k k ⟨#[]⟩ from rfl)
 go_enter func37, ntmps37
 go_wp2
 go_loopw [0, 3] (fun a o wr => ∃ (f q : Nat) (out : ByteArray), q ≤ k ∧ MkAt k f q out ∧ a = .int .i64 q ∧ o = .string out ∧ Below w.heap.size w wr) (fun a _ _ => (intOf a).toNat)
 case atStart => exact ⟨k, k, ⟨#[]⟩, Nat.le_refl _, ⟨rfl, Nat.le_refl _, by simp [ByteArray.size]⟩, rfl, rfl, Below.refl _ _⟩
 case round =>
  obtain ⟨f, q, out, hqk, hat, rfl, rfl, hb⟩ := hrel
  have hout : out.size ≤ 1099511627776 := by have := hat.2.2; omega
  by_cases hq : 0 < q
  ·have hst := mkAt_step hat hq
   have hz := hb.size
   have hm0 : (0 : Int) ≤ (q : Int) % 10 := by omega
   have hm1 : (q : Int) % 10 ≤ 9 := by omega
   have hcv := fun W => conv_one W q
   go_wp2
   go_roundw
   case rel => exact ⟨f - 1, q / 10, _, by omega, hst, by go_num, rfl, grow_⟩
   case measure => simp [intOf]; omega
  ·have hst := hid (mkAt_end hat (by omega))
   go_wp2
   go_ret
   exact ⟨ret_str (by rw [HC.out, hst.out]), hb⟩
theorem markText_any (k : Int) (w : World) (h0 : 1 ≤ k) (h1 : k ≤ 1099511627776) :
  Calls prog 37 #[.int .i64 k] w fun e w' => e = .returned (.string (mkT k)) ∧ Below w.heap.size w w' := by
 obtain ⟨n, rfl⟩ := Int.eq_ofNat_of_zero_le (show 0 ≤ k by omega)
 exact markText_nat n w (by omega) (by omega)
def setRow (xs : List Value) (i : Nat) : List Value → List Value
 | [] => xs
 | v :: r => setRow (xs.set i v) (i + 1) r
theorem setRow_len (r : List Value) : ∀ (xs : List Value) (i : Nat), (setRow xs i r).length = xs.length := by
 induction r with
 | nil => intro xs i; rfl
 | cons v r ih => intro xs i; rw [setRow, ih, List.length_set]
theorem setRow_get (r : List Value) : ∀ (xs : List Value) (i x : Nat), i + r.length ≤ xs.length → (setRow xs i r)[x]? = if i ≤ x ∧ x < i + r.length then r[x - i]? else xs[x]? := by
 induction r with
 | nil => intro xs i x h; rw [setRow, if_neg (by simp)]
 | cons v r ih =>
  intro xs i x h
  simp only [List.length_cons] at h
  rw [setRow, ih _ _ _ (by rw [List.length_set]; omega)]
  by_cases h1 : i + 1 ≤ x ∧ x < i + 1 + r.length
  ·rw [if_pos h1, if_pos ⟨by omega, by simp only [List.length_cons]; omega⟩, show x - i = (x - (i + 1)) + 1 by omega, List.getElem?_cons_succ]
  ·rw [if_neg h1, List.getElem?_set]
   by_cases h2 : i = x
   ·subst h2
    rw [if_pos rfl, if_pos (by omega), if_pos ⟨by omega, by simp only [List.length_cons]; omega⟩]
    simp
   ·rw [if_neg h2, if_neg]
    intro h3
    simp only [List.length_cons] at h3
    omega
def MarkedTo (xs M : List Value) (size j : Nat) : Prop := xs.length = M.length ∧ ∀ x, x < j * size → xs[x]? = M[x]?
theorem marked_zero {xs M : List Value} {size : Nat} (h : xs.length = M.length) : MarkedTo xs M size 0 := ⟨h, fun x hx => absurd hx (by omega)⟩
theorem marked_step {xs M row : List Value} {size j : Nat} (h : MarkedTo xs M size j) (hr : row.length = size) (hl : (j + 1) * size ≤ M.length) (hM : ∀ y, y < size → M[j * size + y]? = row[y]?) :
  MarkedTo (setRow xs (j * size) row) M size (j + 1) := by
 obtain ⟨h1, h2⟩ := h
 have e : (j + 1) * size = j * size + size := by rw [Nat.add_mul]; omega
 refine ⟨by rw [setRow_len, h1], fun x hx => ?_⟩
 rw [setRow_get _ _ _ _ (by omega)]
 by_cases h3 : j * size ≤ x ∧ x < j * size + row.length
 ·rw [if_pos h3]
  have h4 := hM (x - j * size) (by omega)
  rw [show j * size + (x - j * size) = x by omega] at h4
  exact h4.symm
 ·rw [if_neg h3]
  exact h2 x (by omega)
theorem marked_all {xs M : List Value} {size n : Nat} (h : MarkedTo xs M size n) (hl : M.length = n * size) : xs = M := by
 obtain ⟨h1, h2⟩ := h
 apply List.ext_getElem?
 intro x
 by_cases hx : x < n * size
 ·exact h2 x hx
 ·rw [List.getElem?_eq_none (by omega), List.getElem?_eq_none (by omega)]
def markRow (row : Int → List Value) (size : Nat) (k : Int) (n : Nat) : List Value := (List.range n).flatMap (fun i => row (k + (size * i : Nat)))
theorem marks_len {row : Int → List Value} {size : Nat} (h : ∀ k, (row k).length = size) (k : Int) (n : Nat) : (markRow row size k n).length = n * size := by
 unfold markRow
 rw [flat_len _ (fun _ => h _), List.length_range]
theorem marks_get {row : Int → List Value} {size : Nat} (h : ∀ k, (row k).length = size) (k : Int) (n j : Nat) (hj : j < n) : ∀ y, y < size → (markRow row size k n)[j * size + y]? = (row (k + (size * j : Nat)))[y]? := by
 intro y hy
 unfold markRow
 have h1 : (row (k + (size * j : Nat)))[y]? = some ((row (k + (size * j : Nat)))[y]'(by rw [h]; exact hy)) := List.getElem?_eq_getElem _
 rw [h1]
 exact flat_get (fun i : Nat => row (k + (size * i : Nat))) (fun _ => h _) (l := List.range n) (i := j) (d := j) (by simp [hj]) h1
theorem marks_one {row : Int → List Value} {size : Nat} (h : ∀ k, (row k).length = size) {k q : Int} {n j : Nat} (hj : j < n) (hq : q = k + (size * j : Nat)) {y : Nat} {v : Value} (hv : (row q)[y]? = some v) : (markRow row size k n)[j * size + y]? = some v := by
 subst hq
 have hy : y < size := by have := (List.getElem?_eq_some_iff.1 hv).1; rw [h] at this; exact this
 rw [marks_get h k n j hj y hy, hv]
theorem grow_set {a w : World} {g : Nat} (h : a.grownBy w (some g)) (o : Nat) (u : Value) : a.grownBy (w.setCell ⟨g, o, none⟩ u) (some g) :=
 ⟨h.os, h.tape, h.output, by simpa [World.setCell] using h.size, fun i hi hne => (Below.heap_setCell w ⟨g, o, none⟩ u i (fun e => hne (by rw [e]))).trans (h.block i hi hne)⟩
section
variable {w w' : World} {g : Nat} {t : TypeId} {cap : Nat} {xs : List Value}
theorem Own.fits (h : Own w g t cap xs) : xs.length ≤ cap := by obtain ⟨rest, hb, hs⟩ := h; rw [lA] at hs; omega
theorem Own.set (h : Own w g t cap xs) {i : Nat} (hi : i < xs.length) (u : Value) : Own (w.setCell ⟨g, i, none⟩ u) g t cap (xs.set i u) := by
 obtain ⟨rest, hb, hs⟩ := h
 refine ⟨rest, ?_, by simpa using hs⟩
 have h2 := hb.set_ i u
 have e : ((xs ++ rest).toArray).setIfInBounds i u = ((xs.set i u) ++ rest).toArray := by
  simp [List.set_append_left _ _ hi]
 rwa [e] at h2
end
def intMk (k : Int) : List Value := [.int .i64 (k)]
theorem intMk_len (k : Int) : (intMk k).length = 1 := rfl
theorem markIntS_any (g n c cap : Nat) (k : Int) (xs : List Value) (w : World) (hown : Own w g 3 cap xs) (hlen : xs.length = n * 1) (h0 : 1 ≤ k) (h1 : k + (1 * n : Nat) ≤ 1073741824) :
  Calls prog 38 #[.slice (some ⟨g, 0, none⟩) n c, .int .i64 k] w fun e w' => e = .returned (.int .i64 (k + (1 * n : Nat))) ∧ Own w' g 3 cap (markRow intMk 1 k n) ∧ w.grownBy w' (some g) := by
 have HX := hid hlen
 have HK := hid h1
 have hn : n ≤ 1073741824 := by omega
 clear hlen h1
 go_enter func38, ntmps38
 go_wp2
 go_loopw [1, 5] (fun s i wr => ∃ (j : Nat) (q : Int) (ys : List Value), j ≤ n ∧ Hid (q = k + (1 * j : Nat)) ∧ i = .int .i64 j ∧ s = .int .i64 q ∧ Own wr g 3 cap ys ∧ MarkedTo ys (markRow intMk 1 k n) 1 j ∧ w.grownBy wr (some g)) (fun _ i _ => n - (intOf i).toNat)
 case atStart => exact ⟨0, k, xs, Nat.zero_le _, (show k = k + ((1 * 0 : Nat) : Int) by simp), rfl, rfl, hown, marked_zero (by rw [marks_len intMk_len]; exact HX.out), ⟨rfl, rfl, rfl, Nat.le_refl _, fun _ _ _ => rfl⟩⟩
 case round =>
  obtain ⟨j, q, ys, hj, HQ, rfl, rfl, how, hmk, hg⟩ := hrel
  by_cases hjn : j < n
  ·have hq0 : 1 ≤ q := by have := HQ.out; omega
   have hq1 : q + 1 ≤ 1073741824 := by have := HQ.out; have := HK.out; omega
   have hys := hid (show ys.length = n * 1 by rw [hmk.1, marks_len intMk_len])
   have HM := hid hmk
   clear hmk hown
   have hz := how.lt
   have fz := how.frozen
   obtain ⟨o0, e0⟩ := how.there (i := j) (by have := how.fits; have := hys.out; omega)
   go_wp2
   go_roundw
   case rel =>
    refine ⟨j + 1, _, _, by omega, ?_, by go_num, rfl, (how.set (i := j) (by (try simp only [List.length_set]); have := hys.out; omega) _), ?_, (grow_set hg _ _)⟩
    ·show _ = _
     have := HQ.out
     omega
    ·have hst := marked_step (row := intMk q) (size := 1) (j := j) HM.out rfl (by rw [marks_len intMk_len]; omega) (fun y hy => by rw [marks_get intMk_len k n j hjn y hy, HQ.out])
     rw [Nat.mul_one] at hst
     exact hst
   case measure => simp [intOf]; omega
  ·obtain rfl : j = n := by omega
   obtain rfl := marked_all hmk (marks_len intMk_len k j)
   go_wp2
   go_ret
   exact ⟨ret_int HQ.out, how, hg⟩
theorem markIntS_nil (A : Option Addr) (c : Nat) (k : Int) (w : World) :
  Calls prog 38 #[.slice A 0 c, .int .i64 k] w fun e w' => e = .returned (.int .i64 k) ∧ w = w' := by
 go_enter func38, ntmps38
 go_wp2
 refine wp_loop_rounds 1 ?_
 rw [rounds_succ]
 go_wp2
 go_ret
 exact ⟨rfl, rfl⟩
theorem heldIntS_any (A : Option Addr) (n c : Nat) (k : Int) (w : World) (hr : Rd w 1 A n (markRow intMk 1 k n)) (h0 : 1 ≤ k) (h1 : k + (1 * n : Nat) ≤ 1073741824) :
  Calls prog 39 #[.slice A n c, .int .i64 k] w fun e w' => e = .returned (.int .i64 (k + (1 * n : Nat))) ∧ Below w.heap.size w w' := by
 have HK := hid h1
 have hn : n ≤ 1073741824 := by omega
 clear h1
 go_enter func39, ntmps39
 go_wp2
 go_loopw [1, 5] (fun s i wr => ∃ (j : Nat) (q : Int), j ≤ n ∧ Hid (q = k + (1 * j : Nat)) ∧ i = .int .i64 j ∧ s = .int .i64 q ∧ Below w.heap.size w wr) (fun _ i _ => n - (intOf i).toNat)
 case atStart => exact ⟨0, k, Nat.zero_le _, (show k = k + ((1 * 0 : Nat) : Int) by simp), rfl, rfl, Below.refl _ _⟩
 case round =>
  obtain ⟨j, q, hj, HQ, rfl, rfl, hb⟩ := hrel
  by_cases hjn : j < n
  ·have hq0 : 1 ≤ q := by have := HQ.out; omega
   have hq1 : q + 1 ≤ 1073741824 := by have := HQ.out; have := HK.out; omega
   obtain ⟨b, off, rfl, hblt, hcell⟩ := (hr.below hb).at_ (by omega)
   have c0 : wr.cell? ⟨b, off + j, none⟩ = some (.int .i64 (q)) := hcell _ _ (by have hm1 := marks_one intMk_len hjn HQ.out (y := 0) rfl; simpa using hm1)
   clear hcell hr
   go_wp2
   go_roundw
   case rel =>
    refine ⟨j + 1, _, by omega, ?_, by go_num, rfl, hb⟩
    show _ = _
    have := HQ.out
    omega
   case measure => simp [intOf]; omega
  ·obtain rfl : j = n := by omega
   go_wp2
   go_ret
   exact ⟨ret_int HQ.out, hb⟩
def Kept (B hi : Nat) (w w' : World) : Prop :=
 (w'.os = w.os ∧ w'.tape = w.tape ∧ w'.output = w.output) ∧ w.heap.size ≤ w'.heap.size ∧ ∀ g, g < w.heap.size → (g < B ∨ hi ≤ g) → w'.heap[g]? = w.heap[g]?
section
variable {B hi b B2 hi2 : Nat} {w w' w2 w0 : World} {A : Option Addr} {n c : Nat}
theorem Kept.refl (B hi : Nat) (w : World) : Kept B hi w w := ⟨⟨rfl, rfl, rfl⟩, Nat.le_refl _, fun _ _ _ => rfl⟩
theorem Kept.trans (h : Kept B hi w w') (k : Kept B hi w' w2) : Kept B hi w w2 :=
 ⟨⟨k.1.1.trans h.1.1, k.1.2.1.trans h.1.2.1, k.1.2.2.trans h.1.2.2⟩, Nat.le_trans h.2.1 k.2.1, fun g hg hd => (k.2.2 g (Nat.lt_of_lt_of_le hg h.2.1) hd).trans (h.2.2 g hg hd)⟩
theorem Kept.of_below (B hi : Nat) (hb : Below w.heap.size w w') : Kept B hi w w' := ⟨⟨hb.os, hb.tape, hb.output⟩, hb.size, fun g hg _ => hb.block g hg⟩
theorem Kept.of_grown {row : Option Nat} (hg : w.grownBy w' row) (hr : ∀ g, row = some g → B ≤ g ∧ g < hi) : Kept B hi w w' :=
 ⟨⟨hg.os, hg.tape, hg.output⟩, hg.size, fun g hgl hd => hg.block g hgl (fun e => by have := hr g e.symm; omega)⟩
theorem Kept.of_set (w : World) {g : Nat} (h1 : B ≤ g) (h2 : g < hi) (o : Nat) (u : Value) : Kept B hi w (w.setCell ⟨g, o, none⟩ u) :=
 ⟨⟨rfl, rfl, rfl⟩, by simp [World.setCell], fun q hq hd => Below.heap_setCell w ⟨g, o, none⟩ u q (fun e => by simp at e; omega)⟩
theorem Kept.below (k : Kept B hi w w') (hb : Below b w0 w) (h1 : b ≤ B) (h2 : b ≤ w.heap.size) : Below b w0 w' :=
 ⟨k.1.1.trans hb.os, k.1.2.1.trans hb.tape, k.1.2.2.trans hb.output, Nat.le_trans hb.size k.2.1, fun g hg => (k.2.2 g (by omega) (.inl (by omega))).trans (hb.block g hg)⟩
theorem Blk.keptR {g : Nat} {t : TypeId} {cs : Array Value} (h : Blk w g t cs) (k : Kept B hi w w') (hg : g < B ∨ hi ≤ g) : Blk w' g t cs := (k.2.2 g h.lt hg).trans h
theorem Mine.kept {e : TypeId} {s : Nat} {xs : List Value} (h : Mine w B2 e s A n c xs) (k : Kept B hi w w') (hg : ∀ g, A.map (·.block) = some g → g < B ∨ hi ≤ g) : Mine w' B2 e s A n c xs := by
 have hl := h.len
 rcases h.own with ⟨rfl, rfl, rfl⟩ | ⟨g, rfl, hB, hn, hc, rest, hb, hs⟩
 ·exact ⟨hl, .inl ⟨rfl, rfl⟩⟩
 ·exact Mine.mk_own ⟨rest, hb.keptR k (hg g rfl), hs⟩ hl hB hn hc
def KidR (w : World) (B hi : Nat) (d : Nd) : Prop := d.cnt ≤ d.cap ∧ Mine w B 3 1 d.adr d.cnt d.cap (intCells d.kids) ∧ ∀ g, d.adr.map (·.block) = some g → g < hi
def ApartR (x y : Nd) : Prop := ∀ g, x.adr.map (·.block) = some g → y.adr.map (·.block) ≠ some g
structure NR (w : World) (B hi : Nat) (A : Option Addr) (n c : Nat) (l : List Nd) : Prop where
 len : l.length = n
 row : Mine w B 48 4 A n c (l.flatMap nodeCells)
 rowHi : ∀ g, A.map (·.block) = some g → g < hi
 kid : ∀ d ∈ l, KidR w B hi d
 apart : l.Pairwise ApartR
theorem KidR.len {d : Nd} (h : KidR w B hi d) : d.kids.length = d.cnt := by have := h.2.1.len; simpa [intCells] using this
theorem KidR.rd {d : Nd} (h : KidR w B hi d) : Rd w 1 d.adr d.cnt (intCells d.kids) := h.2.1.rd
theorem KidR.kept {d : Nd} (h : KidR w B hi d) (k : Kept B2 hi2 w w') (hd : hi ≤ B2 ∨ hi2 ≤ B) : KidR w' B hi d := by
 refine ⟨h.1, h.2.1.kept k (fun g hg => ?_), h.2.2⟩
 have := h.2.2 g hg
 have := (Mine.blk h.2.1 hg).1
 omega
def Npc (w : World) (A : Option Addr) (n : Nat) (ps : List PN) : Prop := ∃ l, Nds w A n l ∧ (∀ d ∈ l, d.cnt ≤ d.cap ∧ (d.adr = none → d.cap = 0)) ∧ l.map Nd.pn = ps
theorem Npc.nps {ps : List PN} (h : Npc w A n ps) : Nps w A n ps := by obtain ⟨l, h1, h2, h3⟩ := h; exact ⟨l, h1, fun d hd => (h2 d hd).1, h3⟩
theorem Npc.next {ps : List PN} (h : Npc w A n ps) (hb : Below w.heap.size w w') : Npc w' A n ps := by obtain ⟨l, h1, h2, h3⟩ := h; exact ⟨l, h1.next hb, h2, h3⟩
variable {l : List Nd}
theorem NR.nds (h : NR w B hi A n c l) : Nds w A n l := ⟨h.len, h.row.rd, fun d hd => (h.kid d hd).rd⟩
theorem NR.npc (h : NR w B hi A n c l) : Npc w A n (l.map Nd.pn) := ⟨l, h.nds, fun d hd => ⟨(h.kid d hd).1, fun e => by
 rcases (h.kid d hd).2.1.own with ⟨_, _, e3⟩ | ⟨g, e2, _⟩
 ·exact e3
 ·rw [e] at e2; cases e2⟩, rfl⟩
theorem NR.nps (h : NR w B hi A n c l) : Nps w A n (l.map Nd.pn) := h.npc.nps
theorem NR.kept (h : NR w B hi A n c l) (k : Kept B2 hi2 w w') (hd : hi ≤ B2 ∨ hi2 ≤ B) : NR w' B hi A n c l := by
 refine ⟨h.len, h.row.kept k (fun g hg => ?_), h.rowHi, fun d hd2 => (h.kid d hd2).kept k hd, h.apart⟩
 have := h.rowHi g hg
 have := (Mine.blk h.row hg).1
 omega
theorem NR.next (h : NR w B hi A n c l) (hb : Below w.heap.size w w') : NR w' B hi A n c l :=
 h.kept (B2 := hi) (hi2 := hi) (Kept.of_below _ _ hb) (.inl (Nat.le_refl _))
theorem NR.more (h : NR w B hi A n c l) {B' hi' : Nat} (h1 : B' ≤ B) (h2 : hi ≤ hi') : NR w B' hi' A n c l :=
 ⟨h.len, h.row.more h1, fun g hg => Nat.lt_of_lt_of_le (h.rowHi g hg) h2, fun d hd => ⟨(h.kid d hd).1, (h.kid d hd).2.1.more h1, fun g hg => Nat.lt_of_lt_of_le ((h.kid d hd).2.2 g hg) h2⟩, h.apart⟩
theorem apart_swap {a b : List Nd} {d d' : Nd} (h : (a ++ d :: b).Pairwise ApartR) (h1 : d'.adr = d.adr) : (a ++ d' :: b).Pairwise ApartR := by
 rw [List.pairwise_append, List.pairwise_cons] at h ⊢
 obtain ⟨k1, ⟨k2, k3⟩, k4⟩ := h
 refine ⟨k1, ⟨fun y hy => ?_, k3⟩, fun x hx y hy => ?_⟩
 ·have := k2 y hy; unfold ApartR at this ⊢; rw [h1]; exact this
 ·rcases List.mem_cons.1 hy with rfl | hy
  ·have := k4 x hx d (by simp); unfold ApartR at this ⊢; rw [h1]; exact this
  ·exact k4 x hx y (by simp [hy])
theorem flat_put (a b : List Nd) (d d' : Nd) (f : Nat) (v : Value) (hf : f < 4) (hc : nodeCells d' = (nodeCells d).set f v) :
  ((a ++ d :: b).flatMap nodeCells).set (a.length * 4 + f) v = (a ++ d' :: b).flatMap nodeCells := by
 have ha := flat_len nodeCells nodeCells_len a
 rw [List.flatMap_append, List.flatMap_append, List.flatMap_cons, List.flatMap_cons, hc, List.set_append_right _ _ (by rw [ha]; omega), ha, show a.length * 4 + f - a.length * 4 = f by omega, List.set_append_left _ _ (by rw [nodeCells_len]; exact hf)]
theorem NR.put {a b : List Nd} {d d' : Nd} {g o : Nat} (h : NR w B hi A n c (a ++ d :: b)) (hA : A = some ⟨g, o, none⟩) {i : Nat} {v : Value} {f : Nat} (hi2 : i = a.length * 4 + f) (hf : f < 4) (hc : nodeCells d' = (nodeCells d).set f v)
  (hk : d'.adr = d.adr ∧ d'.cnt = d.cnt ∧ d'.cap = d.cap ∧ d'.kids = d.kids) : NR (w.setCell ⟨g, i, none⟩ v) B hi A n c (a ++ d' :: b) ∧ Kept B hi w (w.setCell ⟨g, i, none⟩ v) := by
 subst hi2
 have hBg : B ≤ g := (Mine.blk h.row (g := g) (by rw [hA]; rfl)).1
 have hgh := h.rowHi g (by rw [hA]; rfl)
 obtain ⟨ty, cs, hB⟩ : ∃ ty cs, Blk w g ty cs ∧ ty = 48 := by
  rcases h.row.own with ⟨e, _⟩ | ⟨g', e, _, _, _, rest, hb, _⟩
  ·rw [hA] at e; cases e
  ·rw [hA] at e; injection e with e; injection e with e; subst e; exact ⟨_, _, hb, rfl⟩
 have hll : (a ++ d' :: b).length = n := by rw [← h.len]; simp
 have hkid : ∀ x, KidR w B hi x → KidR (w.setCell ⟨g, a.length * 4 + f, none⟩ v) B hi x := fun x hx => ⟨hx.1, mine_set hx.2.1 hB.1 (by rw [hB.2]; decide) _ _, hx.2.2⟩
 refine ⟨⟨hll, ?_, h.rowHi, fun x hx => ?_, apart_swap h.apart hk.1⟩, Kept.of_set w hBg hgh _ _⟩
 ·rcases h.row.own with ⟨e, _⟩ | ⟨g', e, h1, h2, h3, ho⟩
  ·rw [hA] at e; cases e
  ·have e2 := e
   rw [hA] at e; injection e with e; injection e with e1 e3 e4; subst e1
   rw [e2]
   refine Mine.mk_own ?_ (by rw [flat_len nodeCells nodeCells_len, hll]) h1 h2 h3
   rw [← flat_put a b d d' f v hf hc]
   exact ho.set (by rw [flat_len nodeCells nodeCells_len]; simp; omega) v
 ·rcases List.mem_append.1 hx with hx | hx
  ·exact hkid x (h.kid x (by simp [hx]))
  ·rcases List.mem_cons.1 hx with rfl | hx
   ·have := hkid d (h.kid d (by simp))
    unfold KidR at this ⊢
    rw [hk.1, hk.2.1, hk.2.2.1, hk.2.2.2]; exact this
   ·exact hkid x (h.kid x (by simp [hx]))
theorem NR.kidsPut {a b : List Nd} {d d' : Nd} (h : NR w B hi A n c (a ++ d :: b)) (hg : w.grownBy w' (d.adr.map (·.block))) (hm : Mine w' B 3 1 d.adr d.cnt d.cap (intCells d'.kids))
  (hk : d'.kind = d.kind ∧ d'.text = d.text ∧ d'.adr = d.adr ∧ d'.cnt = d.cnt ∧ d'.cap = d.cap ∧ d'.blank = d.blank) : NR w' B hi A n c (a ++ d' :: b) ∧ Kept B hi w w' := by
 obtain ⟨e1, e2, e3, e4, e5, e6⟩ := hk
 obtain ⟨hd1, hd2, hd3⟩ := h.kid d (by simp)
 have hr : ∀ g, d.adr.map (·.block) = some g → B ≤ g ∧ g < hi := fun g e => ⟨(Mine.blk hd2 e).1, hd3 g e⟩
 have hc : nodeCells d' = nodeCells d := by unfold nodeCells; rw [e1, e2, e3, e4, e5, e6]
 have hp := h.apart
 rw [List.pairwise_append, List.pairwise_cons] at hp
 have hkid : ∀ x, KidR w B hi x → (∀ g, d.adr.map (·.block) = some g → x.adr.map (·.block) ≠ some g) → KidR w' B hi x := fun x hx hne =>
  ⟨hx.1, hx.2.1.grown hg (fun g e => .inr (hne g e)), hx.2.2⟩
 refine ⟨⟨by rw [← h.len]; simp, ?_, h.rowHi, fun x hx => ?_, apart_swap h.apart e3⟩, Kept.of_grown hg hr⟩
 ·have hcs : (a ++ d' :: b).flatMap nodeCells = (a ++ d :: b).flatMap nodeCells := by rw [List.flatMap_append, List.flatMap_append, List.flatMap_cons, List.flatMap_cons, hc]
  rw [hcs]
  refine h.row.grown hg (fun g e => .inr (fun e' => ?_))
  obtain ⟨cs1, b1⟩ := mine_blk' h.row e'
  obtain ⟨cs2, b2⟩ := mine_blk' hd2 e
  exact blk_ne b1 b2 (by decide) rfl
 ·rcases List.mem_append.1 hx with hx | hx
  ·refine hkid x (h.kid x (by simp [hx])) (fun g e e' => ?_)
   exact hp.2.2 x hx d (by simp) g e' e
  ·rcases List.mem_cons.1 hx with rfl | hx
   ·refine ⟨by rw [e4, e5]; exact hd1, ?_⟩
    rw [e3, e4, e5]
    exact ⟨hm, hd3⟩
   ·exact hkid x (h.kid x (by simp [hx])) (fun g e e' => hp.2.1.1 x hx g e e')
theorem NR.push (h : NR w B w.heap.size A n c l) (x : Nd) {w1 : World} (hw1 : Below w.heap.size w w1) (hx : KidR w1 B w1.heap.size x) (hxn : ∀ g, x.adr.map (·.block) = some g → w.heap.size ≤ g) {v' : Value} {w3 : World}
  (hown : w3.ownsRow B 48 4 v' (n + 1) (l.flatMap nodeCells ++ nodeCells x)) (hg : w1.grownBy w3 (Value.slice A n c).ownBlock) :
  ∃ A3 c3, v' = .slice A3 (n + 1) c3 ∧ NR w3 B w3.heap.size A3 (n + 1) c3 (l ++ [x]) := by
 rw [ownBlk] at hg
 have h1 := h.next hw1
 obtain ⟨A3, c3, rfl, m3⟩ := Mine.of hown
 have hff : (l ++ [x]).flatMap nodeCells = l.flatMap nodeCells ++ nodeCells x := by simp
 have hkid : ∀ y, KidR w1 B w1.heap.size y → KidR w3 B w3.heap.size y := fun y hy => by
  refine ⟨hy.1, hy.2.1.grown hg (fun g e => .inr (fun e' => ?_)), fun g e => Nat.lt_of_lt_of_le (hy.2.2 g e) hg.size⟩
  obtain ⟨cs1, b1⟩ := mine_blk' h1.row e
  obtain ⟨cs2, b2⟩ := mine_blk' hy.2.1 e'
  exact blk_ne b1 b2 (by decide) rfl
 refine ⟨A3, c3, rfl, ⟨by rw [lA, h.len]; rfl, by rw [hff]; exact m3, fun g e => (Mine.blk m3 e).2, fun d hd => ?_, ?_⟩⟩
 ·rcases List.mem_append.1 hd with hd | hd
  ·have hk := (h1.more (Nat.le_refl _) hw1.size).kid d hd
   exact hkid d hk
  ·obtain rfl := List.mem_singleton.1 hd; exact hkid d hx
 ·rw [List.pairwise_append]
  refine ⟨h.apart, List.pairwise_singleton _ _, fun y hy z hz => ?_⟩
  obtain rfl := List.mem_singleton.1 hz
  intro g e1 e2
  have := (h.kid y hy).2.2 g e1
  have := hxn g e2
  omega
theorem NR.nil (w : World) (B : Nat) : NR w B w.heap.size none 0 0 [] := ⟨rfl, Mine.mk_nil _ _ _ _, fun g e => (by cases e), fun d hd => (by cases hd), List.Pairwise.nil⟩
theorem NR.grow (h : NR w B w.heap.size A n c l) (hb : Below w.heap.size w w') : NR w' B w'.heap.size A n c l := (h.next hb).more (Nat.le_refl _) hb.size
def Made (w : World) (ps : List PN) (e : Ending) (w' : World) : Prop := ∃ A n c l, e = .returned (.slice A n c) ∧ NR w' w.heap.size w'.heap.size A n c l ∧ l.map Nd.pn = ps ∧ Below w.heap.size w w'
end
def mrkI (q : Int) (m : Nat) : List Int := (List.range m).map (fun (j : Nat) => q + (j : Int))
theorem mrkI_len (q : Int) (m : Nat) : (mrkI q m).length = m := by simp [mrkI]
theorem markRow_int (k : Int) (n : Nat) : markRow intMk 1 k n = intCells (mrkI k n) := by
 unfold markRow mrkI intCells intMk
 rw [List.map_map]
 induction List.range n with
 | nil => rfl
 | cons x r ih => rw [List.flatMap_cons, ih, List.map_cons]; simp
def mrkN (k : Int) (d : Nd) : Nd := ⟨k, mkT (k + 1), d.adr, d.cnt, d.cap, mrkI (k + 1 + 1) d.cnt, ((k + 1 + 1 + (d.cnt : Int)) % 3 == 0)⟩
def mrkX (k : Int) (d : Nd) : Int := k + 1 + 1 + (d.cnt : Int) + 1
def mrkL : Int → List Nd → List Nd
 | _, [] => []
 | k, d :: r => mrkN k d :: mrkL (mrkX k d) r
def mrkE : Int → List Nd → Int
 | k, [] => k
 | k, d :: r => mrkE (mrkX k d) r
def mrkC (l : List Nd) : Nat := (l.map (fun d => 3 + d.cnt)).sum
theorem mrkL_app : ∀ (a b : List Nd) (k : Int), mrkL k (a ++ b) = mrkL k a ++ mrkL (mrkE k a) b := by
 intro a
 induction a with
 | nil => intro b k; rfl
 | cons d a ih => intro b k; rw [List.cons_append, mrkL, mrkL, mrkE, ih, List.cons_append]
theorem mrkE_app : ∀ (a b : List Nd) (k : Int), mrkE k (a ++ b) = mrkE (mrkE k a) b := by
 intro a
 induction a with
 | nil => intro b k; rfl
 | cons d a ih => intro b k; rw [List.cons_append, mrkE, mrkE, ih]
theorem mrkE_eq : ∀ (l : List Nd) (k : Int), mrkE k l = k + (mrkC l : Nat) := by
 intro l
 induction l with
 | nil => intro k; simp [mrkE, mrkC]
 | cons d l ih =>
  intro k
  rw [mrkE, ih]
  unfold mrkX mrkC
  rw [List.map_cons, List.sum_cons]
  omega
theorem mrkC_app (a b : List Nd) : mrkC (a ++ b) = mrkC a + mrkC b := by simp [mrkC]
theorem mrkC_cons (d : Nd) (b : List Nd) : mrkC (d :: b) = 3 + d.cnt + mrkC b := by simp [mrkC]
theorem mrkL_len (l : List Nd) : ∀ k, (mrkL k l).length = l.length := by
 induction l with
 | nil => intro k; rfl
 | cons d l ih => intro k; rw [mrkL, List.length_cons, ih, List.length_cons]
end Go.Proofs.YtgaajcbklkchjaaGreatDoor

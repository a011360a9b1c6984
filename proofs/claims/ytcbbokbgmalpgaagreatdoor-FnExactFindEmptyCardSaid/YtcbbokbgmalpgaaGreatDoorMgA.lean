/-
  Put together by program (shake.py): Facts, Base, Mem, Open, LaidW, MemB, Mine, Ints, FamNode, NodeS, SignA, SignB, Shelf, Options.
-/
import Derived.Test.YtcbbokbgmalpgaaGreatDoorRows
import Derived.JoinedOf
import Derived.KernelRfl
import Derived.WalkKit
import Derived.ProofKit
import Derived.OpenShut
import Derived.Below
import Derived.ChangeSame
import Derived.Lib.SmallJoins
import Derived.Lib.Hide
import Derived.WalkSmall
import Derived.Handy
import Derived.StillTailTactics
import Derived.Laws.OwnMore
import Derived.Deep.Draws
import Derived.Laws.Rows
import Derived.Deep.QuietTactic
import Derived.BigQuiet
import Derived.Laws.MakeOwn
import Derived.Test.YtcbbokbgmalpgaaGreatDoorChecked
import Derived.Deep.Slices
import Derived.Deep.Fields
import Derived.Lay
import Derived.HandedShaped
import Derived.LaidMore
import Derived.MakeChecks
import Derived.LaidHandle
import Derived.Stop.LaidErr
import Derived.Shelf.Vars
import Derived.Laws.AppendOwn
import Derived.OwnWalk
import Derived.SliceStrings
import Derived.DataShut
import Derived.Outline
import Derived.Deep.Cut
import Derived.Shelf.Strings.Trim
import Derived.Shelf.Small.Utf8
import Derived.Shelf.Small.Strs
import Derived.Shelf.Small.Wraps
import Derived.Shelf.Strconv.Itoa0
import Derived.Shelf.Strconv.Itoa1
import Derived.Shelf.LaysM
import Derived.Shelf.Strconv.Itoa2
import Derived.Shelf.Strconv.Itoa3
import Derived.Shelf.Strings.Search1
import Derived.Shelf.Strings.Search2
import Derived.Shelf.Strings.Search3
import Derived.Shelf.Strings.Count
import Derived.Shelf.Strings.Shaped
import Derived.Shelf.Strings.LastIndex
import Derived.Shelf.Strings.Prefix
import Derived.Shelf.Strings.Split
import Derived.Shelf.Strings.SplitShaped
import Derived.Shelf.Unicode.Decode
import Derived.Shelf.Strings.Runes
import Derived.Shelf.Strings.RuneCount
import Derived.Shelf.Strings.AsciiSet
import Derived.Shelf.Strings.Explode
import Derived.Shelf.Unicode.DecodeSlow
import Derived.Shelf.Slices.Turned
import Derived.Ground.Names2Prog
import Derived.Shelf.Slices.Clone
import Derived.Shelf.Slices.SearchI
import Derived.Ground.PaProg
import Derived.Shelf.Path.Small
import Derived.Test.YtcbbokbgmalpgaaGreatDoorProg
set_option maxRecDepth 100000
set_option maxHeartbeats 25600000
set_option linter.unusedVariables false
set_option linter.unusedSimpArgs false
namespace Go.Proofs.YtcbbokbgmalpgaaGreatDoor
theorem own : ownKnob Tryz.prog.godebug = none := by kernel_rfl
theorem pLaid : laidOutB Tryz.prog = true := by kernel_rfl
theorem pMaps : mapsRowed Tryz.prog = true := by kernel_rfl
theorem pStops : (Tryz.prog.stops == []) = true := by kernel_rfl
theorem pKnobs : (Tryz.prog.stopKnobs == []) = true := by kernel_rfl
theorem pPlain : (true == Tryz.prog.plainKeys) = true := by kernel_rfl
theorem pHeard : Tryz.prog.stopsHeard = true := by kernel_rfl
theorem pEnter : Tryz.prog.mayEnter = true := by kernel_rfl
theorem pLift : (false == Tryz.prog.liftsFinal) = true := by kernel_rfl
theorem pMake : (Tryz.prog.make == some .cut) = true := by kernel_rfl
open Go.RowKit Go.WideShapes Go.ChangeShapes
section
variable {H : Type} {enc : TypeId × Value → H} {P : Program}
theorem post_of_below {f : Func} {s : ChangeSpec} {apart fresh handsOn again : Bool} {W W' : World} {args : Array Value} {v : Value} {ds gs : List (DataW H)} {before pa pv : List MemPlace}
  (hW : DataW.Whole enc P f.params.toList s.vars apart W args.toList ds gs before)
  (hres : ∀ (b : Nat) (sp : Nat → Bool) (hd : Bool), DataW.TrodAll enc P W' b sp hd f.resultTypes.toList (v.resultList f.resultTypes.size) (s.fn H (ds ++ gs)).results [])
  (hargs : ∀ sp : Nat → Bool, (∀ p ∈ before, sp p.block = true) → DataW.TrodAll enc P W' 0 sp true f.params.toList args.toList (s.fn H (ds ++ gs)).args pa)
  (hvars : ∀ sp : Nat → Bool, (∀ p ∈ before, sp p.block = true) → DataW.TrodVars enc P W' sp s.vars (s.fn H (ds ++ gs)).vars pv)
  (hps : before = pa ++ pv) (hb : Below W.heap.size W W')
  (hok : ∀ (j : Nat) (t : TypeId) (r : Value), f.resultTypes[j]? = some t → (v.resultList f.resultTypes.size)[j]? = some r → Value.okWide P W' .any 0 t r) :
  s.post enc P f apart fresh handsOn again W args v W' := by
 have hlt : ∀ p ∈ before, p.block < W.heap.size := fun p hp => hW.lt p hp
 have hold : ∀ p ∈ before, (fun b => decide (b < W.heap.size)) p.block = true := fun p hp => by simpa using hlt p hp
 refine ⟨ds, gs, before, [], pa, pv, hW, hres _ _ _, hargs _ hold, hvars _ hold, World.keptBut_mono (fun p hp => ⟨hp, ?_⟩) (hb.frame (· ∈ before)), fun _ => ?_⟩
 ·rw [hps, List.mem_append] at hp
  exact Or.inr hp
 ·obtain ⟨_, _, _, _, _, hz, hn⟩ := hW
  refine ⟨hok, _, _, ([] ++ pa) ++ pv, ⟨[] ++ pa, pv, trodAll_append (hargs _ (fun _ _ => rfl)) (hres _ _ _), hvars _ (fun _ _ => rfl), rfl, ?_, ?_⟩, ?_⟩
  ·intro b off hp
   have hin : MemPlace.cell b off ∈ before := by rw [hps]; simpa using hp
   rw [hb.frozen (hlt _ hin)]
   exact hz b off hin
  ·intro ha
   have := hn ha
   rw [hps] at this
   simpa using this
  ·intro p hp _
   rw [hps]
   simpa using hp
end
theorem bcell {W w1 : World} (hb : Below W.heap.size W w1) : (∀ b o, b < W.heap.size → w1.cell? ⟨b, o, none⟩ = W.cell? ⟨b, o, none⟩) ∧ (∀ b o, b < W.heap.size → w1.frozen? ⟨b, o, none⟩ = W.frozen? ⟨b, o, none⟩) :=
 ⟨fun b o h => hb.cell (p := ⟨b, o, none⟩) h, fun b o h => hb.frozen (p := ⟨b, o, none⟩) h⟩
theorem below_box {w w1 : World} {o : Obj} (hb : Below (w.alloc o).heap.size (w.alloc o) w1) : Below w.heap.size w w1 :=
 ((Below.refl _ _).alloc (Nat.le_refl _) o).trans (hb.mono (by simp))
theorem below_box2 {w w1 : World} {o o' : Obj} (hb : Below ((w.alloc o).alloc o').heap.size ((w.alloc o).alloc o') w1) : Below w.heap.size w w1 :=
 below_box (below_box hb)
theorem below_next {W w1 w2 : World} (h1 : Below W.heap.size W w1) (h2 : Below w1.heap.size w1 w2) : Below W.heap.size W w2 := h1.trans (h2.mono h1.size)
theorem ret_bool {a b : Bool} (h : a = b) : Ending.returned (.bool a) = .returned (.bool b) := by rw [h]
theorem ret_int {k : IntKind} {a b : Int} (h : a = b) : Ending.returned (.int k a) = .returned (.int k b) := by rw [h]
theorem ret_str {a b : ByteArray} (h : a = b) : Ending.returned (.string a) = .returned (.string b) := by rw [h]
def Blk (w : World) (g : Nat) (t : TypeId) (cs : Array Value) : Prop := w.heap[g]? = some (.cells cs t (0, 0))
section
variable {w w' : World} {g : Nat} {t : TypeId} {cs : Array Value}
theorem Blk.lt (h : Blk w g t cs) : g < w.heap.size := by
 rcases Nat.lt_or_ge g w.heap.size with hlt | hge
 ·exact hlt
 ·unfold Blk at h; rw [Array.getElem?_eq_none hge] at h; cases h
theorem Blk.cell (h : Blk w g t cs) (i : Nat) : w.cell? ⟨g, i, none⟩ = cs[i]? := cell_of_row w g i cs t (0, 0) h
theorem Blk.frozen (h : Blk w g t cs) (i : Nat) : w.frozen? ⟨g, i, none⟩ = false := by
 unfold Blk at h
 simp [World.frozen?, h]
theorem Blk.new (w : World) (t : TypeId) (cs : Array Value) : Blk (w.alloc (.cells cs t)) w.heap.size t cs := heap_alloc_new w _
theorem Blk.drew (h : Blk w g t cs) : Blk w.drew g t cs := h
theorem Blk.drewN (h : Blk w g t cs) (n : Nat) : Blk (w.drewN n) g t cs := h
theorem Blk.alloc (h : Blk w g t cs) (o : Obj) : Blk (w.alloc o) g t cs := (Below.heap_alloc w o g h.lt).trans h
theorem Blk.set_ (h : Blk w g t cs) (i : Nat) (u : Value) : Blk (w.setCell ⟨g, i, none⟩ u) g t (cs.setIfInBounds i u) := by
 unfold Blk at h ⊢
 simp [World.setCell, Array.getElem?_modify, h]
theorem Blk.far (h : Blk w g t cs) {p : Addr} (hp : g ≠ p.block) (u : Value) : Blk (w.setCell p u) g t cs := (Below.heap_setCell w p u g hp).trans h
theorem Blk.below {B : Nat} (h : Blk w g t cs) (hb : Below B w w') (hg : g < B) : Blk w' g t cs := (hb.block g hg).trans h
theorem Blk.grown {row : Option Nat} (h : Blk w g t cs) (hb : w.grownBy w' row) (hg : some g ≠ row) : Blk w' g t cs := (hb.block g h.lt hg).trans h
variable {w2 : World} {o o' : Obj}
theorem Blk.fresh (h : Below (w.alloc (.cells cs t)).heap.size (w.alloc (.cells cs t)) w2) : Blk w2 w.heap.size t cs := (Blk.new w t cs).below h (Blk.new w t cs).lt
theorem Blk.fresh2 (h : Below ((w.alloc (.cells cs t)).alloc o).heap.size ((w.alloc (.cells cs t)).alloc o) w2) : Blk w2 w.heap.size t cs := ((Blk.new w t cs).alloc o).below h ((Blk.new w t cs).alloc o).lt
theorem Blk.next (k : Blk w g t cs) (h : Below w.heap.size w w2) : Blk w2 g t cs := k.below h k.lt
theorem Blk.next1 (k : Blk w g t cs) (h : Below (w.alloc o).heap.size (w.alloc o) w2) : Blk w2 g t cs := (k.alloc o).next h
theorem Blk.next2 (k : Blk w g t cs) (h : Below ((w.alloc o).alloc o').heap.size ((w.alloc o).alloc o') w2) : Blk w2 g t cs := ((k.alloc o).alloc o').next h
theorem below_next1 {W : World} (h1 : Below W.heap.size W w) (h2 : Below (w.alloc o).heap.size (w.alloc o) w2) : Below W.heap.size W w2 := below_next (h1.alloc h1.size o) h2
theorem below_next2 {W : World} (h1 : Below W.heap.size W w) (h2 : Below ((w.alloc o).alloc o').heap.size ((w.alloc o).alloc o') w2) : Below W.heap.size W w2 := below_next1 (h1.alloc h1.size o) h2
end
theorem Blk.q0 {w : World} {g : Nat} {t : TypeId} {a : Value} {cs : List Value} (h : Blk w g t (a :: cs).toArray) : w.cell? ⟨g, 0, none⟩ = some a := h.cell 0
theorem Blk.q1 {w : World} {g : Nat} {t : TypeId} {x0 a : Value} {cs : List Value} (h : Blk w g t (x0 :: a :: cs).toArray) : w.cell? ⟨g, 1, none⟩ = some a := h.cell 1
theorem Blk.q2 {w : World} {g : Nat} {t : TypeId} {x0 x1 a : Value} {cs : List Value} (h : Blk w g t (x0 :: x1 :: a :: cs).toArray) : w.cell? ⟨g, 2, none⟩ = some a := h.cell 2
theorem Blk.q3 {w : World} {g : Nat} {t : TypeId} {x0 x1 x2 a : Value} {cs : List Value} (h : Blk w g t (x0 :: x1 :: x2 :: a :: cs).toArray) : w.cell? ⟨g, 3, none⟩ = some a := h.cell 3
theorem Blk.q4 {w : World} {g : Nat} {t : TypeId} {x0 x1 x2 x3 a : Value} {cs : List Value} (h : Blk w g t (x0 :: x1 :: x2 :: x3 :: a :: cs).toArray) : w.cell? ⟨g, 4, none⟩ = some a := h.cell 4
theorem Blk.q5 {w : World} {g : Nat} {t : TypeId} {x0 x1 x2 x3 x4 a : Value} {cs : List Value} (h : Blk w g t (x0 :: x1 :: x2 :: x3 :: x4 :: a :: cs).toArray) : w.cell? ⟨g, 5, none⟩ = some a := h.cell 5
theorem Blk.q6 {w : World} {g : Nat} {t : TypeId} {x0 x1 x2 x3 x4 x5 a : Value} {cs : List Value} (h : Blk w g t (x0 :: x1 :: x2 :: x3 :: x4 :: x5 :: a :: cs).toArray) : w.cell? ⟨g, 6, none⟩ = some a := h.cell 6
theorem Blk.q7 {w : World} {g : Nat} {t : TypeId} {x0 x1 x2 x3 x4 x5 x6 a : Value} {cs : List Value} (h : Blk w g t (x0 :: x1 :: x2 :: x3 :: x4 :: x5 :: x6 :: a :: cs).toArray) : w.cell? ⟨g, 7, none⟩ = some a := h.cell 7
theorem grow_ {B : Nat} {w w' : World} (h : Below B w w' := by repeat' (first | (with_reducible exact Below.refl _ _) | (with_reducible assumption) | (with_reducible refine below_drewN ?_ _) | (with_reducible refine Below.drew ?_) | (with_reducible refine Below.alloc ?_ ?_ _) | (with_reducible refine Below.setCell ?_ ?_ _) | go_size)) : Below B w w' := h
def Rd (w : World) (size : Nat) (A : Option Addr) (n : Nat) (xs : List Value) : Prop :=
 xs.length = n * size ∧ (0 < n → ∃ b off, A = some ⟨b, off, none⟩ ∧ b < w.heap.size ∧ ∀ j u, xs[j]? = some u → w.cell? ⟨b, off + j, none⟩ = some u)
section
variable {w w' : World} {size n : Nat} {A : Option Addr} {xs : List Value}
theorem Rd.none_ (w : World) (size : Nat) (A : Option Addr) : Rd w size A 0 [] := ⟨by simp, fun h => absurd h (by omega)⟩
theorem Rd.keep (h : Rd w size A n xs) (hz : w.heap.size ≤ w'.heap.size) (hk : ∀ b o, b < w.heap.size → w'.cell? ⟨b, o, none⟩ = w.cell? ⟨b, o, none⟩) : Rd w' size A n xs :=
 ⟨h.1, fun hne => by
  obtain ⟨b, off, e, hb, hc⟩ := h.2 hne
  exact ⟨b, off, e, by omega, fun j u hj => (hk b _ hb).trans (hc j u hj)⟩⟩
theorem Rd.below (h : Rd w size A n xs) (hb : Below w.heap.size w w') : Rd w' size A n xs := h.keep hb.size (bcell hb).1
theorem Rd.next (h : Rd w size A n xs) (hb : Below w.heap.size w w') : Rd w' size A n xs := h.below hb
theorem Rd.alloc (h : Rd w size A n xs) (o : Obj) : Rd (w.alloc o) size A n xs := h.below ((Below.refl _ _).alloc (Nat.le_refl _) o)
theorem Rd.next1 {o : Obj} (h : Rd w size A n xs) (hb : Below (w.alloc o).heap.size (w.alloc o) w') : Rd w' size A n xs := (h.alloc o).next hb
theorem Rd.next2 {o o' : Obj} (h : Rd w size A n xs) (hb : Below ((w.alloc o).alloc o').heap.size ((w.alloc o).alloc o') w') : Rd w' size A n xs := ((h.alloc o).alloc o').next hb
theorem Rd.drewN (h : Rd w size A n xs) (k : Nat) : Rd (w.drewN k) size A n xs := h
theorem Rd.drew (h : Rd w size A n xs) : Rd w.drew size A n xs := h
theorem Rd.at_ (h : Rd w size A n xs) (hk : 0 < n) : ∃ b off, A = some ⟨b, off, none⟩ ∧ b < w.heap.size ∧ ∀ j u, xs[j]? = some u → w.cell? ⟨b, off + j, none⟩ = some u := h.2 hk
end
def sumK {α : Type} (f : α → Nat) (l : List α) (k : Nat) : Nat := ((l.take k).map f).sum
theorem sumK_zero {α : Type} (f : α → Nat) (l : List α) : sumK f l 0 = 0 := by simp [sumK]
theorem sumK_succ {α : Type} (f : α → Nat) (l : List α) (k : Nat) (d : α) (h : l[k]? = some d) : sumK f l (k + 1) = sumK f l k + f d := by
 unfold sumK; rw [List.take_add_one, h]; simp
theorem sumK_le {α : Type} (f : α → Nat) (l : List α) (k : Nat) : sumK f l k ≤ (l.map f).sum := by
 have h : (l.map f).sum = ((l.take k).map f).sum + ((l.drop k).map f).sum := by
  rw [← List.sum_append, ← List.map_append, List.take_append_drop]
 unfold sumK; omega
theorem sumK_all {α : Type} (f : α → Nat) (l : List α) (k : Nat) (h : l.length ≤ k) : sumK f l k = (l.map f).sum := by
 unfold sumK; rw [List.take_of_length_le h]
theorem mem_le_sum {α : Type} (f : α → Nat) {l : List α} {d : α} (h : d ∈ l) : f d ≤ (l.map f).sum := by
 induction l with
 | nil => cases h
 | cons x l ih =>
  simp only [List.map_cons, List.sum_cons]
  rcases List.mem_cons.1 h with rfl | h
  ·omega
  ·have := ih h; omega
theorem flat_len {α : Type} (f : α → List Value) {size : Nat} (hf : ∀ d, (f d).length = size) (l : List α) : (l.flatMap f).length = l.length * size := by
 induction l with
 | nil => simp
 | cons d l ih => simp only [List.flatMap_cons, List.length_append, List.length_cons, ih, hf, Nat.add_mul]; omega
theorem flat_get {α : Type} (f : α → List Value) {size : Nat} (hf : ∀ d, (f d).length = size) : ∀ {l : List α} {i : Nat} {d : α}, l[i]? = some d → ∀ {j : Nat} {v : Value}, (f d)[j]? = some v → (l.flatMap f)[i * size + j]? = some v := by
 intro l
 induction l with
 | nil => intro i d h; simp at h
 | cons x l ih =>
  intro i d h j v hj
  cases i with
  | zero =>
   simp at h; subst h
   have hlt : j < (f x).length := (List.getElem?_eq_some_iff.1 hj).1
   simp only [List.flatMap_cons, Nat.zero_mul, Nat.zero_add]
   rw [List.getElem?_append_left hlt]; exact hj
  | succ i =>
   simp at h
   simp only [List.flatMap_cons]
   rw [List.getElem?_append_right (by rw [hf, Nat.add_mul]; omega)]
   rw [hf, show (i + 1) * size + j - size = i * size + j from by rw [Nat.add_mul]; omega]
   exact ih h hj
theorem flat_inv {α : Type} (f : α → List Value) {size : Nat} (hf : ∀ d, (f d).length = size) (hs : 0 < size) : ∀ (l : List α) (x : Nat), (l.flatMap f)[x]? = l[x / size]?.bind (fun d => (f d)[x % size]?) := by
 intro l
 induction l with
 | nil => intro x; simp
 | cons d l ih =>
  intro x
  simp only [List.flatMap_cons]
  by_cases h : x < size
  ·rw [List.getElem?_append_left (by rw [hf]; exact h), Nat.div_eq_of_lt h, Nat.mod_eq_of_lt h]; simp
  ·rw [List.getElem?_append_right (by rw [hf]; omega), hf, ih]
   have e1 : x / size = (x - size) / size + 1 := by
    have h2 : x = (x - size) + size := by omega
    conv => lhs; rw [h2]
    exact Nat.add_div_right _ hs
   have e2 : x % size = (x - size) % size := by
    have h2 : x = (x - size) + size := by omega
    conv => lhs; rw [h2]
    exact Nat.add_mod_right _ _
   rw [e1, e2, List.getElem?_cons_succ]
theorem block_of_cell {w : World} {b o : Nat} {v : Value} (h : w.cell? ⟨b, o, none⟩ = some v) : b < w.heap.size := by
 rcases Nat.lt_or_ge b w.heap.size with hl | hl
 ·exact hl
 ·exfalso
  have h2 : w.heap[b]? = none := Array.getElem?_eq_none hl
  simp [World.cell?, h2] at h
theorem rd_of_elems {α : Type} {W : World} {a : Addr} {n size : Nat} (cells : α → List Value) (Pr : α → Prop) (hlen : ∀ d, (cells d).length = size) (hsz : 0 < size)
  (h : ∀ i, i < n → ∃ d : α, Pr d ∧ ∀ j v, (cells d)[j]? = some v → W.cell? (a.add (i * size + j)) = some v) :
  ∃ l : List α, l.length = n ∧ Rd W size (some a) n (l.flatMap cells) ∧ ∀ d ∈ l, Pr d := by
 refine ⟨List.ofFn (fun i : Fin n => Classical.choose (h i.1 i.2)), by simp, ⟨by rw [flat_len cells hlen]; simp, fun hn => ?_⟩, ?_⟩
 ·have hall : ∀ j u, ((List.ofFn (fun i : Fin n => Classical.choose (h i.1 i.2))).flatMap cells)[j]? = some u → W.cell? (a.add j) = some u := by
   intro j u hj
   rw [flat_inv cells hlen hsz] at hj
   obtain ⟨d, hd, hu⟩ := Option.bind_eq_some_iff.1 hj
   rw [List.getElem?_ofFn] at hd
   split at hd
   ·rename_i hlt
    obtain rfl := Option.some.inj hd
    have h2 := (Classical.choose_spec (h (j / size) hlt)).2 (j % size) u hu
    rwa [show j / size * size + j % size = j from by rw [Nat.mul_comm]; exact Nat.div_add_mod j size] at h2
   ·cases hd
  obtain ⟨b, off, spot⟩ := a
  have hne : ∃ u, ((List.ofFn (fun i : Fin n => Classical.choose (h i.1 i.2))).flatMap cells)[0]? = some u := by
   have hl : 0 < ((List.ofFn (fun i : Fin n => Classical.choose (h i.1 i.2))).flatMap cells).length := by
    rw [flat_len cells hlen]; simp only [List.length_ofFn]; exact Nat.mul_pos hn hsz
   exact ⟨_, List.getElem?_eq_getElem hl⟩
  obtain ⟨u, hu⟩ := hne
  have hspot : spot = none := by simpa [Addr.add] using World.cell?_spot (hall 0 u hu)
  subst hspot
  have hall2 : ∀ j u, ((List.ofFn (fun i : Fin n => Classical.choose (h i.1 i.2))).flatMap cells)[j]? = some u → W.cell? ⟨b, off + j, none⟩ = some u := fun j u hj => by
   rw [← Go.WideShapes.add_plain]; exact hall j u hj
  exact ⟨b, off, rfl, block_of_cell (hall2 0 u hu), hall2⟩
 ·intro d hd
  obtain ⟨i, hi⟩ := List.mem_iff_getElem?.1 hd
  rw [List.getElem?_ofFn] at hi
  split at hi
  ·rename_i hlt
   obtain rfl := Option.some.inj hi
   exact (Classical.choose_spec (h i hlt)).1
  ·cases hi
def Own (w : World) (g : Nat) (t : TypeId) (cap : Nat) (xs : List Value) : Prop :=
 ∃ rest : List Value, Blk w g t (xs ++ rest).toArray ∧ (xs ++ rest).length = cap
section
variable {w w' : World} {g : Nat} {t : TypeId} {cap : Nat} {xs : List Value} {o : Obj}
theorem Own.lt (h : Own w g t cap xs) : g < w.heap.size := by obtain ⟨cs, hb, _⟩ := h; exact hb.lt
theorem Own.next (h : Own w g t cap xs) (hb : Below w.heap.size w w') : Own w' g t cap xs := by
 obtain ⟨cs, hb', h'⟩ := h; exact ⟨cs, hb'.next hb, h'⟩
theorem Own.next1 (h : Own w g t cap xs) (hb : Below (w.alloc o).heap.size (w.alloc o) w') : Own w' g t cap xs := by
 obtain ⟨cs, hb', h'⟩ := h; exact ⟨cs, hb'.next1 hb, h'⟩
theorem Own.drewN (h : Own w g t cap xs) (k : Nat) : Own (w.drewN k) g t cap xs := h
theorem Own.drew (h : Own w g t cap xs) : Own w.drew g t cap xs := h
theorem Own.there (h : Own w g t cap xs) {i : Nat} (hi : i < cap) : ∃ v, w.cell? ⟨g, i, none⟩ = some v := by
 obtain ⟨rest, hb, hs⟩ := h
 exact ⟨(xs ++ rest)[i]'(by omega), by rw [hb.cell]; simp⟩
theorem Own.frozen (h : Own w g t cap xs) (i : Nat) : w.frozen? ⟨g, i, none⟩ = false := by obtain ⟨cs, hb, _⟩ := h; exact hb.frozen i
theorem Own.push (h : Own w g t cap xs) (hk : xs.length < cap) {i : Nat} (hi : i = xs.length) (u : Value) : Own (w.setCell ⟨g, i, none⟩ u) g t cap (xs ++ [u]) := by
 subst hi
 obtain ⟨rest, hb, hs⟩ := h
 match rest, hb, hs with
 | [], _, hs => simp at hs; omega
 | r :: rest, hb, hs =>
  refine ⟨rest, ?_, by simpa using hs⟩
  have h2 := hb.set_ xs.length u
  have e : ((xs ++ r :: rest).toArray).setIfInBounds xs.length u = ((xs ++ [u]) ++ rest).toArray := by
   simp
  rwa [e] at h2
theorem Own.rd {size n : Nat} (h : Own w g t cap xs) (hl : xs.length = n * size) : Rd w size (some ⟨g, 0, none⟩) n xs := ⟨hl, fun _ => by
 obtain ⟨rest, hb, hs⟩ := h
 refine ⟨g, 0, rfl, hb.lt, fun j u hj => ?_⟩
 rw [hb.cell, Nat.zero_add]
 have hlt : j < xs.length := (List.getElem?_eq_some_iff.1 hj).1
 simpa [List.getElem?_append_left hlt] using hj⟩
end
theorem Rd.fresh {size n : Nat} (w : World) (t : TypeId) (xs : List Value) (hl : xs.length = n * size) : Rd (w.alloc (.cells xs.toArray t)) size (some ⟨w.heap.size, 0, none⟩) n xs :=
 ⟨hl, fun _ => ⟨w.heap.size, 0, rfl, (Blk.new w t xs.toArray).lt, fun j u hj => by rw [(Blk.new w t xs.toArray).cell, Nat.zero_add]; simpa using hj⟩⟩
theorem Own.alloc {w : World} {g : Nat} {t : TypeId} {cap : Nat} {xs : List Value} (h : Own w g t cap xs) (o : Obj) : Own (w.alloc o) g t cap xs := by
 obtain ⟨rest, hb, hs⟩ := h; exact ⟨rest, hb.alloc o, hs⟩
theorem Own.far {w : World} {g : Nat} {t : TypeId} {cap : Nat} {xs : List Value} (h : Own w g t cap xs) {p : Addr} (hp : g ≠ p.block) (u : Value) : Own (w.setCell p u) g t cap xs := by
 obtain ⟨rest, hb, hs⟩ := h; exact ⟨rest, hb.far hp u, hs⟩
theorem Blk.fresh3 {w w2 : World} {t : TypeId} {cs : Array Value} {o o' : Obj} (h : Below (((w.alloc (.cells cs t)).alloc o).alloc o').heap.size (((w.alloc (.cells cs t)).alloc o).alloc o') w2) : Blk w2 w.heap.size t cs :=
 (((Blk.new w t cs).alloc o).alloc o').next h
theorem below_next3 {W w w2 : World} {o o' o'' : Obj} (h1 : Below W.heap.size W w) (h2 : Below (((w.alloc o).alloc o').alloc o'').heap.size (((w.alloc o).alloc o').alloc o'') w2) : Below W.heap.size W w2 := below_next2 (h1.alloc h1.size o) h2
theorem str_ne {x t : ByteArray} (h : x ≠ t) : (x.toList == t.toList) = false := by
 rw [beq_eq_false_iff_ne]
 intro e
 rw [ByteArray.toList_eq, ByteArray.toList_eq] at e
 exact h (Go.WideShapes.bytes_inj e)
theorem grownBy_trans' {a b c : World} {row : Option Nat} (h : a.grownBy b row) (k : b.grownBy c row) : a.grownBy c row :=
 ⟨k.os.trans h.os, k.tape.trans h.tape, k.output.trans h.output, Nat.le_trans h.size k.size, fun i hi hne => (k.block i (Nat.lt_of_lt_of_le hi h.size) hne).trans (h.block i hi hne)⟩
theorem run_make_rowN {P : Program} (t e : TypeId) (i : TypeInfo) (z : Value) (ht : P.underlying t = some (.slice e)) (hi : P.info? e = some i) (hz : i.zero = some z)
  (kl kc : IntKind) (n c : Nat) (hnc : n ≤ c) (hbytes : i.bytes * c ≤ 281474976710656) (h63 : c ≤ 9223372036854775807) (w : World) :
  (Instr.makeSlice t (.int kl (n : Int)) (.int kc (c : Int))).run P w = .ok (.slice (some ⟨w.heap.size, 0, none⟩) n c) (w.alloc (.cells (madeCells z.cells (c * i.size)) e)) := by
 have hb : (i.bytes : Int) * (c : Int) ≤ 281474976710656 := by
  have h : ((i.bytes * c : Nat) : Int) ≤ 281474976710656 := by omega
  rwa [Int.natCast_mul] at h
 have hr := run_make (P := P) w t e i z ht hi hz kl kc n c (by omega) (by omega) hb (by omega)
 simp only [Int.toNat_natCast] at hr
 exact hr
theorem Own.made {w : World} {e : TypeId} {cs : Array Value} {cap : Nat} (h : cs.size = cap) : Own (w.alloc (.cells cs e)) w.heap.size e cap [] :=
 ⟨cs.toList, by simpa using Blk.new w e cs, by simpa using h⟩
open Go.RowKit Go.WideShapes Go.ChangeShapes Go.Joins Go.Deep
section
variable {H : Type} {enc : TypeId × Value → H} {P : Program}
theorem trodAll_stays (hl : laidOutB P = true) {W W' : World} {sp' : Nat → Bool} : ∀ {ts : List TypeId} {vs : List Value} {ds : List (DataW H)} {ps : List MemPlace},
  ts.all (fun t => P.readableRec t && decide (t < P.types.size)) = true → DataW.TrodAll enc P W 0 (fun _ => true) true ts vs ds ps →
  (∀ x ∈ ps, W.sameAt W' x) → (∀ x ∈ ps, sp' x.block = true) → DataW.TrodAll enc P W' 0 sp' true ts vs ds ps
 | [], _, _, _, _, h, _, _ => by
  obtain ⟨rfl, rfl, rfl⟩ := trodAll_nil h
  exact trodAll_mk0
 | t :: ts, _, _, _, hr, h, hs, hp => by
  obtain ⟨v, vs', d, ds', p, q, rfl, rfl, rfl, h1, h2⟩ := trodAll_cons h
  simp only [List.all_cons, Bool.and_eq_true, decide_eq_true_eq] at hr
  exact trodAll_cons_mk (WideElems.Trod_stays hl hr.1.1 hr.1.2 h1 (fun x hx => hs x (List.mem_append.2 (.inl hx))) (fun x hx => hp x (List.mem_append.2 (.inl hx))))
   (trodAll_stays hl hr.2 h2 (fun x hx => hs x (List.mem_append.2 (.inr hx))) (fun x hx => hp x (List.mem_append.2 (.inr hx))))
end
section
variable {H : Type} {enc : TypeId × Value → H} {P : Program} {w : World} {base : Nat} {spare : Nat → Bool} {held : Bool}
theorem open_slice_fields {t e : TypeId} {fs : Array Field} {fuel : Nat} {cs : List Value} {x : DataW H × List MemPlace} (ht : P.underlying t = some (.slice e)) (he : P.underlying e = some (.struct fs))
  (hone : oneCellFields P fs = true) (hC : P.cellsOf e = fs.size) (h : DataW.trod enc P w base spare held fuel t cs = some x) :
  (cs = [.slice none 0 0] ∧ x = (.nil, [])) ∨
  ∃ (a : Addr) (len cap m : Nat) (D : Nat → DataW H) (Pl : Nat → List MemPlace), cs = [.slice (some a) len cap] ∧ base ≤ a.block ∧ len ≤ cap ∧ cap ≤ maxLen ∧ m = (if spare a.block then cap else len) ∧
   x = (.slice ((List.range len).map D) ((List.range (m - len)).map fun j => D (len + j)), MemPlace.row a (m * fs.size) ++ (List.range m).flatMap Pl) ∧
   ∀ i, i < m → ∃ (ys : List (DataW H × List MemPlace)) (n : Nat), D i = .agg (ys.map (·.1)) ∧ Pl i = ys.flatMap (·.2) ∧ ys.length = fs.size ∧
    ∀ (j : Nat) (f : Field), fs[j]? = some f → ∃ (v : Value) (y : DataW H × List MemPlace), w.cell? (a.add (i * fs.size + j)) = some v ∧ ys[j]? = some y ∧ DataW.trod enc P w base spare held n f.type [v] = some y := by
 rcases open_slice ht h with h0 | ⟨a, len, cap, m, n, D, Pl, hcs, hb, hl, hm, hmm, hx, hi⟩
 ·exact .inl h0
 ·refine .inr ⟨a, len, cap, m, D, Pl, hcs, hb, hl, hm, hmm, by rw [hC] at hx; exact hx, fun i him => ?_⟩
  obtain ⟨cs', hc, ht'⟩ := hi i him
  rw [hC] at hc
  obtain ⟨ys, n', hn', hy, hlen, hyl, hf⟩ := DataW.trod_struct he ht'
  obtain ⟨_, hcl, hat⟩ := World.cells?_some hc
  simp only [Prod.mk.injEq] at hy
  refine ⟨ys, n', hy.1, hy.2, hyl, fun j f hj => ?_⟩
  obtain ⟨ho, hk⟩ := hone_of hone j f hj
  have hjl : j < fs.size := (Array.getElem?_eq_some_iff.1 hj).1
  have hcell := hat j hjl
  have hv : cs'[j]? = some (cs'[j]'(by omega)) := List.getElem?_eq_getElem (by omega)
  have h1 := hf j f hj
  rw [ho, hk] at h1
  have hone' : (cs'.drop j).take 1 = [cs'[j]'(by omega)] := by
   rw [List.drop_eq_getElem_cons (by omega)]
   rfl
  rw [hone'] at h1
  have hys : ys[j]? = some (ys[j]'(by omega)) := List.getElem?_eq_getElem (by omega)
  refine ⟨_, _, ?_, hys, h1.trans hys⟩
  rw [← Go.Deep.add_add, hcell, hv]
theorem open_agg5 {r : Reach} {b0 : Nat} {t : TypeId} {f0 f1 f2 f3 f4 : Field} {v : Value} {d : DataW H} {p : List MemPlace} (hs : P.underlying t = some (.struct #[f0, f1, f2, f3, f4])) (hone : oneCellFields P #[f0, f1, f2, f3, f4] = true) (hC : P.cellsOf t = 5)
  (hv : Value.okWide P w r b0 t v) (h : DataW.Trod enc P w base spare held t v d p) :
  ∃ (v0 v1 v2 v3 v4 : Value) (y0 y1 y2 y3 y4 : DataW H × List MemPlace) (n : Nat), v = .agg #[v0, v1, v2, v3, v4] ∧ d = .agg [y0.1, y1.1, y2.1, y3.1, y4.1] ∧ p = y0.2 ++ (y1.2 ++ (y2.2 ++ (y3.2 ++ y4.2))) ∧
   DataW.trod enc P w base spare held n f0.type [v0] = some y0 ∧ DataW.trod enc P w base spare held n f1.type [v1] = some y1 ∧ DataW.trod enc P w base spare held n f2.type [v2] = some y2 ∧ DataW.trod enc P w base spare held n f3.type [v3] = some y3 ∧ DataW.trod enc P w base spare held n f4.type [v4] = some y4 := by
 obtain ⟨cs, rfl, hsz⟩ := okWide_struct hs hv
 obtain ⟨l⟩ := cs
 match l, hsz.trans hC with
 | [c0, c1, c2, c3, c4], _ =>
  obtain ⟨fuel, hf⟩ := h
  obtain ⟨xs, n, _, hx, _, hlen, hg⟩ := DataW.trod_struct hs hf
  obtain ⟨o0, k0⟩ := hone_of hone 0 f0 rfl
  obtain ⟨o1, k1⟩ := hone_of hone 1 f1 rfl
  obtain ⟨o2, k2⟩ := hone_of hone 2 f2 rfl
  obtain ⟨o3, k3⟩ := hone_of hone 3 f3 rfl
  obtain ⟨o4, k4⟩ := hone_of hone 4 f4 rfl
  match xs, hlen with
  | [y0, y1, y2, y3, y4], _ =>
   simp only [Prod.mk.injEq] at hx
   exact ⟨c0, c1, c2, c3, c4, y0, y1, y2, y3, y4, n, rfl, by simpa using hx.1, by simpa using hx.2, by simpa [Value.cells, o0, k0] using hg 0 f0 rfl, by simpa [Value.cells, o1, k1] using hg 1 f1 rfl, by simpa [Value.cells, o2, k2] using hg 2 f2 rfl, by simpa [Value.cells, o3, k3] using hg 3 f3 rfl, by simpa [Value.cells, o4, k4] using hg 4 f4 rfl⟩
end
section
variable {H : Type} {enc : TypeId × Value → H} {W : World} {base : Nat} {v : Value} {d : DataW H} {p : List MemPlace} {sp : Nat → Bool} {hd : Bool}
theorem cellsOptions : Tryz.prog.cellsOf 24 = 5 := by kernel_rfl
theorem open_options (hv : Value.okWide Tryz.prog W .any base 24 v) (h : DataW.Trod enc Tryz.prog W 0 sp hd 24 v d p) :
  ∃ (a b : Int) (c d e : Bool), v = .agg #[.int .i64 a, .int .i64 b, .bool c, .bool d, .bool e] ∧ (Lit.int .i64 a).wf = true ∧ (Lit.int .i64 b).wf = true := by
 obtain ⟨v0, v1, v2, v3, v4, y0, y1, y2, y3, y4, n, rfl, _, _, h0, h1, h2, h3, h4⟩ := open_agg5 Tryz.underlying24 (by kernel_rfl) cellsOptions hv h
 obtain ⟨a, e0, _, wa⟩ := DataW.trod_int Tryz.underlying3 h0
 obtain ⟨b, e1, _, wb⟩ := DataW.trod_int Tryz.underlying3 h1
 obtain ⟨c, e2, _⟩ := DataW.trod_bool Tryz.underlying4 h2
 obtain ⟨d, e3, _⟩ := DataW.trod_bool Tryz.underlying4 h3
 obtain ⟨e, e4, _⟩ := DataW.trod_bool Tryz.underlying4 h4
 simp only [List.cons.injEq, and_true] at e0 e1 e2 e3 e4
 subst e0 e1 e2 e3 e4
 exact ⟨a, b, c, d, e, rfl, wa, wb⟩
end
open Go.ChangeShapes Go.WideShapes Go.ChangeAt Go.RowKit
theorem retAndShaped {H : Type} {enc : TypeId × Value → H} {a : Assume} {C : Checked} {os : Os} {f : FuncId} {fn : Func} {s : ChangeSpec} {conds : List PathCond} {apart fresh handsOn again : Bool} {X : World → Array Value → Prop}
  (hX : ∀ (w w' : World) (args : Array Value), w.heap = w'.heap → X w args → X w' args)
  (own : ownKnob C.prog.godebug = none) (started : os.Started) (noInit : C.prog.inits.idxOf? f = none) (hfn : C.prog.funcs[f]? = some fn)
  (witness : ∃ (w : World) (tape : Tape) (i : Input), w.os = os ∧ (w.forCall tape i).Shaped C.prog ∧ i.vars = [] ∧ Input.okWide C.prog (w.forCall tape i) .any w.heap.size f i ∧
   ((s.pre enc C.prog fn conds apart (w.forCall tape i).memory i.args ∧ X (w.forCall tape i).memory i.args) ∧ sizedMet enc C.prog fn (OpenSpec.ofChange s) apart (w.forCall tape i).memory i.args) ∧ a.holds C.prog (lone (Frame.enter C.prog f i.args .normal) [] (w.forCall tape i)))
  (contract : ∀ (W : World) (base : Nat) (args : Array Value) (ds gs : List (DataW H)) (before : List MemPlace),
   (∀ (j : Nat) t v, fn.params[j]? = some t → args[j]? = some v → Value.okWide C.prog W .any base t v) →
   DataW.Whole enc C.prog fn.params.toList s.vars apart W args.toList ds gs before →
   conds.all (PathCond.test C.prog ⟨fn.params.toList, ds, s.plain.varTypes C.prog, gs⟩) = true →
   (DataW.weightsEach C.prog (fn.params.toList ++ s.plain.varTypes C.prog) (ds ++ gs)).all (· ≤ reachBytes) = true → X W args → W.ShapedOpen C.prog →
   a.holds C.prog (lone (Frame.enter C.prog f args .normal) [] W) →
   Calls C.prog f args W fun e W' => ∃ v, e = .returned v ∧ s.post enc C.prog fn apart fresh handsOn again W args v W') :
  ReturnsInHanded a C os f .any (fun w args => (s.pre enc C.prog fn conds apart w args ∧ X w args) ∧ sizedMet enc C.prog fn (OpenSpec.ofChange s) apart w args) (s.post enc C.prog fn apart fresh handsOn again) := by
 refine returnsInHanded_of_calls own started noInit witness ?_
 intro w tape i _ hsh _ hok hpre hholds
 obtain ⟨_, _, _, fn', hfn', _, _, _, _, hval⟩ := hok
 have e : fn' = fn := Option.some.inj (hfn'.symm.trans hfn)
 subst e
 obtain ⟨⟨⟨ds, gs, before, hw, hc⟩, hx⟩, hz⟩ := hpre
 have hw' := DataW.Whole.of_heap (w' := w.forCall tape i) (by rfl) hw
 refine (contract (w.forCall tape i) w.heap.size i.args ds gs before hval hw' hc (hz.weights hw) (hX _ _ _ (by rfl) hx) hsh hholds).mono fun e W' ⟨v, he, hp⟩ => ?_
 subst he
 exact ChangeSpec.post_blind hp
theorem ba_ext {x y : ByteArray} (h : x.data.toList = y.data.toList) : x = y := by
 apply ByteArray.ext
 exact Array.toList_inj.1 h
theorem ba_len (x : ByteArray) : x.data.toList.length = x.size := by rw [Array.length_toList]; rfl
def strCells (l : List ByteArray) : List Value := l.map Value.string
def Mine (w : World) (B : Nat) (e : TypeId) (s : Nat) (A : Option Addr) (n c : Nat) (xs : List Value) : Prop := w.ownsRow B e s (.slice A n c) n xs
section
variable {w w' w2 : World} {B : Nat} {e : TypeId} {s : Nat} {A : Option Addr} {n c : Nat} {xs : List Value} {o o' o'' : Obj}
theorem Mine.of {v : Value} (h : w.ownsRow B e s v n xs) : ∃ A c, v = .slice A n c ∧ Mine w B e s A n c xs := by
 obtain ⟨h1, h2⟩ := h
 rcases h2 with ⟨rfl, rfl⟩ | ⟨g, cap, cur, rfl, r⟩
 ·exact ⟨none, 0, rfl, h1, .inl ⟨rfl, rfl⟩⟩
 ·exact ⟨_, cap, rfl, h1, .inr ⟨g, cap, cur, rfl, r⟩⟩
theorem Mine.len (h : Mine w B e s A n c xs) : xs.length = n * s := h.1
theorem Mine.own (h : Mine w B e s A n c xs) : (A = none ∧ n = 0 ∧ c = 0) ∨ ∃ g, A = some ⟨g, 0, none⟩ ∧ B ≤ g ∧ n ≤ c ∧ c ≤ maxLen ∧ Own w g e (c * s) xs := by
 obtain ⟨h1, h2⟩ := h
 rcases h2 with ⟨h2, h3⟩ | ⟨g, cap, cur, hv, hg, hh, hn, hc, hsz, ht⟩
 ·injection h2 with a b d
  exact .inl ⟨a, h3, d⟩
 ·injection hv with a b d
  subst a; subst d
  refine .inr ⟨g, rfl, hg, hn, hc, cur.toList.drop (n * s), ?_, ?_⟩
  ·have e1 : (xs ++ cur.toList.drop (n * s)).toArray = cur := by rw [← ht, List.take_append_drop]
   rw [e1]; exact hh
  ·rw [← ht, List.take_append_drop]; simpa using hsz
theorem Mine.mk_own {g : Nat} (h : Own w g e (c * s) xs) (hl : xs.length = n * s) (hg : B ≤ g) (hn : n ≤ c) (hc : c ≤ maxLen) : Mine w B e s (some ⟨g, 0, none⟩) n c xs := by
 obtain ⟨rest, hb, hs⟩ := h
 refine ⟨hl, .inr ⟨g, c, _, rfl, hg, hb, hn, hc, by simpa using hs, ?_⟩⟩
 rw [← hl]; simp
theorem Mine.mk_nil (w : World) (B : Nat) (e : TypeId) (s : Nat) : Mine w B e s none 0 0 [] := ⟨by simp, .inl ⟨rfl, rfl⟩⟩
theorem Mine.rd (h : Mine w B e s A n c xs) : Rd w s A n xs := by
 rcases h.own with ⟨rfl, rfl, _⟩ | ⟨g, rfl, _, _, _, ho⟩
 ·have : xs = [] := List.eq_nil_of_length_eq_zero (by simpa using h.len)
  subst this; exact Rd.none_ _ _ _
 ·exact ho.rd h.len
theorem Mine.grown {row : Option Nat} (h : Mine w B e s A n c xs) (hg : w.grownBy w' row) (hne : ∀ g, row = some g → g < B ∨ A.map (·.block) ≠ some g) : Mine w' B e s A n c xs := by
 have hl := h.len
 rcases h.own with ⟨rfl, rfl, rfl⟩ | ⟨g, rfl, hB, hn, hc, rest, hb, hs⟩
 ·exact ⟨hl, .inl ⟨rfl, rfl⟩⟩
 ·refine Mine.mk_own ⟨rest, hb.grown hg (fun q => ?_), hs⟩ hl hB hn hc
  rcases hne g q.symm with h1 | h1
  ·omega
  ·exact h1 rfl
theorem Mine.next (h : Mine w B e s A n c xs) (hb : Below w.heap.size w w') : Mine w' B e s A n c xs := by
 have hl := h.len
 rcases h.own with ⟨rfl, rfl, rfl⟩ | ⟨g, rfl, hB, hn, hc, ho⟩
 ·exact ⟨hl, .inl ⟨rfl, rfl⟩⟩
 ·exact Mine.mk_own (ho.next hb) hl hB hn hc
theorem Mine.alloc (h : Mine w B e s A n c xs) (o : Obj) : Mine (w.alloc o) B e s A n c xs := h.next ((Below.refl _ _).alloc (Nat.le_refl _) o)
theorem Mine.next1 (h : Mine w B e s A n c xs) (hb : Below (w.alloc o).heap.size (w.alloc o) w2) : Mine w2 B e s A n c xs := (h.alloc o).next hb
theorem Mine.drewN (h : Mine w B e s A n c xs) (k : Nat) : Mine (w.drewN k) B e s A n c xs := h
theorem Mine.drew (h : Mine w B e s A n c xs) : Mine w.drew B e s A n c xs := h
theorem Mine.more (h : Mine w B e s A n c xs) {B' : Nat} (hB : B' ≤ B) : Mine w B' e s A n c xs := by
 have hl := h.len
 rcases h.own with ⟨rfl, rfl, rfl⟩ | ⟨g, rfl, hg, hn, hc, ho⟩
 ·exact ⟨hl, .inl ⟨rfl, rfl⟩⟩
 ·exact Mine.mk_own ho hl (by omega) hn hc
theorem own_empty (w : World) (e : TypeId) (s : Nat) : (w.alloc (.cells #[] e)).ownsRow w.heap.size e s (.slice (some ⟨w.heap.size, 0, none⟩) 0 0) 0 [] :=
 ⟨by simp, .inr ⟨w.heap.size, 0, #[], rfl, Nat.le_refl _, heap_alloc_new w _, Nat.le_refl _, Nat.zero_le _, by simp, by simp⟩⟩
theorem Mine.blk (h : Mine w B e s A n c xs) {g : Nat} (hg : A.map (·.block) = some g) : B ≤ g ∧ g < w.heap.size := by
 rcases h.own with ⟨rfl, _⟩ | ⟨g', rfl, hB, _, _, ho⟩
 ·simp at hg
 ·simp at hg; subst hg; exact ⟨hB, ho.lt⟩
theorem Blk.turned {g : Nat} {t : TypeId} {cs : Array Value} {row : Option Nat} (h : Blk w g t cs) (hb : w.grownBy w' row) (hg : ∀ q, row = some q → g ≠ q) : Blk w' g t cs :=
 h.grown hb (fun q => hg g q.symm rfl)
theorem Own.grown {g cap : Nat} {t : TypeId} {row : Option Nat} (h : Own w g t cap xs) (hb : w.grownBy w' row) (hg : ∀ q, row = some q → g ≠ q) : Own w' g t cap xs := by
 obtain ⟨rest, h1, h2⟩ := h; exact ⟨rest, h1.turned hb hg, h2⟩
theorem below_turned {W : World} {row : Option Nat} (h : Below W.heap.size W w) (hg : w.grownBy w' row) (hr : ∀ g, row = some g → W.heap.size ≤ g) : Below W.heap.size W w' :=
 h.grown hg h.size hr
end
theorem Mine.apart {w : World} {B B' : Nat} {e e' : TypeId} {s s' : Nat} {A A' : Option Addr} {n c n' c' : Nat} {xs xs' : List Value} (h : Mine w B e s A n c xs) (h' : Mine w B' e' s' A' n' c' xs') (hne : e ≠ e') {g : Nat} (hg : A'.map (·.block) = some g) : A.map (·.block) ≠ some g := by
 intro h2
 rcases h.own with ⟨rfl, _⟩ | ⟨a, rfl, _, _, _, r, hb, _⟩
 ·simp at h2
 ·rcases h'.own with ⟨rfl, _⟩ | ⟨a', rfl, _, _, _, r', hb', _⟩
  ·simp at hg
  ·simp at h2 hg
   subst h2; subst hg
   have := hb.symm.trans hb'
   injection this with this
   injection this with _ this
   exact hne this
theorem ownBlk (A : Option Addr) (n c : Nat) : (Value.slice A n c).ownBlock = A.map (·.block) := by cases A <;> rfl
theorem str_at {w : World} {A : Option Addr} {n k : Nat} {l : List ByteArray} {x : ByteArray} (h : Rd w 1 A n (strCells l)) (hk : k < n) (hd : l[k]? = some x) :
  ∃ b off, A = some ⟨b, off, none⟩ ∧ b < w.heap.size ∧ w.cell? ⟨b, off + k, none⟩ = some (.string x) := by
 obtain ⟨b, off, e, hb, hc⟩ := h.at_ (by omega)
 exact ⟨b, off, e, hb, hc k _ (by unfold strCells; rw [List.getElem?_map, hd]; rfl)⟩
open Go.RowKit Go.WideShapes Go.ChangeShapes Go.Joins Go.Deep
def intCells (l : List Int) : List Value := l.map (Value.int .i64)
theorem int_at {w : World} {A : Option Addr} {n k : Nat} {l : List Int} {x : Int} (h : Rd w 1 A n (intCells l)) (hk : k < n) (hd : l[k]? = some x) :
  ∃ b off, A = some ⟨b, off, none⟩ ∧ b < w.heap.size ∧ w.cell? ⟨b, off + k, none⟩ = some (.int .i64 x) := by
 obtain ⟨b, off, e, hb, hc⟩ := h.at_ (by omega)
 exact ⟨b, off, e, hb, hc k _ (by unfold intCells; rw [List.getElem?_map, hd]; rfl)⟩
section
variable {H : Type} {enc : TypeId × Value → H} {W : World} {base : Nat} {v : Value} {d : DataW H} {p : List MemPlace} {hd : Bool}
end
theorem infoInt : (Tryz.prog.info? 3).map (fun i => (i.zero, i.size, i.bytes)) = some (some (.int .i64 0), 1, 8) := by kernel_rfl
open Go.RowKit Go.WideShapes Go.ChangeShapes Go.Joins Go.Deep
structure Nd where
 kind : Int
 text : ByteArray
 adr : Option Addr
 cnt : Nat
 cap : Nat
 kids : List Int
 blank : Bool
structure PN where
 kind : Int
 text : ByteArray
 kids : List Int
 blank : Bool
def Nd.pn (d : Nd) : PN := ⟨d.kind, d.text, d.kids, d.blank⟩
def nodeCells (d : Nd) : List Value := [.int .i64 d.kind, .string d.text, .slice d.adr d.cnt d.cap, .bool d.blank]
theorem nodeCells_len (d : Nd) : (nodeCells d).length = 4 := rfl
def Nds (w : World) (A : Option Addr) (n : Nat) (l : List Nd) : Prop :=
 l.length = n ∧ Rd w 4 A n (l.flatMap nodeCells) ∧ ∀ d ∈ l, Rd w 1 d.adr d.cnt (intCells d.kids)
section
variable {w w' w2 : World} {A : Option Addr} {n k g B : Nat} {l : List Nd} {d : Nd} {o o' : Obj} {t u : TypeId}
theorem Nds.next (h : Nds w A n l) (hb : Below w.heap.size w w') : Nds w' A n l := ⟨h.1, h.2.1.next hb, fun d hd => (h.2.2 d hd).next hb⟩
theorem rd1_len {xs : List Int} {m : Nat} (h : Rd w 1 A m (intCells xs)) : xs.length = m := by have := h.1; simpa [intCells] using this
theorem Nds.cnt (h : Nds w A n l) (hd : d ∈ l) : d.kids.length = d.cnt := rd1_len (h.2.2 d hd)
theorem Nds.at_ (h : Nds w A n l) (hk : k < n) (hd : l[k]? = some d) :
  ∃ b off, A = some ⟨b, off, none⟩ ∧ b < w.heap.size ∧ w.cell? ⟨b, off + k * 4, none⟩ = some (.int .i64 d.kind) ∧ w.cell? ⟨b, off + k * 4 + 1, none⟩ = some (.string d.text) ∧ w.cell? ⟨b, off + k * 4 + 2, none⟩ = some (.slice d.adr d.cnt d.cap) ∧ w.cell? ⟨b, off + k * 4 + 3, none⟩ = some (.bool d.blank) := by
 obtain ⟨b, off, e, hb, hc⟩ := h.2.1.at_ (by omega)
 exact ⟨b, off, e, hb, hc _ _ (flat_get nodeCells nodeCells_len hd (j := 0) rfl), hc _ _ (flat_get nodeCells nodeCells_len hd (j := 1) rfl), hc _ _ (flat_get nodeCells nodeCells_len hd (j := 2) rfl), hc _ _ (flat_get nodeCells nodeCells_len hd (j := 3) rfl)⟩
theorem Nds.kids (h : Nds w A n l) (hd : l[k]? = some d) : Rd w 1 d.adr d.cnt (intCells d.kids) := h.2.2 d (List.mem_of_getElem? hd)
end
section
variable {H : Type} {enc : TypeId × Value → H} {W : World} {base : Nat} {v : Value} {d : DataW H} {p : List MemPlace} {hd : Bool}
end
def Nps (w : World) (A : Option Addr) (n : Nat) (ps : List PN) : Prop := ∃ l, Nds w A n l ∧ (∀ d ∈ l, d.cnt ≤ d.cap) ∧ l.map Nd.pn = ps
section
variable {w w' : World} {A : Option Addr} {n k : Nat} {ps : List PN} {p : PN} {o o' : Obj}
theorem Nps.len (h : Nps w A n ps) : ps.length = n := by obtain ⟨l, h, _, rfl⟩ := h; rw [List.length_map]; exact h.1
theorem Nps.next (h : Nps w A n ps) (hb : Below w.heap.size w w') : Nps w' A n ps := by obtain ⟨l, h, c, e⟩ := h; exact ⟨l, h.next hb, c, e⟩
theorem Nps.below (h : Nps w A n ps) (hb : Below w.heap.size w w') : Nps w' A n ps := h.next hb
theorem Nps.get (h : Nps w A n ps) (hk : k < n) : ∃ p, ps[k]? = some p := ⟨_, List.getElem?_eq_getElem (by have := h.len; omega)⟩
theorem Nps.atc (h : Nps w A n ps) (hk : k < n) (hd : ps[k]? = some p) :
  ∃ b off A' c', A = some ⟨b, off, none⟩ ∧ b < w.heap.size ∧ w.cell? ⟨b, off + k * 4, none⟩ = some (.int .i64 p.kind) ∧ w.cell? ⟨b, off + k * 4 + 1, none⟩ = some (.string p.text) ∧ w.cell? ⟨b, off + k * 4 + 2, none⟩ = some (.slice A' p.kids.length c') ∧ w.cell? ⟨b, off + k * 4 + 3, none⟩ = some (.bool p.blank) ∧ p.kids.length ≤ c' ∧ Rd w 1 A' p.kids.length (intCells p.kids) := by
 obtain ⟨l, h, hcap, rfl⟩ := h
 rw [List.getElem?_map] at hd
 obtain ⟨d, hd2, rfl⟩ := Option.map_eq_some_iff.1 hd
 obtain ⟨b, off, e, hb, c0, c1, c2, c3⟩ := h.at_ hk hd2
 have hc := h.cnt (List.mem_of_getElem? hd2)
 have hr := h.kids hd2
 refine ⟨b, off, d.adr, d.cap, e, hb, c0, c1, ?_, c3, ?_, ?_⟩
 ·show w.cell? _ = some (.slice d.adr d.kids.length d.cap); rw [hc]; exact c2
 ·show d.kids.length ≤ d.cap; rw [hc]; exact hcap d (List.mem_of_getElem? hd2)
 ·show Rd w 1 d.adr d.kids.length (intCells d.kids); rw [hc]; exact hr
theorem Nps.at_ (h : Nps w A n ps) (hk : k < n) (hd : ps[k]? = some p) :
  ∃ b off A' c', A = some ⟨b, off, none⟩ ∧ b < w.heap.size ∧ w.cell? ⟨b, off + k * 4, none⟩ = some (.int .i64 p.kind) ∧ w.cell? ⟨b, off + k * 4 + 1, none⟩ = some (.string p.text) ∧ w.cell? ⟨b, off + k * 4 + 2, none⟩ = some (.slice A' p.kids.length c') ∧ w.cell? ⟨b, off + k * 4 + 3, none⟩ = some (.bool p.blank) ∧ Rd w 1 A' p.kids.length (intCells p.kids) := by
 obtain ⟨b, off, A', c', e, hb, c0, c1, c2, c3, _, hr⟩ := h.atc hk hd
 exact ⟨b, off, A', c', e, hb, c0, c1, c2, c3, hr⟩
end
def allB (p : UInt8 → Bool) (s : ByteArray) : Bool := s.data.toList.all p
def AllTo (p : UInt8 → Bool) (s : ByteArray) (k : Nat) : Prop := (s.data.toList.take k).all p = true
section
variable {p : UInt8 → Bool} {s : ByteArray} {k : Nat}
theorem allTo_zero (p : UInt8 → Bool) (s : ByteArray) : AllTo p s 0 := by simp [AllTo]
theorem allTo_step (h : AllTo p s k) (hk : k < s.size) (hc : p s[k] = true) : AllTo p s (k + 1) := by
 unfold AllTo at h ⊢
 rw [List.take_succ_eq_append_getElem (by simpa using hk), List.all_append, h]
 simp only [List.all_cons, List.all_nil, Bool.and_true, Bool.true_and]
 exact hc
theorem allTo_no (hk : k < s.size) (hc : p s[k] = false) : allB p s = false := by
 unfold allB
 rw [List.all_eq_false]
 exact ⟨s[k], by rw [show s[k] = s.data.toList[k]'(by simpa using hk) from rfl]; exact List.getElem_mem _, by simp [hc]⟩
theorem allTo_all (h : AllTo p s k) (hk : k = s.size) : allB p s = true := by
 unfold AllTo at h; unfold allB
 rwa [List.take_of_length_le (by simp [hk])] at h
end
def firstC (c : UInt8) : Bool := decide ((97 ≤ (c.toNat : Int) ∧ (c.toNat : Int) ≤ 122) ∨ (65 ≤ (c.toNat : Int) ∧ (c.toNat : Int) ≤ 90) ∨ (c.toNat : Int) = 95)
def figC (c : UInt8) : Bool := decide (48 ≤ (c.toNat : Int) ∧ (c.toNat : Int) ≤ 57)
def innerC (c : UInt8) : Bool := firstC c || figC c
def plainC (c : UInt8) : Bool := decide (32 ≤ (c.toNat : Int) ∧ (c.toNat : Int) ≤ 126)
def runN (p : UInt8 → Bool) : List UInt8 → Nat
 | [] => 0
 | c :: l => if p c then runN p l + 1 else 0
theorem runN_le (p : UInt8 → Bool) (l : List UInt8) : runN p l ≤ l.length := by
 induction l with
 | nil => exact Nat.le_refl _
 | cons c l ih => unfold runN; split <;> simp <;> omega
theorem runN_all (p : UInt8 → Bool) (l : List UInt8) : runN p l = l.length ↔ l.all p = true := by
 induction l with
 | nil => simp [runN]
 | cons c l ih =>
  unfold runN
  by_cases h : p c = true
  ·rw [if_pos h, List.length_cons, List.all_cons, h, Bool.true_and, ← ih]; omega
  ·rw [if_neg h, List.length_cons, List.all_cons, Bool.eq_false_iff.2 h]; simp
theorem run_whole (p : UInt8 → Bool) (s : ByteArray) : runN p s.data.toList = s.size ↔ allB p s = true := by
 have h := runN_all p s.data.toList
 rw [ba_len] at h
 exact h
theorem runN_step {p : UInt8 → Bool} {s : ByteArray} {k : Nat} (h : AllTo p s k) (hk : k < s.size) (hc : p s[k] = false) : runN p s.data.toList = k := by
 have key : ∀ (l : List UInt8) (k : Nat) (hk : k < l.length), (l.take k).all p = true → p l[k] = false → runN p l = k := by
  intro l
  induction l with
  | nil => intro k hk; simp at hk
  | cons c l ih =>
   intro k hk h hc
   cases k with
   | zero => simp only [List.getElem_cons_zero] at hc; unfold runN; rw [if_neg (by rw [hc]; decide)]
   | succ k =>
    simp only [List.take_succ_cons, List.all_cons, Bool.and_eq_true] at h
    simp only [List.getElem_cons_succ] at hc
    unfold runN
    rw [if_pos h.1, ih k (by simpa using hk) h.2 hc]
 exact key s.data.toList k (by rw [ba_len]; exact hk) h hc
theorem runN_end {p : UInt8 → Bool} {s : ByteArray} {k : Nat} (h : AllTo p s k) (hk : k = s.size) : runN p s.data.toList = k := by
 rw [(run_whole p s).2 (allTo_all h hk), hk]
theorem firstC_yes {c : UInt8} (h : ((97 : Int) ≤ c.toNat ∧ (c.toNat : Int) ≤ 122) ∨ ((65 : Int) ≤ c.toNat ∧ (c.toNat : Int) ≤ 90) ∨ (c.toNat : Int) = 95) : true = firstC c := (decide_eq_true h).symm
theorem firstC_no {c : UInt8} (h : ¬ (((97 : Int) ≤ c.toNat ∧ (c.toNat : Int) ≤ 122) ∨ ((65 : Int) ≤ c.toNat ∧ (c.toNat : Int) ≤ 90) ∨ (c.toNat : Int) = 95)) : false = firstC c := (decide_eq_false h).symm
theorem figC_yes {c : UInt8} (h : (48 : Int) ≤ c.toNat ∧ (c.toNat : Int) ≤ 57) : true = figC c := (decide_eq_true h).symm
theorem figC_no {c : UInt8} (h : ¬ ((48 : Int) ≤ c.toNat ∧ (c.toNat : Int) ≤ 57)) : false = figC c := (decide_eq_false h).symm
theorem plainC_yes {c : UInt8} (h : (32 : Int) ≤ c.toNat ∧ (c.toNat : Int) ≤ 126) : true = plainC c := (decide_eq_true h).symm
theorem plainC_no {c : UInt8} (h : ¬ ((32 : Int) ≤ c.toNat ∧ (c.toNat : Int) ≤ 126)) : false = plainC c := (decide_eq_false h).symm
theorem specFirst_any (c : UInt8) (w : World) : Calls Tryz.prog 171 #[.int .u8 c.toNat] w fun e w' => e = .returned (.bool (firstC c)) ∧ w = w' := by
 by_cases h1 : (97 : Int) ≤ c.toNat
 all_goals by_cases h2 : (c.toNat : Int) ≤ 122
 all_goals by_cases h3 : (65 : Int) ≤ c.toNat
 all_goals by_cases h4 : (c.toNat : Int) ≤ 90
 all_goals by_cases h5 : (c.toNat : Int) = 95
 all_goals try omega
 all_goals
  go_enter Tryz.func171, Tryz.ntmps171
  go_wp2
  go_ret
  refine ⟨ret_bool ?_, rfl⟩
  first | exact firstC_yes (c := c) (by omega) | exact firstC_no (c := c) (by omega) | (have d : ((c.toNat : Int) == 95) = false := (by rw [beq_eq_false_iff_ne]; omega); rw [d]; exact firstC_no (c := c) (by omega)) | (have d : decide ((c.toNat : Int) = 95) = false := decide_eq_false (by omega); rw [d]; exact firstC_no (c := c) (by omega))
theorem implFirst_any (c : UInt8) (w : World) : Calls Tryz.prog 224 #[.int .u8 c.toNat] w fun e w' => e = .returned (.bool (firstC c)) ∧ w = w' := by
 by_cases h1 : (97 : Int) ≤ c.toNat
 all_goals by_cases h2 : (c.toNat : Int) ≤ 122
 all_goals by_cases h3 : (65 : Int) ≤ c.toNat
 all_goals by_cases h4 : (c.toNat : Int) ≤ 90
 all_goals by_cases h5 : (c.toNat : Int) = 95
 all_goals try omega
 all_goals
  go_enter Tryz.func224, Tryz.ntmps224
  go_wp2
  go_ret
  refine ⟨ret_bool ?_, rfl⟩
  first | exact firstC_yes (c := c) (by omega) | exact firstC_no (c := c) (by omega) | (have d : ((c.toNat : Int) == 95) = false := (by rw [beq_eq_false_iff_ne]; omega); rw [d]; exact firstC_no (c := c) (by omega)) | (have d : decide ((c.toNat : Int) = 95) = false := decide_eq_false (by omega); rw [d]; exact firstC_no (c := c) (by omega))
theorem specFigure_any (c : UInt8) (w : World) : Calls Tryz.prog 172 #[.int .u8 c.toNat] w fun e w' => e = .returned (.bool (figC c)) ∧ w = w' := by
 by_cases h1 : (48 : Int) ≤ c.toNat
 all_goals by_cases h2 : (c.toNat : Int) ≤ 57
 all_goals
  go_enter Tryz.func172, Tryz.ntmps172
  go_wp2
  go_ret
  refine ⟨ret_bool ?_, rfl⟩
  first | exact figC_yes (by omega) | exact figC_no (by omega)
theorem implFigure_any (c : UInt8) (w : World) : Calls Tryz.prog 227 #[.int .u8 c.toNat] w fun e w' => e = .returned (.bool (figC c)) ∧ w = w' := by
 by_cases h1 : (48 : Int) ≤ c.toNat
 all_goals by_cases h2 : (c.toNat : Int) ≤ 57
 all_goals
  go_enter Tryz.func227, Tryz.ntmps227
  go_wp2
  go_ret
  refine ⟨ret_bool ?_, rfl⟩
  first | exact figC_yes (by omega) | exact figC_no (by omega)
theorem specPlain_any (c : UInt8) (w : World) : Calls Tryz.prog 208 #[.int .u8 c.toNat] w fun e w' => e = .returned (.bool (plainC c)) ∧ w = w' := by
 by_cases h1 : (32 : Int) ≤ c.toNat
 all_goals by_cases h2 : (c.toNat : Int) ≤ 126
 all_goals
  go_enter Tryz.func208, Tryz.ntmps208
  go_wp2
  go_ret
  refine ⟨ret_bool ?_, rfl⟩
  first | exact plainC_yes (by omega) | exact plainC_no (by omega)
theorem implInner_any (c : UInt8) (w : World) : Calls Tryz.prog 226 #[.int .u8 c.toNat] w fun e w' => e = .returned (.bool (innerC c)) ∧ w = w' := by
 have H1 := hid (fun (b : Bool) (hb : firstC c = b) (W : World) => show Calls Tryz.prog 224 #[.int .u8 (c.toNat : Int)] W fun e w' => e = .returned (.bool b) ∧ W = w' by rw [← hb]; exact implFirst_any c W)
 cases hb : firstC c with
 | true =>
  have H2 := hid (H1.out _ hb)
  have hi : innerC c = true := by unfold innerC; rw [hb]; rfl
  rw [hi]
  clear H1 hb hi
  go_enter Tryz.func226, Tryz.ntmps226
  go_wp2_with (go_at_call 224; refine (H2.out _).mono ?_; rintro e w1 ⟨rfl, rfl⟩)
  go_ret
  exact ⟨rfl, rfl⟩
 | false =>
  have H2 := hid (H1.out _ hb)
  have hi : innerC c = figC c := by unfold innerC; rw [hb]; rfl
  rw [hi]
  clear H1 hb hi
  go_enter Tryz.func226, Tryz.ntmps226
  go_wp2_with (first | (go_at_call 224; refine (H2.out _).mono ?_; rintro e w1 ⟨rfl, rfl⟩) | (go_at_call 227; refine (implFigure_any c _).mono ?_; rintro e w1 ⟨rfl, rfl⟩))
  go_ret
  exact ⟨rfl, rfl⟩
theorem implNotEnd_any (c : UInt8) (w : World) : Calls Tryz.prog 230 #[.int .u8 c.toNat] w fun e w' => e = .returned (.bool (c != 10)) ∧ w = w' := by
 by_cases h : (c.toNat : Int) = 10
 ·have hc : c = 10 := by apply UInt8.toNat_inj.1; show c.toNat = 10; omega
  subst hc
  go_enter Tryz.func230, Tryz.ntmps230
  go_wp2
  go_ret
  exact ⟨rfl, rfl⟩
 ·have hc : (c != 10) = true := by
   rw [bne_iff_ne]; intro e; subst e; exact h rfl
  rw [hc]
  have h2 : ((c.toNat : Int) == 10) = false := by rw [beq_eq_false_iff_ne]; exact h
  have h3 : ((c.toNat : Int) != 10) = true := by rw [bne_iff_ne]; exact h
  go_enter Tryz.func230, Tryz.ntmps230
  go_wp2
  go_ret
  refine ⟨ret_bool ?_, rfl⟩
  first | rfl | exact h3 | simp [h2] | simpa using h
theorem implPlain_any (s : ByteArray) (w : World) (hs : s.size ≤ maxLen) : Calls Tryz.prog 232 #[.string s] w fun e w' => e = .returned (.bool (allB plainC s)) ∧ w = w' := by
 unfold maxLen at hs
 go_enter Tryz.func232, Tryz.ntmps232
 go_wp2
 go_loop [3] (fun i => ∃ k : Nat, k ≤ s.size ∧ AllTo plainC s k ∧ i = .int .i64 k) (fun i => s.size - (intOf i).toNat)
 case atStart => exact ⟨0, Nat.zero_le _, allTo_zero _ s, rfl⟩
 case round =>
  obtain ⟨k, hk, ha, rfl⟩ := hrel
  by_cases hlt : k < s.size
  ·by_cases h1 : (s[k].toNat : Int) < 32
   ·have hn := hid (allTo_no hlt (plainC_no (by omega)).symm)
    go_wp2
    go_ret
    exact ⟨ret_bool hn.out.symm, rfl⟩
   ·by_cases h2 : (126 : Int) < s[k].toNat
    ·have hn := hid (allTo_no hlt (plainC_no (by omega)).symm)
     go_wp2
     go_ret
     exact ⟨ret_bool hn.out.symm, rfl⟩
    ·have hn := allTo_step ha hlt (plainC_yes (by omega)).symm
     go_wp2
     go_round
     case rel => exact ⟨k + 1, by omega, hn, by go_num⟩
     case measure => simp [intOf]; omega
  ·have hn := hid (allTo_all ha (by omega))
   go_wp2
   go_ret
   exact ⟨ret_bool hn.out.symm, rfl⟩
def keyB (s : ByteArray) : Bool :=
 s.toList == [99, 108, 97, 115, 115] || s.toList == [118, 97, 114] || s.toList == [105, 102] || s.toList == [101, 108, 115, 101] || s.toList == [119, 104, 105, 108, 101] || s.toList == [114, 101, 116, 117, 114, 110]
theorem implKey_any (s : ByteArray) (w : World) : Calls Tryz.prog 296 #[.string s] w fun e w' => e = .returned (.bool (keyB s)) ∧ w = w' := by
 cases h0 : (s.toList == [99, 108, 97, 115, 115]) with
 | true =>
  have hk : keyB s = true := by unfold keyB; simp only [h0, Bool.or_true, Bool.true_or]
  rw [hk]; clear hk
  go_enter Tryz.func296, Tryz.ntmps296
  go_wp2
  go_ret
  exact ⟨rfl, rfl⟩
 | false =>
 cases h1 : (s.toList == [118, 97, 114]) with
 | true =>
  have hk : keyB s = true := by unfold keyB; simp only [h1, Bool.or_true, Bool.true_or]
  rw [hk]; clear hk
  go_enter Tryz.func296, Tryz.ntmps296
  go_wp2
  go_ret
  exact ⟨rfl, rfl⟩
 | false =>
 cases h2 : (s.toList == [105, 102]) with
 | true =>
  have hk : keyB s = true := by unfold keyB; simp only [h2, Bool.or_true, Bool.true_or]
  rw [hk]; clear hk
  go_enter Tryz.func296, Tryz.ntmps296
  go_wp2
  go_ret
  exact ⟨rfl, rfl⟩
 | false =>
 cases h3 : (s.toList == [101, 108, 115, 101]) with
 | true =>
  have hk : keyB s = true := by unfold keyB; simp only [h3, Bool.or_true, Bool.true_or]
  rw [hk]; clear hk
  go_enter Tryz.func296, Tryz.ntmps296
  go_wp2
  go_ret
  exact ⟨rfl, rfl⟩
 | false =>
 cases h4 : (s.toList == [119, 104, 105, 108, 101]) with
 | true =>
  have hk : keyB s = true := by unfold keyB; simp only [h4, Bool.or_true, Bool.true_or]
  rw [hk]; clear hk
  go_enter Tryz.func296, Tryz.ntmps296
  go_wp2
  go_ret
  exact ⟨rfl, rfl⟩
 | false =>
 cases h5 : (s.toList == [114, 101, 116, 117, 114, 110]) with
 | true =>
  have hk : keyB s = true := by unfold keyB; simp only [h5, Bool.or_true, Bool.true_or]
  rw [hk]; clear hk
  go_enter Tryz.func296, Tryz.ntmps296
  go_wp2
  go_ret
  exact ⟨rfl, rfl⟩
 | false =>
 have hk : keyB s = false := by unfold keyB; simp only [h0, h1, h2, h3, h4, h5, Bool.or_self]
 rw [hk]; clear hk
 go_enter Tryz.func296, Tryz.ntmps296
 go_wp2
 go_ret
 exact ⟨rfl, rfl⟩
theorem specKey_any (s : ByteArray) (w : World) : Calls Tryz.prog 175 #[.string s] w fun e w' => e = .returned (.bool (keyB s)) ∧ w = w' := by
 cases h0 : (s.toList == [99, 108, 97, 115, 115]) with
 | true =>
  have hk : keyB s = true := by unfold keyB; simp only [h0, Bool.or_true, Bool.true_or]
  rw [hk]; clear hk
  go_enter Tryz.func175, Tryz.ntmps175
  go_wp2
  go_ret
  exact ⟨rfl, rfl⟩
 | false =>
 cases h1 : (s.toList == [118, 97, 114]) with
 | true =>
  have hk : keyB s = true := by unfold keyB; simp only [h1, Bool.or_true, Bool.true_or]
  rw [hk]; clear hk
  go_enter Tryz.func175, Tryz.ntmps175
  go_wp2
  go_ret
  exact ⟨rfl, rfl⟩
 | false =>
 cases h2 : (s.toList == [105, 102]) with
 | true =>
  have hk : keyB s = true := by unfold keyB; simp only [h2, Bool.or_true, Bool.true_or]
  rw [hk]; clear hk
  go_enter Tryz.func175, Tryz.ntmps175
  go_wp2
  go_ret
  exact ⟨rfl, rfl⟩
 | false =>
 cases h3 : (s.toList == [101, 108, 115, 101]) with
 | true =>
  have hk : keyB s = true := by unfold keyB; simp only [h3, Bool.or_true, Bool.true_or]
  rw [hk]; clear hk
  go_enter Tryz.func175, Tryz.ntmps175
  go_wp2
  go_ret
  exact ⟨rfl, rfl⟩
 | false =>
 cases h4 : (s.toList == [119, 104, 105, 108, 101]) with
 | true =>
  have hk : keyB s = true := by unfold keyB; simp only [h4, Bool.or_true, Bool.true_or]
  rw [hk]; clear hk
  go_enter Tryz.func175, Tryz.ntmps175
  go_wp2
  go_ret
  exact ⟨rfl, rfl⟩
 | false =>
 cases h5 : (s.toList == [114, 101, 116, 117, 114, 110]) with
 | true =>
  have hk : keyB s = true := by unfold keyB; simp only [h5, Bool.or_true, Bool.true_or]
  rw [hk]; clear hk
  go_enter Tryz.func175, Tryz.ntmps175
  go_wp2
  go_ret
  exact ⟨rfl, rfl⟩
 | false =>
 have hk : keyB s = false := by unfold keyB; simp only [h0, h1, h2, h3, h4, h5, Bool.or_self]
 rw [hk]; clear hk
 go_enter Tryz.func175, Tryz.ntmps175
 go_wp2
 go_ret
 exact ⟨rfl, rfl⟩
def chainB (s : ByteArray) : Bool :=
 s.toList == [38, 38] || s.toList == [124, 124] || s.toList == [61, 61] || s.toList == [60] || s.toList == [43] || s.toList == [45] || s.toList == [42]
theorem specChain_any (s : ByteArray) (w : World) : Calls Tryz.prog 294 #[.string s] w fun e w' => e = .returned (.bool (chainB s)) ∧ w = w' := by
 cases h0 : (s.toList == [38, 38]) with
 | true =>
  have hk : chainB s = true := by unfold chainB; simp only [h0, Bool.or_true, Bool.true_or]
  rw [hk]; clear hk
  go_enter Tryz.func294, Tryz.ntmps294
  go_wp2
  go_ret
  exact ⟨rfl, rfl⟩
 | false =>
 cases h1 : (s.toList == [124, 124]) with
 | true =>
  have hk : chainB s = true := by unfold chainB; simp only [h1, Bool.or_true, Bool.true_or]
  rw [hk]; clear hk
  go_enter Tryz.func294, Tryz.ntmps294
  go_wp2
  go_ret
  exact ⟨rfl, rfl⟩
 | false =>
 cases h2 : (s.toList == [61, 61]) with
 | true =>
  have hk : chainB s = true := by unfold chainB; simp only [h2, Bool.or_true, Bool.true_or]
  rw [hk]; clear hk
  go_enter Tryz.func294, Tryz.ntmps294
  go_wp2
  go_ret
  exact ⟨rfl, rfl⟩
 | false =>
 cases h3 : (s.toList == [60]) with
 | true =>
  have hk : chainB s = true := by unfold chainB; simp only [h3, Bool.or_true, Bool.true_or]
  rw [hk]; clear hk
  go_enter Tryz.func294, Tryz.ntmps294
  go_wp2
  go_ret
  exact ⟨rfl, rfl⟩
 | false =>
 cases h4 : (s.toList == [43]) with
 | true =>
  have hk : chainB s = true := by unfold chainB; simp only [h4, Bool.or_true, Bool.true_or]
  rw [hk]; clear hk
  go_enter Tryz.func294, Tryz.ntmps294
  go_wp2
  go_ret
  exact ⟨rfl, rfl⟩
 | false =>
 cases h5 : (s.toList == [45]) with
 | true =>
  have hk : chainB s = true := by unfold chainB; simp only [h5, Bool.or_true, Bool.true_or]
  rw [hk]; clear hk
  go_enter Tryz.func294, Tryz.ntmps294
  go_wp2
  go_ret
  exact ⟨rfl, rfl⟩
 | false =>
 cases h6 : (s.toList == [42]) with
 | true =>
  have hk : chainB s = true := by unfold chainB; simp only [h6, Bool.or_true, Bool.true_or]
  rw [hk]; clear hk
  go_enter Tryz.func294, Tryz.ntmps294
  go_wp2
  go_ret
  exact ⟨rfl, rfl⟩
 | false =>
 have hk : chainB s = false := by unfold chainB; simp only [h0, h1, h2, h3, h4, h5, h6, Bool.or_self]
 rw [hk]; clear hk
 go_enter Tryz.func294, Tryz.ntmps294
 go_wp2
 go_ret
 exact ⟨rfl, rfl⟩
end Go.Proofs.YtcbbokbgmalpgaaGreatDoor
namespace Go.Proofs
open Go.Shelf
def Tryz.lays232_ren : Go.Shelf.Ren := ⟨fun | 232 => 298 | n => n, fun | 9 => 9 | 5 => 5 | 3 => 3 | 4 => 4 | n => n, fun | n => n⟩
def Tryz.lays162_ren : Go.Shelf.Ren := ⟨fun | 162 => 265 | 232 => 298 | 227 => 299 | 234 => 300 | 236 => 301 | 228 => 318 | 271 => 319 | 151 => 320 | 120 => 327 | 197 => 271 | 152 => 328 | 260 => 304 | 137 => 263 | 119 => 330 | 224 => 269 | 225 => 268 | 217 => 267 | 266 => 302 | n => n, fun | 9 => 9 | 4 => 4 | 3 => 3 | 5 => 5 | 117 => 232 | 116 => 231 | 0 => 0 | 124 => 235 | 21 => 21 | 105 => 220 | 46 => 134 | 119 => 241 | 139 => 244 | 138 => 243 | n => n, fun | 3 => 2 | 4 => 3 | n => n⟩
theorem Tryz.lays162 : Go.Proofs.Lays.n162 Tryz.prog Tryz.lays162_ren := {
 mixed := by kernel_rfl
 f119 := Tryz.func330.trans (congrArg some (by kernel_rfl))
 f120 := Tryz.func327.trans (congrArg some (by kernel_rfl))
 f137 := Tryz.func263.trans (congrArg some (by kernel_rfl))
 f151 := Tryz.func320.trans (congrArg some (by kernel_rfl))
 f152 := Tryz.func328.trans (congrArg some (by kernel_rfl))
 f162 := Tryz.func265.trans (congrArg some (by kernel_rfl))
 f197 := Tryz.func271.trans (congrArg some (by kernel_rfl))
 f217 := Tryz.func267.trans (congrArg some (by kernel_rfl))
 f224 := Tryz.func269.trans (congrArg some (by kernel_rfl))
 f225 := Tryz.func268.trans (congrArg some (by kernel_rfl))
 f227 := Tryz.func299.trans (congrArg some (by kernel_rfl))
 f228 := Tryz.func318.trans (congrArg some (by kernel_rfl))
 f232 := Tryz.func298.trans (congrArg some (by kernel_rfl))
 f234 := Tryz.func300.trans (congrArg some (by kernel_rfl))
 f236 := Tryz.func301.trans (congrArg some (by kernel_rfl))
 f260 := Tryz.func304.trans (congrArg some (by kernel_rfl))
 f266 := Tryz.func302.trans (congrArg some (by kernel_rfl))
 f271 := Tryz.func319.trans (congrArg some (by kernel_rfl))
 t0 := Tryz.underlying0
 a0 := Tryz.isAgg0
 z0 := Tryz.sizeOf0
 v0 := Tryz.zeroValue0
 t3 := Tryz.underlying3
 a3 := Tryz.isAgg3
 z3 := Tryz.sizeOf3
 v3 := Tryz.zeroValue3
 t4 := Tryz.underlying4
 a4 := Tryz.isAgg4
 z4 := Tryz.sizeOf4
 v4 := Tryz.zeroValue4
 t5 := Tryz.underlying5
 a5 := Tryz.isAgg5
 z5 := Tryz.sizeOf5
 v5 := Tryz.zeroValue5
 t9 := Tryz.underlying9
 a9 := Tryz.isAgg9
 z9 := Tryz.sizeOf9
 v9 := Tryz.zeroValue9
 t21 := Tryz.underlying21
 a21 := Tryz.isAgg21
 z21 := Tryz.sizeOf21
 v21 := Tryz.zeroValue21
 t46 := Tryz.underlying134
 a46 := Tryz.isAgg134
 z46 := Tryz.sizeOf134
 v46 := Tryz.zeroValue134
 t105 := Tryz.underlying220
 a105 := Tryz.isAgg220
 z105 := Tryz.sizeOf220
 v105 := Tryz.zeroValue220
 t116 := Tryz.underlying231
 a116 := Tryz.isAgg231
 z116 := Tryz.sizeOf231
 t117 := Tryz.underlying232
 a117 := Tryz.isAgg232
 z117 := Tryz.sizeOf232
 v117 := Tryz.zeroValue232
 t119 := Tryz.underlying241
 a119 := Tryz.isAgg241
 z119 := Tryz.sizeOf241
 t124 := Tryz.underlying235
 a124 := Tryz.isAgg235
 z124 := Tryz.sizeOf235
 v124 := Tryz.zeroValue235
 t138 := Tryz.underlying243
 a138 := Tryz.isAgg243
 z138 := Tryz.sizeOf243
 v138 := Tryz.zeroValue243
 t139 := Tryz.underlying244
 a139 := Tryz.isAgg244
 z139 := Tryz.sizeOf244
 v139 := Tryz.zeroValue244
 g3 := by kernel_rfl
 g4 := by kernel_rfl }
open Go.RowKit in
/-- strings.TrimRight: "TrimRight returns a slice of the string s, with all trailing Unicode code points contained in cutset removed.": AT A cutset OF ONE ASCII BYTE. The world is as it was. (LAID: no walk: one application.) -/
theorem Tryz.strings_TrimRight_one (s : ByteArray) (c : UInt8) (hc : c.toNat < 128) (w : World) (hs : s.size ≤ 9223372036854775807) :
    Calls Tryz.prog 265 #[.string s, .string ⟨#[c]⟩] w fun e w' => e = .returned (.string ⟨(Lib.trimRightB s.data.toList c).toArray⟩) ∧ w' = w := Any.strings_TrimRight_one Tryz.lays162 s c hc w hs
def Tryz.lays137_ren : Go.Shelf.Ren := ⟨fun | 137 => 263 | 217 => 267 | 266 => 302 | n => n, fun | 9 => 9 | 5 => 5 | 3 => 3 | n => n, fun | n => n⟩
theorem Tryz.lays137 : Go.Proofs.Lays.n137 Tryz.prog Tryz.lays137_ren := {
 mixed := by kernel_rfl
 f137 := Tryz.func263.trans (congrArg some (by kernel_rfl))
 f217 := Tryz.func267.trans (congrArg some (by kernel_rfl))
 f266 := Tryz.func302.trans (congrArg some (by kernel_rfl))
 t3 := Tryz.underlying3
 a3 := Tryz.isAgg3
 z3 := Tryz.sizeOf3
 v3 := Tryz.zeroValue3
 t5 := Tryz.underlying5
 a5 := Tryz.isAgg5
 z5 := Tryz.sizeOf5
 v5 := Tryz.zeroValue5
 t9 := Tryz.underlying9
 a9 := Tryz.isAgg9
 z9 := Tryz.sizeOf9
 v9 := Tryz.zeroValue9 }
open Go.RowKit in
/-- strings.IndexByte: "IndexByte returns the index of the first instance of c in s, or -1 if c is not present in s.": IT RETURNS 'Lib.indexByte s c'; the world is as it was. (LAID: no walk: one application.) -/
theorem Tryz.strings_IndexByte (s : ByteArray) (c : Int) (w : World) :
    Calls Tryz.prog 263 #[.string s, .int .u8 c] w fun e w' => e = .returned (.int .i64 (Lib.indexByte s.data.toList c.toNat.toUInt8)) ∧ w' = w := Any.strings_IndexByte Tryz.lays137 s c w
def Tryz.lays219_ren : Go.Shelf.Ren := ⟨fun | 219 => 234 | 217 => 267 | 225 => 268 | 224 => 269 | 267 => 270 | 266 => 302 | 314 => 303 | n => n, fun | 9 => 9 | 3 => 3 | 4 => 4 | 5 => 5 | 46 => 134 | 146 => 236 | 51 => 225 | n => n, fun | 1 => 0 | n => n⟩
def Tryz.lays144_ren : Go.Shelf.Ren := ⟨fun | 144 => 266 | 143 => 188 | 219 => 234 | 217 => 267 | 225 => 268 | 224 => 269 | 267 => 270 | 266 => 302 | 314 => 303 | n => n, fun | 9 => 9 | 4 => 4 | 3 => 3 | 5 => 5 | 46 => 134 | 146 => 236 | 51 => 225 | n => n, fun | 1 => 0 | n => n⟩
theorem Tryz.lays144 : Go.Proofs.Lays.n144 Tryz.prog Tryz.lays144_ren := {
 mixed := by kernel_rfl
 f143 := Tryz.func188.trans (congrArg some (by kernel_rfl))
 f144 := Tryz.func266.trans (congrArg some (by kernel_rfl))
 f217 := Tryz.func267.trans (congrArg some (by kernel_rfl))
 f219 := Tryz.func234.trans (congrArg some (by kernel_rfl))
 f224 := Tryz.func269.trans (congrArg some (by kernel_rfl))
 f225 := Tryz.func268.trans (congrArg some (by kernel_rfl))
 f266 := Tryz.func302.trans (congrArg some (by kernel_rfl))
 f267 := Tryz.func270.trans (congrArg some (by kernel_rfl))
 f314 := Tryz.func303.trans (congrArg some (by kernel_rfl))
 t3 := Tryz.underlying3
 a3 := Tryz.isAgg3
 z3 := Tryz.sizeOf3
 v3 := Tryz.zeroValue3
 t4 := Tryz.underlying4
 a4 := Tryz.isAgg4
 z4 := Tryz.sizeOf4
 v4 := Tryz.zeroValue4
 t5 := Tryz.underlying5
 a5 := Tryz.isAgg5
 z5 := Tryz.sizeOf5
 v5 := Tryz.zeroValue5
 t9 := Tryz.underlying9
 a9 := Tryz.isAgg9
 z9 := Tryz.sizeOf9
 v9 := Tryz.zeroValue9
 t46 := Tryz.underlying134
 a46 := Tryz.isAgg134
 z46 := Tryz.sizeOf134
 v46 := Tryz.zeroValue134
 t51 := Tryz.underlying225
 a51 := Tryz.isAgg225
 z51 := Tryz.sizeOf225
 v51 := Tryz.zeroValue225
 t146 := Tryz.underlying236
 a146 := Tryz.isAgg236
 z146 := Tryz.sizeOf236
 v146 := Tryz.zeroValue236
 g1 := by kernel_rfl }
open Go.RowKit Go.Lib in
/-- strings.Contains: "Contains reports whether substr is within s.": AT A substr OF ONE BYTE c: IT RETURNS 'decide (0 ≤ Lib.indexByte s c)'; the world is as it was. (LAID: no walk: one application.) -/
theorem Tryz.strings_Contains_one (s : ByteArray) (c : UInt8) (w : World) :
    Calls Tryz.prog 266 #[.string s, .string ⟨#[c]⟩] w fun e w' => e = .returned (.bool (decide (0 ≤ Lib.indexByte s.data.toList c))) ∧ w' = w := Any.strings_Contains_one Tryz.lays144 s c w
def Tryz.lays138_ren : Go.Shelf.Ren := ⟨fun | 138 => 137 | 195 => 186 | 218 => 187 | 143 => 188 | 219 => 234 | 217 => 267 | 225 => 268 | 224 => 269 | 267 => 270 | 266 => 302 | 314 => 303 | n => n, fun | 9 => 9 | 3 => 3 | 4 => 4 | 5 => 5 | 0 => 0 | 46 => 134 | 146 => 236 | 51 => 225 | n => n, fun | 1 => 0 | n => n⟩
theorem Tryz.lays138 : Go.Proofs.Lays.n138 Tryz.prog Tryz.lays138_ren := {
 mixed := by kernel_rfl
 f138 := Tryz.func137.trans (congrArg some (by kernel_rfl))
 f143 := Tryz.func188.trans (congrArg some (by kernel_rfl))
 f195 := Tryz.func186.trans (congrArg some (by kernel_rfl))
 f217 := Tryz.func267.trans (congrArg some (by kernel_rfl))
 f218 := Tryz.func187.trans (congrArg some (by kernel_rfl))
 f219 := Tryz.func234.trans (congrArg some (by kernel_rfl))
 f224 := Tryz.func269.trans (congrArg some (by kernel_rfl))
 f225 := Tryz.func268.trans (congrArg some (by kernel_rfl))
 f266 := Tryz.func302.trans (congrArg some (by kernel_rfl))
 f267 := Tryz.func270.trans (congrArg some (by kernel_rfl))
 f314 := Tryz.func303.trans (congrArg some (by kernel_rfl))
 t0 := Tryz.underlying0
 a0 := Tryz.isAgg0
 z0 := Tryz.sizeOf0
 v0 := Tryz.zeroValue0
 t3 := Tryz.underlying3
 a3 := Tryz.isAgg3
 z3 := Tryz.sizeOf3
 v3 := Tryz.zeroValue3
 t4 := Tryz.underlying4
 a4 := Tryz.isAgg4
 z4 := Tryz.sizeOf4
 v4 := Tryz.zeroValue4
 t5 := Tryz.underlying5
 a5 := Tryz.isAgg5
 z5 := Tryz.sizeOf5
 v5 := Tryz.zeroValue5
 t9 := Tryz.underlying9
 a9 := Tryz.isAgg9
 z9 := Tryz.sizeOf9
 v9 := Tryz.zeroValue9
 t46 := Tryz.underlying134
 a46 := Tryz.isAgg134
 z46 := Tryz.sizeOf134
 v46 := Tryz.zeroValue134
 t51 := Tryz.underlying225
 a51 := Tryz.isAgg225
 z51 := Tryz.sizeOf225
 v51 := Tryz.zeroValue225
 t146 := Tryz.underlying236
 a146 := Tryz.isAgg236
 z146 := Tryz.sizeOf236
 v146 := Tryz.zeroValue236
 g1 := by kernel_rfl }
open Go.RowKit Go.Lib in
/-- strings.Count AT A substr OF ONE BYTE ('hp'): "Count counts the number of non-overlapping instances of substr in s.": IT RETURNS 'Lib.countByte s (that byte)'; the world is as it was. ✋ NO CONTRACT HERE YET at an empty substr (utf8.RuneCountInString) or at a longer one (a loop over strings.Index). (LAID: no walk: one application.) -/
theorem Tryz.strings_Count_one (s : ByteArray) (c : UInt8) (w : World) :
    Calls Tryz.prog 137 #[.string s, .string ⟨#[c]⟩] w fun e w' => e = .returned (.int .i64 (Lib.countByte s.data.toList c)) ∧ w' = w := Any.strings_Count_one Tryz.lays138 s c w
def Tryz.lays149_ren : Go.Shelf.Ren := ⟨fun | 149 => 138 | 222 => 189 | n => n, fun | 9 => 9 | 5 => 5 | 3 => 3 | 4 => 4 | n => n, fun | n => n⟩
theorem Tryz.lays149 : Go.Proofs.Lays.n149 Tryz.prog Tryz.lays149_ren := {
 mixed := by kernel_rfl
 f149 := Tryz.func138.trans (congrArg some (by kernel_rfl))
 f222 := Tryz.func189.trans (congrArg some (by kernel_rfl))
 t3 := Tryz.underlying3
 a3 := Tryz.isAgg3
 z3 := Tryz.sizeOf3
 v3 := Tryz.zeroValue3
 t4 := Tryz.underlying4
 a4 := Tryz.isAgg4
 z4 := Tryz.sizeOf4
 v4 := Tryz.zeroValue4
 t5 := Tryz.underlying5
 a5 := Tryz.isAgg5
 z5 := Tryz.sizeOf5
 v5 := Tryz.zeroValue5
 t9 := Tryz.underlying9
 a9 := Tryz.isAgg9
 z9 := Tryz.sizeOf9
 v9 := Tryz.zeroValue9 }
open Go.RowKit Go.Lib in
/-- strings.LastIndexByte: "LastIndexByte returns the index of the last instance of c in s, or -1 if c is not present in s." (LAID: no walk: one application.) -/
theorem Tryz.strings_LastIndexByte (s : ByteArray) (c : Int) (hs : s.size < 4611686018427387904) (w : World) :
    Calls Tryz.prog 138 #[.string s, .int .u8 c] w fun e w' => e = .returned (.int .i64 (Lib.lastIndexByte s c)) ∧ w' = w := Any.strings_LastIndexByte Tryz.lays149 s c hs w
def Tryz.lays206_ren : Go.Shelf.Ren := ⟨fun | 206 => 264 | n => n, fun | 9 => 9 | 4 => 4 | 3 => 3 | n => n, fun | n => n⟩
def Tryz.lays99_ren : Go.Shelf.Ren := ⟨fun | 99 => 229 | 206 => 264 | n => n, fun | 9 => 9 | 4 => 4 | 3 => 3 | n => n, fun | n => n⟩
theorem Tryz.lays99 : Go.Proofs.Lays.n99 Tryz.prog Tryz.lays99_ren := {
 mixed := by kernel_rfl
 f99 := Tryz.func229.trans (congrArg some (by kernel_rfl))
 f206 := Tryz.func264.trans (congrArg some (by kernel_rfl))
 t3 := Tryz.underlying3
 a3 := Tryz.isAgg3
 z3 := Tryz.sizeOf3
 v3 := Tryz.zeroValue3
 t4 := Tryz.underlying4
 a4 := Tryz.isAgg4
 z4 := Tryz.sizeOf4
 v4 := Tryz.zeroValue4
 t9 := Tryz.underlying9
 a9 := Tryz.isAgg9
 z9 := Tryz.sizeOf9
 v9 := Tryz.zeroValue9 }
open Go.RowKit Go.Lib in
/-- strings.HasPrefix: "HasPrefix reports whether the string s begins with prefix.": IT RETURNS 'Lib.hasPrefix s prefix'; the world is as it was. (LAID: no walk: one application.) -/
theorem Tryz.strings_HasPrefix (s p : ByteArray) (w : World) :
    Calls Tryz.prog 229 #[.string s, .string p] w fun e w' => e = .returned (.bool (Lib.hasPrefix s.data.toList p.data.toList)) ∧ w' = w := Any.strings_HasPrefix Tryz.lays99 s p w
def Tryz.lays107_ren : Go.Shelf.Ren := ⟨fun | 107 => 215 | 108 => 256 | n => n, fun | 28 => 44 | 3 => 3 | 4 => 4 | 0 => 0 | n => n, fun | n => n⟩
theorem Tryz.lays107 : Go.Proofs.Lays.n107 Tryz.prog Tryz.lays107_ren := {
 mixed := by kernel_rfl
 f107 := Tryz.func215.trans (congrArg some (by kernel_rfl))
 f108 := Tryz.func256.trans (congrArg some (by kernel_rfl))
 t0 := Tryz.underlying0
 a0 := Tryz.isAgg0
 z0 := Tryz.sizeOf0
 v0 := Tryz.zeroValue0
 t3 := Tryz.underlying3
 a3 := Tryz.isAgg3
 z3 := Tryz.sizeOf3
 v3 := Tryz.zeroValue3
 t4 := Tryz.underlying4
 a4 := Tryz.isAgg4
 z4 := Tryz.sizeOf4
 v4 := Tryz.zeroValue4
 t28 := Tryz.underlying44
 a28 := Tryz.isAgg44
 z28 := Tryz.sizeOf44
 v28 := Tryz.zeroValue44 }
open Go.Lib in
/-- slices.Contains at []int: "Contains reports whether v is present in s.": IT RETURNS 'elements.contains v'; the world is as it was. ITS CALLEE slices.Index IS MET BY ITS OWN CONTRACT OFF THE SHELF (lay that first): no loop is walked here. (LAID: no walk: one application.) -/
theorem Tryz.slices_Contains_int (b off n c : Nat) (zs : List Int) (x : Int) (w : World) (hz : n ≤ zs.length) (hbig : n ≤ 9223372036854775807) (hc : ∀ j, j < zs.length → w.cell? ⟨b, off + j, none⟩ = some (.int .i64 (zs.getD j 0))) :
    Calls Tryz.prog 215 #[.slice (some ⟨b, off, none⟩) n c, .int .i64 x] w fun e w' => e = .returned (.bool ((zs.take n).contains x)) ∧ w' = w := Any.slices_Contains_int Tryz.lays107 b off n c zs x w hz hbig hc
end Go.Proofs
namespace Go.Proofs.YtcbbokbgmalpgaaGreatDoor
open Go.RowKit
open Go.Lib (hid)
def inB (n a b : Int) : Bool := decide (a ≤ n ∧ n ≤ b)
theorem inB_yes {n a b : Int} (h : a ≤ n) (h' : n ≤ b) : inB n a b = true := decide_eq_true ⟨h, h'⟩
theorem inB_lo {n a b : Int} (h : ¬ a ≤ n) : inB n a b = false := decide_eq_false (fun g => h g.1)
theorem inB_hi {n a b : Int} (h : ¬ n ≤ b) : inB n a b = false := decide_eq_false (fun g => h g.2)
theorem l01In_b (a b c : Int) (w : World) : Calls Tryz.prog 106 #[.int .i64 a, .int .i64 b, .int .i64 c] w fun e w' => e = .returned (.bool (inB a b c)) ∧ w = w' := by
 by_cases h0 : b ≤ a
 ·by_cases h1 : a ≤ c
  ·rw [inB_yes h0 h1]
   go_enter Tryz.func106, Tryz.ntmps106
   go_wp2
   go_ret
   exact ⟨rfl, rfl⟩
  ·rw [inB_hi h1]
   go_enter Tryz.func106, Tryz.ntmps106
   go_wp2
   go_ret
   exact ⟨rfl, rfl⟩
 ·rw [inB_lo h0]
  go_enter Tryz.func106, Tryz.ntmps106
  go_wp2
  go_ret
  exact ⟨rfl, rfl⟩
theorem inRange_b (a b c : Int) (w : World) : Calls Tryz.prog 85 #[.int .i64 a, .int .i64 b, .int .i64 c] w fun e w' => e = .returned (.bool (inB a b c)) ∧ w = w' := by
 by_cases h0 : b ≤ a
 ·by_cases h1 : a ≤ c
  ·rw [inB_yes h0 h1]
   go_enter Tryz.func85, Tryz.ntmps85
   go_wp2
   go_ret
   exact ⟨rfl, rfl⟩
  ·rw [inB_hi h1]
   go_enter Tryz.func85, Tryz.ntmps85
   go_wp2
   go_ret
   exact ⟨rfl, rfl⟩
 ·rw [inB_lo h0]
  go_enter Tryz.func85, Tryz.ntmps85
  go_wp2
  go_ret
  exact ⟨rfl, rfl⟩
end Go.Proofs.YtcbbokbgmalpgaaGreatDoor

/-
  Put together by program (shake.py): Base, Mem, Open, LaidW, MemB, Mine, Ints, FamNode, NodeS, SignA, SignB, Shelf, Options, Lines.
-/
import Derived.WalkKit
import Derived.ProofKit
import Derived.OpenShut
import Derived.Below
import Derived.ChangeSame
import Derived.JoinedOf
import Derived.Lib.SmallJoins
import Derived.Lib.Hide
import Derived.WalkSmall
import Derived.Handy
import Derived.StillTailTactics
import Derived.Laws.OwnMore
import Derived.Deep.Draws
import Derived.Laws.Rows
import Derived.Deep.QuietTactic
import Derived.BigQuiet
import Derived.Laws.MakeOwn
import Derived.Test.YtgbikafalcbibaaGreatDoorChecked
import Derived.KernelRfl
import Derived.Deep.Slices
import Derived.Deep.Fields
import Derived.Test.YtgbikafalcbibaaGreatDoorRows
import Derived.Lay
import Derived.HandedShaped
import Derived.LaidMore
import Derived.MakeChecks
import Derived.LaidHandle
import Derived.Stop.LaidErr
import Derived.Shelf.Vars
import Derived.Laws.AppendOwn
import Derived.OwnWalk
import Derived.SliceStrings
import Derived.DataShut
import Derived.Outline
import Derived.Deep.Cut
import Derived.Shelf.Strings.Trim
import Derived.Shelf.Small.Utf8
import Derived.Shelf.Small.Strs
import Derived.Shelf.Small.Wraps
import Derived.Shelf.Strconv.Itoa0
import Derived.Shelf.Strconv.Itoa1
import Derived.Shelf.LaysM
import Derived.Shelf.Strconv.Itoa2
import Derived.Shelf.Strconv.Itoa3
import Derived.Shelf.Strings.Search1
import Derived.Shelf.Strings.Search2
import Derived.Shelf.Strings.Search3
import Derived.Shelf.Strings.Count
import Derived.Shelf.Strings.Shaped
import Derived.Shelf.Strings.LastIndex
import Derived.Shelf.Strings.Prefix
import Derived.Shelf.Strings.Split
import Derived.Shelf.Strings.SplitShaped
import Derived.Shelf.Unicode.Decode
import Derived.Shelf.Strings.Runes
import Derived.Shelf.Strings.RuneCount
import Derived.Shelf.Strings.AsciiSet
import Derived.Shelf.Strings.Explode
import Derived.Shelf.Unicode.DecodeSlow
import Derived.Shelf.Slices.Turned
import Derived.Ground.Names2Prog
import Derived.Shelf.Slices.SearchI
import Derived.Ground.PaProg
import Derived.Shelf.Path.Small
import Derived.Test.YtgbikafalcbibaaGreatDoorProg
import Derived.Lib.Bytealg
set_option maxRecDepth 100000
set_option maxHeartbeats 25600000
set_option linter.unusedVariables false
set_option linter.unusedSimpArgs false
open Go.Lib (hid)
open Go.Proofs.Tryz
namespace Go.Proofs.YtgbikafalcbibaaGreatDoor
open Go.RowKit Go.WideShapes Go.ChangeShapes
section
variable {H : Type} {enc : TypeId × Value → H} {P : Program}
theorem post_of_below {f : Func} {s : ChangeSpec} {apart fresh handsOn again : Bool} {W W' : World} {args : Array Value} {v : Value} {ds gs : List (DataW H)} {before pa pv : List MemPlace}
  (hW : DataW.Whole enc P f.params.toList s.vars apart W args.toList ds gs before)
  (hres : ∀ (b : Nat) (sp : Nat → Bool) (hd : Bool), DataW.TrodAll enc P W' b sp hd f.resultTypes.toList (v.resultList f.resultTypes.size) (s.fn H (ds ++ gs)).results [])
  (hargs : ∀ sp : Nat → Bool, (∀ p ∈ before, sp p.block = true) → DataW.TrodAll enc P W' 0 sp true f.params.toList args.toList (s.fn H (ds ++ gs)).args pa)
  (hvars : ∀ sp : Nat → Bool, (∀ p ∈ before, sp p.block = true) → DataW.TrodVars enc P W' sp s.vars (s.fn H (ds ++ gs)).vars pv)
  (hps : before = pa ++ pv) (hb : Below W.heap.size W W')
  (hok : ∀ (j : Nat) (t : TypeId) (r : Value), f.resultTypes[j]? = some t → (v.resultList f.resultTypes.size)[j]? = some r → Value.okWide P W' .any 0 t r) :
  s.post enc P f apart fresh handsOn again W args v W' := by
 have hlt : ∀ p ∈ before, p.block < W.heap.size := fun p hp => hW.lt p hp
 have hold : ∀ p ∈ before, (fun b => decide (b < W.heap.size)) p.block = true := fun p hp => by simpa using hlt p hp
 refine ⟨ds, gs, before, [], pa, pv, hW, hres _ _ _, hargs _ hold, hvars _ hold, World.keptBut_mono (fun p hp => ⟨hp, ?_⟩) (hb.frame (· ∈ before)), fun _ => ?_⟩
 ·rw [hps, List.mem_append] at hp
  exact Or.inr hp
 ·obtain ⟨_, _, _, _, _, hz, hn⟩ := hW
  refine ⟨hok, _, _, ([] ++ pa) ++ pv, ⟨[] ++ pa, pv, trodAll_append (hargs _ (fun _ _ => rfl)) (hres _ _ _), hvars _ (fun _ _ => rfl), rfl, ?_, ?_⟩, ?_⟩
  ·intro b off hp
   have hin : MemPlace.cell b off ∈ before := by rw [hps]; simpa using hp
   rw [hb.frozen (hlt _ hin)]
   exact hz b off hin
  ·intro ha
   have := hn ha
   rw [hps] at this
   simpa using this
  ·intro p hp _
   rw [hps]
   simpa using hp
end
theorem bcell {W w1 : World} (hb : Below W.heap.size W w1) : (∀ b o, b < W.heap.size → w1.cell? ⟨b, o, none⟩ = W.cell? ⟨b, o, none⟩) ∧ (∀ b o, b < W.heap.size → w1.frozen? ⟨b, o, none⟩ = W.frozen? ⟨b, o, none⟩) :=
 ⟨fun b o h => hb.cell (p := ⟨b, o, none⟩) h, fun b o h => hb.frozen (p := ⟨b, o, none⟩) h⟩
theorem below_box {w w1 : World} {o : Obj} (hb : Below (w.alloc o).heap.size (w.alloc o) w1) : Below w.heap.size w w1 :=
 ((Below.refl _ _).alloc (Nat.le_refl _) o).trans (hb.mono (by simp))
theorem below_next {W w1 w2 : World} (h1 : Below W.heap.size W w1) (h2 : Below w1.heap.size w1 w2) : Below W.heap.size W w2 := h1.trans (h2.mono h1.size)
theorem ret_bool {a b : Bool} (h : a = b) : Ending.returned (.bool a) = .returned (.bool b) := by rw [h]
theorem ret_int {k : IntKind} {a b : Int} (h : a = b) : Ending.returned (.int k a) = .returned (.int k b) := by rw [h]
theorem ret_str {a b : ByteArray} (h : a = b) : Ending.returned (.string a) = .returned (.string b) := by rw [h]
def Blk (w : World) (g : Nat) (t : TypeId) (cs : Array Value) : Prop := w.heap[g]? = some (.cells cs t (0, 0))
section
variable {w w' : World} {g : Nat} {t : TypeId} {cs : Array Value}
theorem Blk.lt (h : Blk w g t cs) : g < w.heap.size := by
 rcases Nat.lt_or_ge g w.heap.size with hlt | hge
 ·exact hlt
 ·unfold Blk at h; rw [Array.getElem?_eq_none hge] at h; cases h
theorem Blk.cell (h : Blk w g t cs) (i : Nat) : w.cell? ⟨g, i, none⟩ = cs[i]? := cell_of_row w g i cs t (0, 0) h
theorem Blk.frozen (h : Blk w g t cs) (i : Nat) : w.frozen? ⟨g, i, none⟩ = false := by
 unfold Blk at h
 simp [World.frozen?, h]
theorem Blk.new (w : World) (t : TypeId) (cs : Array Value) : Blk (w.alloc (.cells cs t)) w.heap.size t cs := heap_alloc_new w _
theorem Blk.drew (h : Blk w g t cs) : Blk w.drew g t cs := h
theorem Blk.drewN (h : Blk w g t cs) (n : Nat) : Blk (w.drewN n) g t cs := h
theorem Blk.alloc (h : Blk w g t cs) (o : Obj) : Blk (w.alloc o) g t cs := (Below.heap_alloc w o g h.lt).trans h
theorem Blk.set_ (h : Blk w g t cs) (i : Nat) (u : Value) : Blk (w.setCell ⟨g, i, none⟩ u) g t (cs.setIfInBounds i u) := by
 unfold Blk at h ⊢
 simp [World.setCell, Array.getElem?_modify, h]
theorem Blk.far (h : Blk w g t cs) {p : Addr} (hp : g ≠ p.block) (u : Value) : Blk (w.setCell p u) g t cs := (Below.heap_setCell w p u g hp).trans h
theorem Blk.below {B : Nat} (h : Blk w g t cs) (hb : Below B w w') (hg : g < B) : Blk w' g t cs := (hb.block g hg).trans h
theorem Blk.grown {row : Option Nat} (h : Blk w g t cs) (hb : w.grownBy w' row) (hg : some g ≠ row) : Blk w' g t cs := (hb.block g h.lt hg).trans h
variable {w2 : World} {o o' : Obj}
theorem Blk.fresh (h : Below (w.alloc (.cells cs t)).heap.size (w.alloc (.cells cs t)) w2) : Blk w2 w.heap.size t cs := (Blk.new w t cs).below h (Blk.new w t cs).lt
theorem Blk.next (k : Blk w g t cs) (h : Below w.heap.size w w2) : Blk w2 g t cs := k.below h k.lt
theorem Blk.next1 (k : Blk w g t cs) (h : Below (w.alloc o).heap.size (w.alloc o) w2) : Blk w2 g t cs := (k.alloc o).next h
theorem Blk.next2 (k : Blk w g t cs) (h : Below ((w.alloc o).alloc o').heap.size ((w.alloc o).alloc o') w2) : Blk w2 g t cs := ((k.alloc o).alloc o').next h
theorem below_next1 {W : World} (h1 : Below W.heap.size W w) (h2 : Below (w.alloc o).heap.size (w.alloc o) w2) : Below W.heap.size W w2 := below_next (h1.alloc h1.size o) h2
theorem below_next2 {W : World} (h1 : Below W.heap.size W w) (h2 : Below ((w.alloc o).alloc o').heap.size ((w.alloc o).alloc o') w2) : Below W.heap.size W w2 := below_next1 (h1.alloc h1.size o) h2
end
theorem bft (b : Bool) : b = true ∨ b = false := Bool.eq_false_or_eq_true b
theorem gE {α : Type _} {l : List α} {i : Nat} (h : i < l.length) : l[i]? = some l[i] := List.getElem?_eq_getElem h
theorem lA {α : Type _} {a b : List α} : (a ++ b).length = a.length + b.length := List.length_append
theorem Blk.q0 {w : World} {g : Nat} {t : TypeId} {a : Value} {cs : List Value} (h : Blk w g t (a :: cs).toArray) : w.cell? ⟨g, 0, none⟩ = some a := h.cell 0
theorem Blk.q1 {w : World} {g : Nat} {t : TypeId} {x0 a : Value} {cs : List Value} (h : Blk w g t (x0 :: a :: cs).toArray) : w.cell? ⟨g, 1, none⟩ = some a := h.cell 1
theorem Blk.q2 {w : World} {g : Nat} {t : TypeId} {x0 x1 a : Value} {cs : List Value} (h : Blk w g t (x0 :: x1 :: a :: cs).toArray) : w.cell? ⟨g, 2, none⟩ = some a := h.cell 2
theorem Blk.q3 {w : World} {g : Nat} {t : TypeId} {x0 x1 x2 a : Value} {cs : List Value} (h : Blk w g t (x0 :: x1 :: x2 :: a :: cs).toArray) : w.cell? ⟨g, 3, none⟩ = some a := h.cell 3
theorem Blk.q4 {w : World} {g : Nat} {t : TypeId} {x0 x1 x2 x3 a : Value} {cs : List Value} (h : Blk w g t (x0 :: x1 :: x2 :: x3 :: a :: cs).toArray) : w.cell? ⟨g, 4, none⟩ = some a := h.cell 4
theorem Blk.q5 {w : World} {g : Nat} {t : TypeId} {x0 x1 x2 x3 x4 a : Value} {cs : List Value} (h : Blk w g t (x0 :: x1 :: x2 :: x3 :: x4 :: a :: cs).toArray) : w.cell? ⟨g, 5, none⟩ = some a := h.cell 5
theorem Blk.q6 {w : World} {g : Nat} {t : TypeId} {x0 x1 x2 x3 x4 x5 a : Value} {cs : List Value} (h : Blk w g t (x0 :: x1 :: x2 :: x3 :: x4 :: x5 :: a :: cs).toArray) : w.cell? ⟨g, 6, none⟩ = some a := h.cell 6
theorem Blk.q7 {w : World} {g : Nat} {t : TypeId} {x0 x1 x2 x3 x4 x5 x6 a : Value} {cs : List Value} (h : Blk w g t (x0 :: x1 :: x2 :: x3 :: x4 :: x5 :: x6 :: a :: cs).toArray) : w.cell? ⟨g, 7, none⟩ = some a := h.cell 7
theorem grow_ {B : Nat} {w w' : World} (h : Below B w w' := by repeat' (first | (with_reducible exact Below.refl _ _) | (with_reducible assumption) | (with_reducible refine below_drewN ?_ _) | (with_reducible refine Below.drew ?_) | (with_reducible refine Below.alloc ?_ ?_ _) | (with_reducible refine Below.setCell ?_ ?_ _) | go_size)) : Below B w w' := h
def Rd (w : World) (size : Nat) (A : Option Addr) (n : Nat) (xs : List Value) : Prop :=
 xs.length = n * size ∧ (0 < n → ∃ b off, A = some ⟨b, off, none⟩ ∧ b < w.heap.size ∧ ∀ j u, xs[j]? = some u → w.cell? ⟨b, off + j, none⟩ = some u)
section
variable {w w' : World} {size n : Nat} {A : Option Addr} {xs : List Value}
theorem Rd.none_ (w : World) (size : Nat) (A : Option Addr) : Rd w size A 0 [] := ⟨by simp, fun h => absurd h (by omega)⟩
theorem Rd.keep (h : Rd w size A n xs) (hz : w.heap.size ≤ w'.heap.size) (hk : ∀ b o, b < w.heap.size → w'.cell? ⟨b, o, none⟩ = w.cell? ⟨b, o, none⟩) : Rd w' size A n xs :=
 ⟨h.1, fun hne => by
  obtain ⟨b, off, e, hb, hc⟩ := h.2 hne
  exact ⟨b, off, e, by omega, fun j u hj => (hk b _ hb).trans (hc j u hj)⟩⟩
theorem Rd.below (h : Rd w size A n xs) (hb : Below w.heap.size w w') : Rd w' size A n xs := h.keep hb.size (bcell hb).1
theorem Rd.next (h : Rd w size A n xs) (hb : Below w.heap.size w w') : Rd w' size A n xs := h.below hb
theorem Rd.alloc (h : Rd w size A n xs) (o : Obj) : Rd (w.alloc o) size A n xs := h.below ((Below.refl _ _).alloc (Nat.le_refl _) o)
theorem Rd.next1 {o : Obj} (h : Rd w size A n xs) (hb : Below (w.alloc o).heap.size (w.alloc o) w') : Rd w' size A n xs := (h.alloc o).next hb
theorem Rd.next2 {o o' : Obj} (h : Rd w size A n xs) (hb : Below ((w.alloc o).alloc o').heap.size ((w.alloc o).alloc o') w') : Rd w' size A n xs := ((h.alloc o).alloc o').next hb
theorem Rd.drewN (h : Rd w size A n xs) (k : Nat) : Rd (w.drewN k) size A n xs := h
theorem Rd.drew (h : Rd w size A n xs) : Rd w.drew size A n xs := h
theorem Rd.at_ (h : Rd w size A n xs) (hk : 0 < n) : ∃ b off, A = some ⟨b, off, none⟩ ∧ b < w.heap.size ∧ ∀ j u, xs[j]? = some u → w.cell? ⟨b, off + j, none⟩ = some u := h.2 hk
end
theorem flat_len {α : Type} (f : α → List Value) {size : Nat} (hf : ∀ d, (f d).length = size) (l : List α) : (l.flatMap f).length = l.length * size := by
 induction l with
 | nil => simp
 | cons d l ih => simp only [List.flatMap_cons, lA, List.length_cons, ih, hf, Nat.add_mul]; omega
theorem flat_get {α : Type} (f : α → List Value) {size : Nat} (hf : ∀ d, (f d).length = size) : ∀ {l : List α} {i : Nat} {d : α}, l[i]? = some d → ∀ {j : Nat} {v : Value}, (f d)[j]? = some v → (l.flatMap f)[i * size + j]? = some v := by
 intro l
 induction l with
 | nil => intro i d h; simp at h
 | cons x l ih =>
  intro i d h j v hj
  cases i with
  | zero =>
   simp at h; subst h
   have hlt : j < (f x).length := (List.getElem?_eq_some_iff.1 hj).1
   simp only [List.flatMap_cons, Nat.zero_mul, Nat.zero_add]
   rw [List.getElem?_append_left hlt]; exact hj
  | succ i =>
   simp at h
   simp only [List.flatMap_cons]
   rw [List.getElem?_append_right (by rw [hf, Nat.add_mul]; omega)]
   rw [hf, show (i + 1) * size + j - size = i * size + j from by rw [Nat.add_mul]; omega]
   exact ih h hj
theorem block_of_cell {w : World} {b o : Nat} {v : Value} (h : w.cell? ⟨b, o, none⟩ = some v) : b < w.heap.size := by
 rcases Nat.lt_or_ge b w.heap.size with hl | hl
 ·exact hl
 ·exfalso
  have h2 : w.heap[b]? = none := Array.getElem?_eq_none hl
  simp [World.cell?, h2] at h
def Own (w : World) (g : Nat) (t : TypeId) (cap : Nat) (xs : List Value) : Prop :=
 ∃ rest : List Value, Blk w g t (xs ++ rest).toArray ∧ (xs ++ rest).length = cap
section
variable {w w' : World} {g : Nat} {t : TypeId} {cap : Nat} {xs : List Value} {o : Obj}
theorem Own.lt (h : Own w g t cap xs) : g < w.heap.size := by obtain ⟨cs, hb, _⟩ := h; exact hb.lt
theorem Own.next (h : Own w g t cap xs) (hb : Below w.heap.size w w') : Own w' g t cap xs := by
 obtain ⟨cs, hb', h'⟩ := h; exact ⟨cs, hb'.next hb, h'⟩
theorem Own.next1 (h : Own w g t cap xs) (hb : Below (w.alloc o).heap.size (w.alloc o) w') : Own w' g t cap xs := by
 obtain ⟨cs, hb', h'⟩ := h; exact ⟨cs, hb'.next1 hb, h'⟩
theorem Own.drewN (h : Own w g t cap xs) (k : Nat) : Own (w.drewN k) g t cap xs := h
theorem Own.drew (h : Own w g t cap xs) : Own w.drew g t cap xs := h
theorem Own.there (h : Own w g t cap xs) {i : Nat} (hi : i < cap) : ∃ v, w.cell? ⟨g, i, none⟩ = some v := by
 obtain ⟨rest, hb, hs⟩ := h
 exact ⟨(xs ++ rest)[i]'(by omega), by rw [hb.cell]; simp⟩
theorem Own.frozen (h : Own w g t cap xs) (i : Nat) : w.frozen? ⟨g, i, none⟩ = false := by obtain ⟨cs, hb, _⟩ := h; exact hb.frozen i
theorem Own.push (h : Own w g t cap xs) (hk : xs.length < cap) {i : Nat} (hi : i = xs.length) (u : Value) : Own (w.setCell ⟨g, i, none⟩ u) g t cap (xs ++ [u]) := by
 subst hi
 obtain ⟨rest, hb, hs⟩ := h
 match rest, hb, hs with
 | [], _, hs => simp at hs; omega
 | r :: rest, hb, hs =>
  refine ⟨rest, ?_, by simpa using hs⟩
  have h2 := hb.set_ xs.length u
  have e : ((xs ++ r :: rest).toArray).setIfInBounds xs.length u = ((xs ++ [u]) ++ rest).toArray := by
   simp
  rwa [e] at h2
theorem Own.rd {size n : Nat} (h : Own w g t cap xs) (hl : xs.length = n * size) : Rd w size (some ⟨g, 0, none⟩) n xs := ⟨hl, fun _ => by
 obtain ⟨rest, hb, hs⟩ := h
 refine ⟨g, 0, rfl, hb.lt, fun j u hj => ?_⟩
 rw [hb.cell, Nat.zero_add]
 have hlt : j < xs.length := (List.getElem?_eq_some_iff.1 hj).1
 simpa [List.getElem?_append_left hlt] using hj⟩
end
theorem Rd.fresh {size n : Nat} (w : World) (t : TypeId) (xs : List Value) (hl : xs.length = n * size) : Rd (w.alloc (.cells xs.toArray t)) size (some ⟨w.heap.size, 0, none⟩) n xs :=
 ⟨hl, fun _ => ⟨w.heap.size, 0, rfl, (Blk.new w t xs.toArray).lt, fun j u hj => by rw [(Blk.new w t xs.toArray).cell, Nat.zero_add]; simpa using hj⟩⟩
theorem Own.alloc {w : World} {g : Nat} {t : TypeId} {cap : Nat} {xs : List Value} (h : Own w g t cap xs) (o : Obj) : Own (w.alloc o) g t cap xs := by
 obtain ⟨rest, hb, hs⟩ := h; exact ⟨rest, hb.alloc o, hs⟩
theorem Own.far {w : World} {g : Nat} {t : TypeId} {cap : Nat} {xs : List Value} (h : Own w g t cap xs) {p : Addr} (hp : g ≠ p.block) (u : Value) : Own (w.setCell p u) g t cap xs := by
 obtain ⟨rest, hb, hs⟩ := h; exact ⟨rest, hb.far hp u, hs⟩
theorem str_ne {x t : ByteArray} (h : x ≠ t) : (x.toList == t.toList) = false := by
 rw [beq_eq_false_iff_ne]
 intro e
 rw [ByteArray.toList_eq, ByteArray.toList_eq] at e
 exact h (Go.WideShapes.bytes_inj e)
theorem run_make_rowN {P : Program} (t e : TypeId) (i : TypeInfo) (z : Value) (ht : P.underlying t = some (.slice e)) (hi : P.info? e = some i) (hz : i.zero = some z)
  (kl kc : IntKind) (n c : Nat) (hnc : n ≤ c) (hbytes : i.bytes * c ≤ 281474976710656) (h63 : c ≤ 9223372036854775807) (w : World) :
  (Instr.makeSlice t (.int kl (n : Int)) (.int kc (c : Int))).run P w = .ok (.slice (some ⟨w.heap.size, 0, none⟩) n c) (w.alloc (.cells (madeCells z.cells (c * i.size)) e)) := by
 have hb : (i.bytes : Int) * (c : Int) ≤ 281474976710656 := by
  have h : ((i.bytes * c : Nat) : Int) ≤ 281474976710656 := by omega
  rwa [Int.natCast_mul] at h
 have hr := run_make (P := P) w t e i z ht hi hz kl kc n c (by omega) (by omega) hb (by omega)
 simp only [Int.toNat_natCast] at hr
 exact hr
theorem Own.made {w : World} {e : TypeId} {cs : Array Value} {cap : Nat} (h : cs.size = cap) : Own (w.alloc (.cells cs e)) w.heap.size e cap [] :=
 ⟨cs.toList, by simpa using Blk.new w e cs, by simpa using h⟩
open Go.RowKit Go.WideShapes Go.ChangeShapes Go.Joins Go.Deep
section
variable {H : Type} {enc : TypeId × Value → H} {P : Program}
theorem trodAll_stays (hl : laidOutB P = true) {W W' : World} {sp' : Nat → Bool} : ∀ {ts : List TypeId} {vs : List Value} {ds : List (DataW H)} {ps : List MemPlace},
  ts.all (fun t => P.readableRec t && decide (t < P.types.size)) = true → DataW.TrodAll enc P W 0 (fun _ => true) true ts vs ds ps →
  (∀ x ∈ ps, W.sameAt W' x) → (∀ x ∈ ps, sp' x.block = true) → DataW.TrodAll enc P W' 0 sp' true ts vs ds ps
 | [], _, _, _, _, h, _, _ => by
  obtain ⟨rfl, rfl, rfl⟩ := trodAll_nil h
  exact trodAll_mk0
 | t :: ts, _, _, _, hr, h, hs, hp => by
  obtain ⟨v, vs', d, ds', p, q, rfl, rfl, rfl, h1, h2⟩ := trodAll_cons h
  simp only [List.all_cons, Bool.and_eq_true, decide_eq_true_eq] at hr
  exact trodAll_cons_mk (WideElems.Trod_stays hl hr.1.1 hr.1.2 h1 (fun x hx => hs x (List.mem_append.2 (.inl hx))) (fun x hx => hp x (List.mem_append.2 (.inl hx))))
   (trodAll_stays hl hr.2 h2 (fun x hx => hs x (List.mem_append.2 (.inr hx))) (fun x hx => hp x (List.mem_append.2 (.inr hx))))
end
section
variable {H : Type} {enc : TypeId × Value → H} {P : Program} {w : World} {base : Nat} {spare : Nat → Bool} {held : Bool}
end
section
variable {H : Type} {enc : TypeId × Value → H} {W : World} {base : Nat} {v : Value} {d : DataW H} {p : List MemPlace} {sp : Nat → Bool} {hd : Bool}
end
open Go.ChangeShapes Go.WideShapes Go.ChangeAt Go.RowKit
theorem retAndShaped {H : Type} {enc : TypeId × Value → H} {a : Assume} {C : Checked} {os : Os} {f : FuncId} {fn : Func} {s : ChangeSpec} {conds : List PathCond} {apart fresh handsOn again : Bool} {X : World → Array Value → Prop}
  (hX : ∀ (w w' : World) (args : Array Value), w.heap = w'.heap → X w args → X w' args)
  (own : ownKnob C.prog.godebug = none) (started : os.Started) (noInit : C.prog.inits.idxOf? f = none) (hfn : C.prog.funcs[f]? = some fn)
  (witness : ∃ (w : World) (tape : Tape) (i : Input), w.os = os ∧ (w.forCall tape i).Shaped C.prog ∧ i.vars = [] ∧ Input.okWide C.prog (w.forCall tape i) .any w.heap.size f i ∧
   ((s.pre enc C.prog fn conds apart (w.forCall tape i).memory i.args ∧ X (w.forCall tape i).memory i.args) ∧ sizedMet enc C.prog fn (OpenSpec.ofChange s) apart (w.forCall tape i).memory i.args) ∧ a.holds C.prog (lone (Frame.enter C.prog f i.args .normal) [] (w.forCall tape i)))
  (contract : ∀ (W : World) (base : Nat) (args : Array Value) (ds gs : List (DataW H)) (before : List MemPlace),
   (∀ (j : Nat) t v, fn.params[j]? = some t → args[j]? = some v → Value.okWide C.prog W .any base t v) →
   DataW.Whole enc C.prog fn.params.toList s.vars apart W args.toList ds gs before →
   conds.all (PathCond.test C.prog ⟨fn.params.toList, ds, s.plain.varTypes C.prog, gs⟩) = true →
   (DataW.weightsEach C.prog (fn.params.toList ++ s.plain.varTypes C.prog) (ds ++ gs)).all (· ≤ reachBytes) = true → X W args → W.ShapedOpen C.prog →
   a.holds C.prog (lone (Frame.enter C.prog f args .normal) [] W) →
   Calls C.prog f args W fun e W' => ∃ v, e = .returned v ∧ s.post enc C.prog fn apart fresh handsOn again W args v W') :
  ReturnsInHanded a C os f .any (fun w args => (s.pre enc C.prog fn conds apart w args ∧ X w args) ∧ sizedMet enc C.prog fn (OpenSpec.ofChange s) apart w args) (s.post enc C.prog fn apart fresh handsOn again) := by
 refine returnsInHanded_of_calls own started noInit witness ?_
 intro w tape i _ hsh _ hok hpre hholds
 obtain ⟨_, _, _, fn', hfn', _, _, _, _, hval⟩ := hok
 have e : fn' = fn := Option.some.inj (hfn'.symm.trans hfn)
 subst e
 obtain ⟨⟨⟨ds, gs, before, hw, hc⟩, hx⟩, hz⟩ := hpre
 have hw' := DataW.Whole.of_heap (w' := w.forCall tape i) (by rfl) hw
 refine (contract (w.forCall tape i) w.heap.size i.args ds gs before hval hw' hc (hz.weights hw) (hX _ _ _ (by rfl) hx) hsh hholds).mono fun e W' ⟨v, he, hp⟩ => ?_
 subst he
 exact ChangeSpec.post_blind hp
theorem Rd.grown {w w' : World} {size n g : Nat} {A : Option Addr} {xs : List Value} (h : Rd w size A n xs) (hg : w.grownBy w' (some g)) (hne : 0 < n → ∀ b off, A = some ⟨b, off, none⟩ → b ≠ g) : Rd w' size A n xs :=
 ⟨h.1, fun hn => by
  obtain ⟨b, off, e, hb, hc⟩ := h.2 hn
  exact ⟨b, off, e, Nat.lt_of_lt_of_le hb hg.size, fun j u hj => (World.cell?_of_block (a := ⟨b, off + j, none⟩) (hg.block b hb (fun q => hne hn b off e (Option.some.inj q)))).trans (hc j u hj)⟩⟩
theorem ba_ext {x y : ByteArray} (h : x.data.toList = y.data.toList) : x = y := by
 apply ByteArray.ext
 exact Array.toList_inj.1 h
theorem ba_app (x y : ByteArray) : (x ++ y).data.toList = x.data.toList ++ y.data.toList := by rw [ByteArray.data_append]; simp
theorem ba_len (x : ByteArray) : x.data.toList.length = x.size := by rw [Array.length_toList]; rfl
def strCells (l : List ByteArray) : List Value := l.map Value.string
def Mine (w : World) (B : Nat) (e : TypeId) (s : Nat) (A : Option Addr) (n c : Nat) (xs : List Value) : Prop := w.ownsRow B e s (.slice A n c) n xs
section
variable {w w' w2 : World} {B : Nat} {e : TypeId} {s : Nat} {A : Option Addr} {n c : Nat} {xs : List Value} {o o' o'' : Obj}
theorem Mine.of {v : Value} (h : w.ownsRow B e s v n xs) : ∃ A c, v = .slice A n c ∧ Mine w B e s A n c xs := by
 obtain ⟨h1, h2⟩ := h
 rcases h2 with ⟨rfl, rfl⟩ | ⟨g, cap, cur, rfl, r⟩
 ·exact ⟨none, 0, rfl, h1, .inl ⟨rfl, rfl⟩⟩
 ·exact ⟨_, cap, rfl, h1, .inr ⟨g, cap, cur, rfl, r⟩⟩
theorem Mine.len (h : Mine w B e s A n c xs) : xs.length = n * s := h.1
theorem Mine.own (h : Mine w B e s A n c xs) : (A = none ∧ n = 0 ∧ c = 0) ∨ ∃ g, A = some ⟨g, 0, none⟩ ∧ B ≤ g ∧ n ≤ c ∧ c ≤ maxLen ∧ Own w g e (c * s) xs := by
 obtain ⟨h1, h2⟩ := h
 rcases h2 with ⟨h2, h3⟩ | ⟨g, cap, cur, hv, hg, hh, hn, hc, hsz, ht⟩
 ·injection h2 with a b d
  exact .inl ⟨a, h3, d⟩
 ·injection hv with a b d
  subst a; subst d
  refine .inr ⟨g, rfl, hg, hn, hc, cur.toList.drop (n * s), ?_, ?_⟩
  ·have e1 : (xs ++ cur.toList.drop (n * s)).toArray = cur := by rw [← ht, List.take_append_drop]
   rw [e1]; exact hh
  ·rw [← ht, List.take_append_drop]; simpa using hsz
theorem Mine.mk_own {g : Nat} (h : Own w g e (c * s) xs) (hl : xs.length = n * s) (hg : B ≤ g) (hn : n ≤ c) (hc : c ≤ maxLen) : Mine w B e s (some ⟨g, 0, none⟩) n c xs := by
 obtain ⟨rest, hb, hs⟩ := h
 refine ⟨hl, .inr ⟨g, c, _, rfl, hg, hb, hn, hc, by simpa using hs, ?_⟩⟩
 rw [← hl]; simp
theorem Mine.mk_nil (w : World) (B : Nat) (e : TypeId) (s : Nat) : Mine w B e s none 0 0 [] := ⟨by simp, .inl ⟨rfl, rfl⟩⟩
theorem Mine.rd (h : Mine w B e s A n c xs) : Rd w s A n xs := by
 rcases h.own with ⟨rfl, rfl, _⟩ | ⟨g, rfl, _, _, _, ho⟩
 ·have : xs = [] := List.eq_nil_of_length_eq_zero (by simpa using h.len)
  subst this; exact Rd.none_ _ _ _
 ·exact ho.rd h.len
theorem Mine.grown {row : Option Nat} (h : Mine w B e s A n c xs) (hg : w.grownBy w' row) (hne : ∀ g, row = some g → g < B ∨ A.map (·.block) ≠ some g) : Mine w' B e s A n c xs := by
 have hl := h.len
 rcases h.own with ⟨rfl, rfl, rfl⟩ | ⟨g, rfl, hB, hn, hc, rest, hb, hs⟩
 ·exact ⟨hl, .inl ⟨rfl, rfl⟩⟩
 ·refine Mine.mk_own ⟨rest, hb.grown hg (fun q => ?_), hs⟩ hl hB hn hc
  rcases hne g q.symm with h1 | h1
  ·omega
  ·exact h1 rfl
theorem Mine.next (h : Mine w B e s A n c xs) (hb : Below w.heap.size w w') : Mine w' B e s A n c xs := by
 have hl := h.len
 rcases h.own with ⟨rfl, rfl, rfl⟩ | ⟨g, rfl, hB, hn, hc, ho⟩
 ·exact ⟨hl, .inl ⟨rfl, rfl⟩⟩
 ·exact Mine.mk_own (ho.next hb) hl hB hn hc
theorem Mine.alloc (h : Mine w B e s A n c xs) (o : Obj) : Mine (w.alloc o) B e s A n c xs := h.next ((Below.refl _ _).alloc (Nat.le_refl _) o)
theorem Mine.next1 (h : Mine w B e s A n c xs) (hb : Below (w.alloc o).heap.size (w.alloc o) w2) : Mine w2 B e s A n c xs := (h.alloc o).next hb
theorem Mine.next2 (h : Mine w B e s A n c xs) (hb : Below ((w.alloc o).alloc o').heap.size ((w.alloc o).alloc o') w2) : Mine w2 B e s A n c xs := ((h.alloc o).alloc o').next hb
theorem Mine.drewN (h : Mine w B e s A n c xs) (k : Nat) : Mine (w.drewN k) B e s A n c xs := h
theorem Mine.drew (h : Mine w B e s A n c xs) : Mine w.drew B e s A n c xs := h
theorem Mine.more (h : Mine w B e s A n c xs) {B' : Nat} (hB : B' ≤ B) : Mine w B' e s A n c xs := by
 have hl := h.len
 rcases h.own with ⟨rfl, rfl, rfl⟩ | ⟨g, rfl, hg, hn, hc, ho⟩
 ·exact ⟨hl, .inl ⟨rfl, rfl⟩⟩
 ·exact Mine.mk_own ho hl (by omega) hn hc
theorem own_empty (w : World) (e : TypeId) (s : Nat) : (w.alloc (.cells #[] e)).ownsRow w.heap.size e s (.slice (some ⟨w.heap.size, 0, none⟩) 0 0) 0 [] :=
 ⟨by simp, .inr ⟨w.heap.size, 0, #[], rfl, Nat.le_refl _, heap_alloc_new w _, Nat.le_refl _, Nat.zero_le _, by simp, by simp⟩⟩
theorem Mine.blk (h : Mine w B e s A n c xs) {g : Nat} (hg : A.map (·.block) = some g) : B ≤ g ∧ g < w.heap.size := by
 rcases h.own with ⟨rfl, _⟩ | ⟨g', rfl, hB, _, _, ho⟩
 ·simp at hg
 ·simp at hg; subst hg; exact ⟨hB, ho.lt⟩
theorem Rd.lt {size : Nat} (h : Rd w size A n xs) (hn : 0 < n) : ∀ b off, A = some ⟨b, off, none⟩ → b < w.heap.size := fun b off e => by
 obtain ⟨b', off', e', hb, _⟩ := h.2 hn
 rw [e] at e'
 injection e' with e'
 injection e' with e1
 omega
theorem Rd.turned {size : Nat} {row : Option Nat} (h : Rd w size A n xs) (hg : w.grownBy w' row) (hne : 0 < n → ∀ g, row = some g → ∀ b off, A = some ⟨b, off, none⟩ → b ≠ g) : Rd w' size A n xs :=
 ⟨h.1, fun hn => by
  obtain ⟨b, off, e, hb, hc⟩ := h.2 hn
  refine ⟨b, off, e, Nat.lt_of_lt_of_le hb hg.size, fun j u hj => (World.cell?_of_block (a := ⟨b, off + j, none⟩) (hg.block b hb (fun q => ?_))).trans (hc j u hj)⟩
  exact hne hn b q.symm b off e rfl⟩
theorem Blk.turned {g : Nat} {t : TypeId} {cs : Array Value} {row : Option Nat} (h : Blk w g t cs) (hb : w.grownBy w' row) (hg : ∀ q, row = some q → g ≠ q) : Blk w' g t cs :=
 h.grown hb (fun q => hg g q.symm rfl)
theorem Own.grown {g cap : Nat} {t : TypeId} {row : Option Nat} (h : Own w g t cap xs) (hb : w.grownBy w' row) (hg : ∀ q, row = some q → g ≠ q) : Own w' g t cap xs := by
 obtain ⟨rest, h1, h2⟩ := h; exact ⟨rest, h1.turned hb hg, h2⟩
theorem below_turned {W : World} {row : Option Nat} (h : Below W.heap.size W w) (hg : w.grownBy w' row) (hr : ∀ g, row = some g → W.heap.size ≤ g) : Below W.heap.size W w' :=
 h.grown hg h.size hr
end
theorem Mine.apart {w : World} {B B' : Nat} {e e' : TypeId} {s s' : Nat} {A A' : Option Addr} {n c n' c' : Nat} {xs xs' : List Value} (h : Mine w B e s A n c xs) (h' : Mine w B' e' s' A' n' c' xs') (hne : e ≠ e') {g : Nat} (hg : A'.map (·.block) = some g) : A.map (·.block) ≠ some g := by
 intro h2
 rcases h.own with ⟨rfl, _⟩ | ⟨a, rfl, _, _, _, r, hb, _⟩
 ·simp at h2
 ·rcases h'.own with ⟨rfl, _⟩ | ⟨a', rfl, _, _, _, r', hb', _⟩
  ·simp at hg
  ·simp at h2 hg
   subst h2; subst hg
   have := hb.symm.trans hb'
   injection this with this
   injection this with _ this
   exact hne this
theorem ownBlk (A : Option Addr) (n c : Nat) : (Value.slice A n c).ownBlock = A.map (·.block) := by cases A <;> rfl
theorem str_at {w : World} {A : Option Addr} {n k : Nat} {l : List ByteArray} {x : ByteArray} (h : Rd w 1 A n (strCells l)) (hk : k < n) (hd : l[k]? = some x) :
  ∃ b off, A = some ⟨b, off, none⟩ ∧ b < w.heap.size ∧ w.cell? ⟨b, off + k, none⟩ = some (.string x) := by
 obtain ⟨b, off, e, hb, hc⟩ := h.at_ (by omega)
 exact ⟨b, off, e, hb, hc k _ (by unfold strCells; rw [List.getElem?_map, hd]; rfl)⟩
open Go.RowKit Go.WideShapes Go.ChangeShapes Go.Joins Go.Deep
def intCells (l : List Int) : List Value := l.map (Value.int .i64)
theorem int_at {w : World} {A : Option Addr} {n k : Nat} {l : List Int} {x : Int} (h : Rd w 1 A n (intCells l)) (hk : k < n) (hd : l[k]? = some x) :
  ∃ b off, A = some ⟨b, off, none⟩ ∧ b < w.heap.size ∧ w.cell? ⟨b, off + k, none⟩ = some (.int .i64 x) := by
 obtain ⟨b, off, e, hb, hc⟩ := h.at_ (by omega)
 exact ⟨b, off, e, hb, hc k _ (by unfold intCells; rw [List.getElem?_map, hd]; rfl)⟩
section
variable {H : Type} {enc : TypeId × Value → H} {W : World} {base : Nat} {v : Value} {d : DataW H} {p : List MemPlace} {hd : Bool}
end
theorem infoInt : (prog.info? 3).map (fun i => (i.zero, i.size, i.bytes)) = some (some (.int .i64 0), 1, 8) := by kernel_rfl
open Go.RowKit Go.WideShapes Go.ChangeShapes Go.Joins Go.Deep
structure Nd where
 kind : Int
 text : ByteArray
 adr : Option Addr
 cnt : Nat
 cap : Nat
 kids : List Int
 blank : Bool
structure PN where
 kind : Int
 text : ByteArray
 kids : List Int
 blank : Bool
def Nd.pn (d : Nd) : PN := ⟨d.kind, d.text, d.kids, d.blank⟩
def nodeCells (d : Nd) : List Value := [.int .i64 d.kind, .string d.text, .slice d.adr d.cnt d.cap, .bool d.blank]
theorem nodeCells_len (d : Nd) : (nodeCells d).length = 4 := rfl
def Nds (w : World) (A : Option Addr) (n : Nat) (l : List Nd) : Prop :=
 l.length = n ∧ Rd w 4 A n (l.flatMap nodeCells) ∧ ∀ d ∈ l, Rd w 1 d.adr d.cnt (intCells d.kids)
def OwnNds (w : World) (t u : TypeId) (B g n : Nat) (l : List Nd) : Prop :=
 l.length = n ∧ B ≤ g ∧ Own w g t (n * 4) (l.flatMap nodeCells) ∧ ∀ d ∈ l, ∃ h, d.adr = some ⟨h, 0, none⟩ ∧ B ≤ h ∧ h ≠ g ∧ Own w h u d.cnt (intCells d.kids)
section
variable {w w' w2 : World} {A : Option Addr} {n k g B : Nat} {l : List Nd} {d : Nd} {o o' : Obj} {t u : TypeId}
theorem Nds.len (h : Nds w A n l) : l.length = n := h.1
theorem Nds.next (h : Nds w A n l) (hb : Below w.heap.size w w') : Nds w' A n l := ⟨h.1, h.2.1.next hb, fun d hd => (h.2.2 d hd).next hb⟩
theorem Nds.below (h : Nds w A n l) (hb : Below w.heap.size w w') : Nds w' A n l := h.next hb
theorem Nds.alloc (h : Nds w A n l) (o : Obj) : Nds (w.alloc o) A n l := ⟨h.1, h.2.1.alloc o, fun d hd => (h.2.2 d hd).alloc o⟩
theorem Nds.next1 (h : Nds w A n l) (hb : Below (w.alloc o).heap.size (w.alloc o) w') : Nds w' A n l := (h.alloc o).next hb
theorem Nds.next2 (h : Nds w A n l) (hb : Below ((w.alloc o).alloc o').heap.size ((w.alloc o).alloc o') w') : Nds w' A n l := ((h.alloc o).alloc o').next hb
theorem Nds.drewN (h : Nds w A n l) (k : Nat) : Nds (w.drewN k) A n l := h
theorem Nds.drew (h : Nds w A n l) : Nds w.drew A n l := h
theorem rd1_len {xs : List Int} {m : Nat} (h : Rd w 1 A m (intCells xs)) : xs.length = m := by have := h.1; simpa [intCells] using this
theorem Nds.cnt (h : Nds w A n l) (hd : d ∈ l) : d.kids.length = d.cnt := rd1_len (h.2.2 d hd)
theorem Nds.get (h : Nds w A n l) (hk : k < n) : ∃ d, l[k]? = some d := ⟨_, gE (by have := h.1; omega)⟩
theorem Nds.at_ (h : Nds w A n l) (hk : k < n) (hd : l[k]? = some d) :
  ∃ b off, A = some ⟨b, off, none⟩ ∧ b < w.heap.size ∧ w.cell? ⟨b, off + k * 4, none⟩ = some (.int .i64 d.kind) ∧ w.cell? ⟨b, off + k * 4 + 1, none⟩ = some (.string d.text) ∧ w.cell? ⟨b, off + k * 4 + 2, none⟩ = some (.slice d.adr d.cnt d.cap) ∧ w.cell? ⟨b, off + k * 4 + 3, none⟩ = some (.bool d.blank) := by
 obtain ⟨b, off, e, hb, hc⟩ := h.2.1.at_ (by omega)
 exact ⟨b, off, e, hb, hc _ _ (flat_get nodeCells nodeCells_len hd (j := 0) rfl), hc _ _ (flat_get nodeCells nodeCells_len hd (j := 1) rfl), hc _ _ (flat_get nodeCells nodeCells_len hd (j := 2) rfl), hc _ _ (flat_get nodeCells nodeCells_len hd (j := 3) rfl)⟩
theorem Nds.kids (h : Nds w A n l) (hd : l[k]? = some d) : Rd w 1 d.adr d.cnt (intCells d.kids) := h.2.2 d (List.mem_of_getElem? hd)
theorem OwnNds.next (h : OwnNds w t u B g n l) (hb : Below w.heap.size w w') : OwnNds w' t u B g n l :=
 ⟨h.1, h.2.1, h.2.2.1.next hb, fun d hd => by obtain ⟨x, e, hx, hne, ho⟩ := h.2.2.2 d hd; exact ⟨x, e, hx, hne, ho.next hb⟩⟩
theorem OwnNds.alloc (h : OwnNds w t u B g n l) (o : Obj) : OwnNds (w.alloc o) t u B g n l := h.next ((Below.refl _ _).alloc (Nat.le_refl _) o)
theorem OwnNds.next1 (h : OwnNds w t u B g n l) (hb : Below (w.alloc o).heap.size (w.alloc o) w') : OwnNds w' t u B g n l := (h.alloc o).next hb
theorem OwnNds.next2 (h : OwnNds w t u B g n l) (hb : Below ((w.alloc o).alloc o').heap.size ((w.alloc o).alloc o') w') : OwnNds w' t u B g n l := ((h.alloc o).alloc o').next hb
end
section
variable {H : Type} {enc : TypeId × Value → H} {W : World} {base : Nat} {v : Value} {d : DataW H} {p : List MemPlace} {hd : Bool}
end
def Nps (w : World) (A : Option Addr) (n : Nat) (ps : List PN) : Prop := ∃ l, Nds w A n l ∧ (∀ d ∈ l, d.cnt ≤ d.cap) ∧ l.map Nd.pn = ps
section
variable {w w' : World} {A : Option Addr} {n k : Nat} {ps : List PN} {p : PN} {o o' : Obj}
theorem Nps.len (h : Nps w A n ps) : ps.length = n := by obtain ⟨l, h, _, rfl⟩ := h; rw [List.length_map]; exact h.1
theorem Nps.next (h : Nps w A n ps) (hb : Below w.heap.size w w') : Nps w' A n ps := by obtain ⟨l, h, c, e⟩ := h; exact ⟨l, h.next hb, c, e⟩
theorem Nps.below (h : Nps w A n ps) (hb : Below w.heap.size w w') : Nps w' A n ps := h.next hb
theorem Nps.alloc (h : Nps w A n ps) (o : Obj) : Nps (w.alloc o) A n ps := by obtain ⟨l, h, c, e⟩ := h; exact ⟨l, h.alloc o, c, e⟩
theorem Nps.next1 (h : Nps w A n ps) (hb : Below (w.alloc o).heap.size (w.alloc o) w') : Nps w' A n ps := (h.alloc o).next hb
theorem Nps.next2 (h : Nps w A n ps) (hb : Below ((w.alloc o).alloc o').heap.size ((w.alloc o).alloc o') w') : Nps w' A n ps := ((h.alloc o).alloc o').next hb
theorem Nps.drewN (h : Nps w A n ps) (k : Nat) : Nps (w.drewN k) A n ps := h
theorem Nps.drew (h : Nps w A n ps) : Nps w.drew A n ps := h
theorem Nps.get (h : Nps w A n ps) (hk : k < n) : ∃ p, ps[k]? = some p := ⟨_, gE (by have := h.len; omega)⟩
theorem Nps.atc (h : Nps w A n ps) (hk : k < n) (hd : ps[k]? = some p) :
  ∃ b off A' c', A = some ⟨b, off, none⟩ ∧ b < w.heap.size ∧ w.cell? ⟨b, off + k * 4, none⟩ = some (.int .i64 p.kind) ∧ w.cell? ⟨b, off + k * 4 + 1, none⟩ = some (.string p.text) ∧ w.cell? ⟨b, off + k * 4 + 2, none⟩ = some (.slice A' p.kids.length c') ∧ w.cell? ⟨b, off + k * 4 + 3, none⟩ = some (.bool p.blank) ∧ p.kids.length ≤ c' ∧ Rd w 1 A' p.kids.length (intCells p.kids) := by
 obtain ⟨l, h, hcap, rfl⟩ := h
 rw [List.getElem?_map] at hd
 obtain ⟨d, hd2, rfl⟩ := Option.map_eq_some_iff.1 hd
 obtain ⟨b, off, e, hb, c0, c1, c2, c3⟩ := h.at_ hk hd2
 have hc := h.cnt (List.mem_of_getElem? hd2)
 have hr := h.kids hd2
 refine ⟨b, off, d.adr, d.cap, e, hb, c0, c1, ?_, c3, ?_, ?_⟩
 ·show w.cell? _ = some (.slice d.adr d.kids.length d.cap); rw [hc]; exact c2
 ·show d.kids.length ≤ d.cap; rw [hc]; exact hcap d (List.mem_of_getElem? hd2)
 ·show Rd w 1 d.adr d.kids.length (intCells d.kids); rw [hc]; exact hr
theorem Nps.at_ (h : Nps w A n ps) (hk : k < n) (hd : ps[k]? = some p) :
  ∃ b off A' c', A = some ⟨b, off, none⟩ ∧ b < w.heap.size ∧ w.cell? ⟨b, off + k * 4, none⟩ = some (.int .i64 p.kind) ∧ w.cell? ⟨b, off + k * 4 + 1, none⟩ = some (.string p.text) ∧ w.cell? ⟨b, off + k * 4 + 2, none⟩ = some (.slice A' p.kids.length c') ∧ w.cell? ⟨b, off + k * 4 + 3, none⟩ = some (.bool p.blank) ∧ Rd w 1 A' p.kids.length (intCells p.kids) := by
 obtain ⟨b, off, A', c', e, hb, c0, c1, c2, c3, _, hr⟩ := h.atc hk hd
 exact ⟨b, off, A', c', e, hb, c0, c1, c2, c3, hr⟩
end
def ToN (w : World) (B n k : Nat) (l : List Nd) : Prop :=
 l.length = k ∧ Own w B 36 (n * 4) (l.flatMap nodeCells) ∧ ∀ d ∈ l, (d.kids.length = d.cnt ∧ d.cnt ≤ d.cap) ∧ ∃ h, d.adr = some ⟨h, 0, none⟩ ∧ B < h ∧ Own w h 3 d.cnt (intCells d.kids)
theorem ToN.next {w w' : World} {B n k : Nat} {l : List Nd} (h : ToN w B n k l) (hb : Below w.heap.size w w') : ToN w' B n k l :=
 ⟨h.1, h.2.1.next hb, fun d hd => by obtain ⟨e, x, e1, h1, ho⟩ := h.2.2 d hd; exact ⟨e, x, e1, h1, ho.next hb⟩⟩
theorem ToN.push {w : World} {B n k : Nat} {l : List Nd} (h : ToN w B n k l) (hk : k < n) (d : Nd) (hc : d.kids.length = d.cnt ∧ d.cnt ≤ d.cap) {g : Nat} (ha : d.adr = some ⟨g, 0, none⟩) (hB : B < g) (ho : Own w g 3 d.cnt (intCells d.kids)) {v0 v1 v2 v3 : Value} (hv : nodeCells d = [v0, v1, v2, v3]) :
  ToN ((((w.setCell ⟨B, k * 4, none⟩ v0).setCell ⟨B, k * 4 + 1, none⟩ v1).setCell ⟨B, k * 4 + 2, none⟩ v2).setCell ⟨B, k * 4 + 3, none⟩ v3) B n (k + 1) (l ++ [d]) := by
 obtain ⟨h1, h2, h3⟩ := h
 have hlen : (l.flatMap nodeCells).length = k * 4 := by rw [flat_len nodeCells nodeCells_len, h1]
 have hp0 := h2.push (by simp [hlen]; omega) (i := k * 4) (by simp [hlen]) v0
 have hp1 := hp0.push (by simp [hlen]; omega) (i := k * 4 + 1) (by simp [hlen]) v1
 have hp2 := hp1.push (by simp [hlen]; omega) (i := k * 4 + 2) (by simp [hlen]) v2
 have hp3 := hp2.push (by simp [hlen]; omega) (i := k * 4 + 3) (by simp [hlen]) v3
 refine ⟨by simp [h1], ?_, fun x hx => ?_⟩
 ·rw [List.flatMap_append, show [d].flatMap nodeCells = [v0, v1, v2, v3] by simp [hv]]
  simpa using hp3
 ·rcases List.mem_append.1 hx with hx | hx
  ·obtain ⟨e, y, e1, h4, hw⟩ := h3 x hx
   exact ⟨e, y, e1, h4, (((hw.far (by simp; omega) _).far (by simp; omega) _).far (by simp; omega) _).far (by simp; omega) _⟩
  ·obtain rfl := List.mem_singleton.1 hx
   exact ⟨hc, g, ha, hB, (((ho.far (by simp; omega) _).far (by simp; omega) _).far (by simp; omega) _).far (by simp; omega) _⟩
def allB (p : UInt8 → Bool) (s : ByteArray) : Bool := s.data.toList.all p
def AllTo (p : UInt8 → Bool) (s : ByteArray) (k : Nat) : Prop := (s.data.toList.take k).all p = true
section
variable {p : UInt8 → Bool} {s : ByteArray} {k : Nat}
theorem allTo_zero (p : UInt8 → Bool) (s : ByteArray) : AllTo p s 0 := by simp [AllTo]
theorem allTo_step (h : AllTo p s k) (hk : k < s.size) (hc : p s[k] = true) : AllTo p s (k + 1) := by
 unfold AllTo at h ⊢
 rw [List.take_succ_eq_append_getElem (by simpa using hk), List.all_append, h]
 simp only [List.all_cons, List.all_nil, Bool.and_true, Bool.true_and]
 exact hc
theorem allTo_no (hk : k < s.size) (hc : p s[k] = false) : allB p s = false := by
 unfold allB
 rw [List.all_eq_false]
 exact ⟨s[k], by rw [show s[k] = s.data.toList[k]'(by simpa using hk) from rfl]; exact List.getElem_mem _, by simp [hc]⟩
theorem allTo_all (h : AllTo p s k) (hk : k = s.size) : allB p s = true := by
 unfold AllTo at h; unfold allB
 rwa [List.take_of_length_le (by simp [hk])] at h
end
def firstC (c : UInt8) : Bool := decide ((97 ≤ (c.toNat : Int) ∧ (c.toNat : Int) ≤ 122) ∨ (65 ≤ (c.toNat : Int) ∧ (c.toNat : Int) ≤ 90) ∨ (c.toNat : Int) = 95)
def figC (c : UInt8) : Bool := decide (48 ≤ (c.toNat : Int) ∧ (c.toNat : Int) ≤ 57)
def innerC (c : UInt8) : Bool := firstC c || figC c
def plainC (c : UInt8) : Bool := decide (32 ≤ (c.toNat : Int) ∧ (c.toNat : Int) ≤ 126)
def runN (p : UInt8 → Bool) : List UInt8 → Nat
 | [] => 0
 | c :: l => if p c then runN p l + 1 else 0
theorem runN_le (p : UInt8 → Bool) (l : List UInt8) : runN p l ≤ l.length := by
 induction l with
 | nil => exact Nat.le_refl _
 | cons c l ih => unfold runN; split <;> simp <;> omega
theorem runN_all (p : UInt8 → Bool) (l : List UInt8) : runN p l = l.length ↔ l.all p = true := by
 induction l with
 | nil => simp [runN]
 | cons c l ih =>
  unfold runN
  by_cases h : p c = true
  ·rw [if_pos h, List.length_cons, List.all_cons, h, Bool.true_and, ← ih]; omega
  ·rw [if_neg h, List.length_cons, List.all_cons, Bool.eq_false_iff.2 h]; simp
theorem run_whole (p : UInt8 → Bool) (s : ByteArray) : runN p s.data.toList = s.size ↔ allB p s = true := by
 have h := runN_all p s.data.toList
 rw [ba_len] at h
 exact h
theorem runN_step {p : UInt8 → Bool} {s : ByteArray} {k : Nat} (h : AllTo p s k) (hk : k < s.size) (hc : p s[k] = false) : runN p s.data.toList = k := by
 have key : ∀ (l : List UInt8) (k : Nat) (hk : k < l.length), (l.take k).all p = true → p l[k] = false → runN p l = k := by
  intro l
  induction l with
  | nil => intro k hk; simp at hk
  | cons c l ih =>
   intro k hk h hc
   cases k with
   | zero => simp only [List.getElem_cons_zero] at hc; unfold runN; rw [if_neg (by rw [hc]; decide)]
   | succ k =>
    simp only [List.take_succ_cons, List.all_cons, Bool.and_eq_true] at h
    simp only [List.getElem_cons_succ] at hc
    unfold runN
    rw [if_pos h.1, ih k (by simpa using hk) h.2 hc]
 exact key s.data.toList k (by rw [ba_len]; exact hk) h hc
theorem runN_end {p : UInt8 → Bool} {s : ByteArray} {k : Nat} (h : AllTo p s k) (hk : k = s.size) : runN p s.data.toList = k := by
 rw [(run_whole p s).2 (allTo_all h hk), hk]
theorem firstC_yes {c : UInt8} (h : ((97 : Int) ≤ c.toNat ∧ (c.toNat : Int) ≤ 122) ∨ ((65 : Int) ≤ c.toNat ∧ (c.toNat : Int) ≤ 90) ∨ (c.toNat : Int) = 95) : true = firstC c := (decide_eq_true h).symm
theorem firstC_no {c : UInt8} (h : ¬ (((97 : Int) ≤ c.toNat ∧ (c.toNat : Int) ≤ 122) ∨ ((65 : Int) ≤ c.toNat ∧ (c.toNat : Int) ≤ 90) ∨ (c.toNat : Int) = 95)) : false = firstC c := (decide_eq_false h).symm
theorem figC_yes {c : UInt8} (h : (48 : Int) ≤ c.toNat ∧ (c.toNat : Int) ≤ 57) : true = figC c := (decide_eq_true h).symm
theorem figC_no {c : UInt8} (h : ¬ ((48 : Int) ≤ c.toNat ∧ (c.toNat : Int) ≤ 57)) : false = figC c := (decide_eq_false h).symm
theorem plainC_yes {c : UInt8} (h : (32 : Int) ≤ c.toNat ∧ (c.toNat : Int) ≤ 126) : true = plainC c := (decide_eq_true h).symm
theorem plainC_no {c : UInt8} (h : ¬ ((32 : Int) ≤ c.toNat ∧ (c.toNat : Int) ≤ 126)) : false = plainC c := (decide_eq_false h).symm
theorem specFirst_any (c : UInt8) (w : World) : Calls prog 99 #[.int .u8 c.toNat] w fun e w' => e = .returned (.bool (firstC c)) ∧ w = w' := by
 by_cases h1 : (97 : Int) ≤ c.toNat
 all_goals by_cases h2 : (c.toNat : Int) ≤ 122
 all_goals by_cases h3 : (65 : Int) ≤ c.toNat
 all_goals by_cases h4 : (c.toNat : Int) ≤ 90
 all_goals by_cases h5 : (c.toNat : Int) = 95
 all_goals try omega
 all_goals
  go_enter func99, ntmps99
  go_wp2
  go_ret
  refine ⟨ret_bool ?_, rfl⟩
  first | exact firstC_yes (c := c) (by omega) | exact firstC_no (c := c) (by omega) | (have d : ((c.toNat : Int) == 95) = false := (by rw [beq_eq_false_iff_ne]; omega); rw [d]; exact firstC_no (c := c) (by omega)) | (have d : decide ((c.toNat : Int) = 95) = false := decide_eq_false (by omega); rw [d]; exact firstC_no (c := c) (by omega))
theorem implFirst_any (c : UInt8) (w : World) : Calls prog 141 #[.int .u8 c.toNat] w fun e w' => e = .returned (.bool (firstC c)) ∧ w = w' := by
 by_cases h1 : (97 : Int) ≤ c.toNat
 all_goals by_cases h2 : (c.toNat : Int) ≤ 122
 all_goals by_cases h3 : (65 : Int) ≤ c.toNat
 all_goals by_cases h4 : (c.toNat : Int) ≤ 90
 all_goals by_cases h5 : (c.toNat : Int) = 95
 all_goals try omega
 all_goals
  go_enter func141, ntmps141
  go_wp2
  go_ret
  refine ⟨ret_bool ?_, rfl⟩
  first | exact firstC_yes (c := c) (by omega) | exact firstC_no (c := c) (by omega) | (have d : ((c.toNat : Int) == 95) = false := (by rw [beq_eq_false_iff_ne]; omega); rw [d]; exact firstC_no (c := c) (by omega)) | (have d : decide ((c.toNat : Int) = 95) = false := decide_eq_false (by omega); rw [d]; exact firstC_no (c := c) (by omega))
theorem specFigure_any (c : UInt8) (w : World) : Calls prog 100 #[.int .u8 c.toNat] w fun e w' => e = .returned (.bool (figC c)) ∧ w = w' := by
 by_cases h1 : (48 : Int) ≤ c.toNat
 all_goals by_cases h2 : (c.toNat : Int) ≤ 57
 all_goals
  go_enter func100, ntmps100
  go_wp2
  go_ret
  refine ⟨ret_bool ?_, rfl⟩
  first | exact figC_yes (by omega) | exact figC_no (by omega)
theorem implFigure_any (c : UInt8) (w : World) : Calls prog 144 #[.int .u8 c.toNat] w fun e w' => e = .returned (.bool (figC c)) ∧ w = w' := by
 by_cases h1 : (48 : Int) ≤ c.toNat
 all_goals by_cases h2 : (c.toNat : Int) ≤ 57
 all_goals
  go_enter func144, ntmps144
  go_wp2
  go_ret
  refine ⟨ret_bool ?_, rfl⟩
  first | exact figC_yes (by omega) | exact figC_no (by omega)
theorem specPlain_any (c : UInt8) (w : World) : Calls prog 131 #[.int .u8 c.toNat] w fun e w' => e = .returned (.bool (plainC c)) ∧ w = w' := by
 by_cases h1 : (32 : Int) ≤ c.toNat
 all_goals by_cases h2 : (c.toNat : Int) ≤ 126
 all_goals
  go_enter func131, ntmps131
  go_wp2
  go_ret
  refine ⟨ret_bool ?_, rfl⟩
  first | exact plainC_yes (by omega) | exact plainC_no (by omega)
theorem implInner_any (c : UInt8) (w : World) : Calls prog 143 #[.int .u8 c.toNat] w fun e w' => e = .returned (.bool (innerC c)) ∧ w = w' := by
 have H1 := hid (fun (b : Bool) (hb : firstC c = b) (W : World) => show Calls prog 141 #[.int .u8 (c.toNat : Int)] W fun e w' => e = .returned (.bool b) ∧ W = w' by rw [← hb]; exact implFirst_any c W)
 cases hb : firstC c with
 | true =>
  have H2 := hid (H1.out _ hb)
  have hi : innerC c = true := by unfold innerC; rw [hb]; rfl
  rw [hi]
  clear H1 hb hi
  go_enter func143, ntmps143
  go_wp2_with (go_at_call 141; refine (H2.out _).mono ?_; rintro e w1 ⟨rfl, rfl⟩)
  go_ret
  exact ⟨rfl, rfl⟩
 | false =>
  have H2 := hid (H1.out _ hb)
  have hi : innerC c = figC c := by unfold innerC; rw [hb]; rfl
  rw [hi]
  clear H1 hb hi
  go_enter func143, ntmps143
  go_wp2_with (first | (go_at_call 141; refine (H2.out _).mono ?_; rintro e w1 ⟨rfl, rfl⟩) | (go_at_call 144; refine (implFigure_any c _).mono ?_; rintro e w1 ⟨rfl, rfl⟩))
  go_ret
  exact ⟨rfl, rfl⟩
theorem implNotEnd_any (c : UInt8) (w : World) : Calls prog 147 #[.int .u8 c.toNat] w fun e w' => e = .returned (.bool (c != 10)) ∧ w = w' := by
 by_cases h : (c.toNat : Int) = 10
 ·have hc : c = 10 := by apply UInt8.toNat_inj.1; show c.toNat = 10; omega
  subst hc
  go_enter func147, ntmps147
  go_wp2
  go_ret
  exact ⟨rfl, rfl⟩
 ·have hc : (c != 10) = true := by
   rw [bne_iff_ne]; intro e; subst e; exact h rfl
  rw [hc]
  have h2 : ((c.toNat : Int) == 10) = false := by rw [beq_eq_false_iff_ne]; exact h
  have h3 : ((c.toNat : Int) != 10) = true := by rw [bne_iff_ne]; exact h
  go_enter func147, ntmps147
  go_wp2
  go_ret
  refine ⟨ret_bool ?_, rfl⟩
  first | rfl | exact h3 | simp [h2] | simpa using h
theorem implPlain_any (s : ByteArray) (w : World) (hs : s.size ≤ maxLen) : Calls prog 149 #[.string s] w fun e w' => e = .returned (.bool (allB plainC s)) ∧ w = w' := by
 unfold maxLen at hs
 go_enter func149, ntmps149
 go_wp2
 go_loop [3] (fun i => ∃ k : Nat, k ≤ s.size ∧ AllTo plainC s k ∧ i = .int .i64 k) (fun i => s.size - (intOf i).toNat)
 case atStart => exact ⟨0, Nat.zero_le _, allTo_zero _ s, rfl⟩
 case round =>
  obtain ⟨k, hk, ha, rfl⟩ := hrel
  by_cases hlt : k < s.size
  ·by_cases h1 : (s[k].toNat : Int) < 32
   ·have hn := hid (allTo_no hlt (plainC_no (by omega)).symm)
    go_wp2
    go_ret
    exact ⟨ret_bool hn.out.symm, rfl⟩
   ·by_cases h2 : (126 : Int) < s[k].toNat
    ·have hn := hid (allTo_no hlt (plainC_no (by omega)).symm)
     go_wp2
     go_ret
     exact ⟨ret_bool hn.out.symm, rfl⟩
    ·have hn := allTo_step ha hlt (plainC_yes (by omega)).symm
     go_wp2
     go_round
     case rel => exact ⟨k + 1, by omega, hn, by go_num⟩
     case measure => simp [intOf]; omega
  ·have hn := hid (allTo_all ha (by omega))
   go_wp2
   go_ret
   exact ⟨ret_bool hn.out.symm, rfl⟩
def keyB (s : ByteArray) : Bool :=
 s.toList == [99, 108, 97, 115, 115] || s.toList == [118, 97, 114] || s.toList == [105, 102] || s.toList == [101, 108, 115, 101] || s.toList == [119, 104, 105, 108, 101] || s.toList == [114, 101, 116, 117, 114, 110]
theorem implKey_any (s : ByteArray) (w : World) : Calls prog 229 #[.string s] w fun e w' => e = .returned (.bool (keyB s)) ∧ w = w' := by
 cases h0 : (s.toList == [99, 108, 97, 115, 115]) with
 | true =>
  have hk : keyB s = true := by unfold keyB; simp only [h0, Bool.or_true, Bool.true_or]
  rw [hk]; clear hk
  go_enter func229, ntmps229
  go_wp2
  go_ret
  exact ⟨rfl, rfl⟩
 | false =>
 cases h1 : (s.toList == [118, 97, 114]) with
 | true =>
  have hk : keyB s = true := by unfold keyB; simp only [h1, Bool.or_true, Bool.true_or]
  rw [hk]; clear hk
  go_enter func229, ntmps229
  go_wp2
  go_ret
  exact ⟨rfl, rfl⟩
 | false =>
 cases h2 : (s.toList == [105, 102]) with
 | true =>
  have hk : keyB s = true := by unfold keyB; simp only [h2, Bool.or_true, Bool.true_or]
  rw [hk]; clear hk
  go_enter func229, ntmps229
  go_wp2
  go_ret
  exact ⟨rfl, rfl⟩
 | false =>
 cases h3 : (s.toList == [101, 108, 115, 101]) with
 | true =>
  have hk : keyB s = true := by unfold keyB; simp only [h3, Bool.or_true, Bool.true_or]
  rw [hk]; clear hk
  go_enter func229, ntmps229
  go_wp2
  go_ret
  exact ⟨rfl, rfl⟩
 | false =>
 cases h4 : (s.toList == [119, 104, 105, 108, 101]) with
 | true =>
  have hk : keyB s = true := by unfold keyB; simp only [h4, Bool.or_true, Bool.true_or]
  rw [hk]; clear hk
  go_enter func229, ntmps229
  go_wp2
  go_ret
  exact ⟨rfl, rfl⟩
 | false =>
 cases h5 : (s.toList == [114, 101, 116, 117, 114, 110]) with
 | true =>
  have hk : keyB s = true := by unfold keyB; simp only [h5, Bool.or_true, Bool.true_or]
  rw [hk]; clear hk
  go_enter func229, ntmps229
  go_wp2
  go_ret
  exact ⟨rfl, rfl⟩
 | false =>
 have hk : keyB s = false := by unfold keyB; simp only [h0, h1, h2, h3, h4, h5, Bool.or_self]
 rw [hk]; clear hk
 go_enter func229, ntmps229
 go_wp2
 go_ret
 exact ⟨rfl, rfl⟩
theorem specKey_any (s : ByteArray) (w : World) : Calls prog 103 #[.string s] w fun e w' => e = .returned (.bool (keyB s)) ∧ w = w' := by
 cases h0 : (s.toList == [99, 108, 97, 115, 115]) with
 | true =>
  have hk : keyB s = true := by unfold keyB; simp only [h0, Bool.or_true, Bool.true_or]
  rw [hk]; clear hk
  go_enter func103, ntmps103
  go_wp2
  go_ret
  exact ⟨rfl, rfl⟩
 | false =>
 cases h1 : (s.toList == [118, 97, 114]) with
 | true =>
  have hk : keyB s = true := by unfold keyB; simp only [h1, Bool.or_true, Bool.true_or]
  rw [hk]; clear hk
  go_enter func103, ntmps103
  go_wp2
  go_ret
  exact ⟨rfl, rfl⟩
 | false =>
 cases h2 : (s.toList == [105, 102]) with
 | true =>
  have hk : keyB s = true := by unfold keyB; simp only [h2, Bool.or_true, Bool.true_or]
  rw [hk]; clear hk
  go_enter func103, ntmps103
  go_wp2
  go_ret
  exact ⟨rfl, rfl⟩
 | false =>
 cases h3 : (s.toList == [101, 108, 115, 101]) with
 | true =>
  have hk : keyB s = true := by unfold keyB; simp only [h3, Bool.or_true, Bool.true_or]
  rw [hk]; clear hk
  go_enter func103, ntmps103
  go_wp2
  go_ret
  exact ⟨rfl, rfl⟩
 | false =>
 cases h4 : (s.toList == [119, 104, 105, 108, 101]) with
 | true =>
  have hk : keyB s = true := by unfold keyB; simp only [h4, Bool.or_true, Bool.true_or]
  rw [hk]; clear hk
  go_enter func103, ntmps103
  go_wp2
  go_ret
  exact ⟨rfl, rfl⟩
 | false =>
 cases h5 : (s.toList == [114, 101, 116, 117, 114, 110]) with
 | true =>
  have hk : keyB s = true := by unfold keyB; simp only [h5, Bool.or_true, Bool.true_or]
  rw [hk]; clear hk
  go_enter func103, ntmps103
  go_wp2
  go_ret
  exact ⟨rfl, rfl⟩
 | false =>
 have hk : keyB s = false := by unfold keyB; simp only [h0, h1, h2, h3, h4, h5, Bool.or_self]
 rw [hk]; clear hk
 go_enter func103, ntmps103
 go_wp2
 go_ret
 exact ⟨rfl, rfl⟩
def chainB (s : ByteArray) : Bool :=
 s.toList == [38, 38] || s.toList == [124, 124] || s.toList == [61, 61] || s.toList == [60] || s.toList == [43] || s.toList == [45] || s.toList == [42]
theorem specChain_any (s : ByteArray) (w : World) : Calls prog 212 #[.string s] w fun e w' => e = .returned (.bool (chainB s)) ∧ w = w' := by
 cases h0 : (s.toList == [38, 38]) with
 | true =>
  have hk : chainB s = true := by unfold chainB; simp only [h0, Bool.or_true, Bool.true_or]
  rw [hk]; clear hk
  go_enter func212, ntmps212
  go_wp2
  go_ret
  exact ⟨rfl, rfl⟩
 | false =>
 cases h1 : (s.toList == [124, 124]) with
 | true =>
  have hk : chainB s = true := by unfold chainB; simp only [h1, Bool.or_true, Bool.true_or]
  rw [hk]; clear hk
  go_enter func212, ntmps212
  go_wp2
  go_ret
  exact ⟨rfl, rfl⟩
 | false =>
 cases h2 : (s.toList == [61, 61]) with
 | true =>
  have hk : chainB s = true := by unfold chainB; simp only [h2, Bool.or_true, Bool.true_or]
  rw [hk]; clear hk
  go_enter func212, ntmps212
  go_wp2
  go_ret
  exact ⟨rfl, rfl⟩
 | false =>
 cases h3 : (s.toList == [60]) with
 | true =>
  have hk : chainB s = true := by unfold chainB; simp only [h3, Bool.or_true, Bool.true_or]
  rw [hk]; clear hk
  go_enter func212, ntmps212
  go_wp2
  go_ret
  exact ⟨rfl, rfl⟩
 | false =>
 cases h4 : (s.toList == [43]) with
 | true =>
  have hk : chainB s = true := by unfold chainB; simp only [h4, Bool.or_true, Bool.true_or]
  rw [hk]; clear hk
  go_enter func212, ntmps212
  go_wp2
  go_ret
  exact ⟨rfl, rfl⟩
 | false =>
 cases h5 : (s.toList == [45]) with
 | true =>
  have hk : chainB s = true := by unfold chainB; simp only [h5, Bool.or_true, Bool.true_or]
  rw [hk]; clear hk
  go_enter func212, ntmps212
  go_wp2
  go_ret
  exact ⟨rfl, rfl⟩
 | false =>
 cases h6 : (s.toList == [42]) with
 | true =>
  have hk : chainB s = true := by unfold chainB; simp only [h6, Bool.or_true, Bool.true_or]
  rw [hk]; clear hk
  go_enter func212, ntmps212
  go_wp2
  go_ret
  exact ⟨rfl, rfl⟩
 | false =>
 have hk : chainB s = false := by unfold chainB; simp only [h0, h1, h2, h3, h4, h5, h6, Bool.or_self]
 rw [hk]; clear hk
 go_enter func212, ntmps212
 go_wp2
 go_ret
 exact ⟨rfl, rfl⟩
end Go.Proofs.YtgbikafalcbibaaGreatDoor
namespace Go.Proofs
open Go.Shelf
def Tryz.lays162_ren : Go.Shelf.Ren := ⟨fun | 162 => 185 | 232 => 223 | 227 => 224 | 234 => 225 | 236 => 226 | 228 => 240 | 271 => 241 | 151 => 242 | 120 => 245 | 197 => 205 | 152 => 246 | 260 => 233 | 137 => 183 | 119 => 249 | 224 => 189 | 225 => 188 | 217 => 187 | 266 => 227 | n => n, fun | 9 => 9 | 4 => 4 | 3 => 3 | 5 => 5 | 117 => 174 | 116 => 173 | 0 => 0 | 124 => 177 | 21 => 21 | 105 => 167 | 46 => 130 | 119 => 184 | 139 => 187 | 138 => 186 | n => n, fun | 3 => 4 | 4 => 5 | n => n⟩
theorem Tryz.lays162 : Go.Proofs.Lays.n162 prog Tryz.lays162_ren := {
 mixed := by kernel_rfl
 f119 := func249.trans (congrArg some (by kernel_rfl))
 f120 := func245.trans (congrArg some (by kernel_rfl))
 f137 := func183.trans (congrArg some (by kernel_rfl))
 f151 := func242.trans (congrArg some (by kernel_rfl))
 f152 := func246.trans (congrArg some (by kernel_rfl))
 f162 := func185.trans (congrArg some (by kernel_rfl))
 f197 := func205.trans (congrArg some (by kernel_rfl))
 f217 := func187.trans (congrArg some (by kernel_rfl))
 f224 := func189.trans (congrArg some (by kernel_rfl))
 f225 := func188.trans (congrArg some (by kernel_rfl))
 f227 := func224.trans (congrArg some (by kernel_rfl))
 f228 := func240.trans (congrArg some (by kernel_rfl))
 f232 := func223.trans (congrArg some (by kernel_rfl))
 f234 := func225.trans (congrArg some (by kernel_rfl))
 f236 := func226.trans (congrArg some (by kernel_rfl))
 f260 := func233.trans (congrArg some (by kernel_rfl))
 f266 := func227.trans (congrArg some (by kernel_rfl))
 f271 := func241.trans (congrArg some (by kernel_rfl))
 t0 := underlying0
 a0 := Tryz.isAgg0
 z0 := Tryz.sizeOf0
 v0 := Tryz.zeroValue0
 t3 := underlying3
 a3 := Tryz.isAgg3
 z3 := Tryz.sizeOf3
 v3 := Tryz.zeroValue3
 t4 := underlying4
 a4 := Tryz.isAgg4
 z4 := Tryz.sizeOf4
 v4 := Tryz.zeroValue4
 t5 := underlying5
 a5 := Tryz.isAgg5
 z5 := Tryz.sizeOf5
 v5 := Tryz.zeroValue5
 t9 := underlying9
 a9 := Tryz.isAgg9
 z9 := Tryz.sizeOf9
 v9 := Tryz.zeroValue9
 t21 := underlying21
 a21 := Tryz.isAgg21
 z21 := Tryz.sizeOf21
 v21 := Tryz.zeroValue21
 t46 := underlying130
 a46 := Tryz.isAgg130
 z46 := Tryz.sizeOf130
 v46 := Tryz.zeroValue130
 t105 := underlying167
 a105 := Tryz.isAgg167
 z105 := Tryz.sizeOf167
 v105 := Tryz.zeroValue167
 t116 := underlying173
 a116 := Tryz.isAgg173
 z116 := Tryz.sizeOf173
 t117 := underlying174
 a117 := Tryz.isAgg174
 z117 := Tryz.sizeOf174
 v117 := Tryz.zeroValue174
 t119 := underlying184
 a119 := Tryz.isAgg184
 z119 := Tryz.sizeOf184
 t124 := underlying177
 a124 := Tryz.isAgg177
 z124 := Tryz.sizeOf177
 v124 := Tryz.zeroValue177
 t138 := underlying186
 a138 := Tryz.isAgg186
 z138 := Tryz.sizeOf186
 v138 := Tryz.zeroValue186
 t139 := underlying187
 a139 := Tryz.isAgg187
 z139 := Tryz.sizeOf187
 v139 := Tryz.zeroValue187
 g3 := by kernel_rfl
 g4 := by kernel_rfl }
open Go.RowKit in
/-- strings.TrimRight: "TrimRight returns a slice of the string s, with all trailing Unicode code points contained in cutset removed.": AT A cutset OF ONE ASCII BYTE. The world is as it was. (LAID: no walk: one application.) -/
theorem Tryz.strings_TrimRight_one (s : ByteArray) (c : UInt8) (hc : c.toNat < 128) (w : World) (hs : s.size ≤ 9223372036854775807) :
    Calls prog 185 #[.string s, .string ⟨#[c]⟩] w fun e w' => e = .returned (.string ⟨(Lib.trimRightB s.data.toList c).toArray⟩) ∧ w' = w := Any.strings_TrimRight_one Tryz.lays162 s c hc w hs
def Tryz.lays137_ren : Go.Shelf.Ren := ⟨fun | 137 => 183 | 217 => 187 | 266 => 227 | n => n, fun | 9 => 9 | 5 => 5 | 3 => 3 | n => n, fun | n => n⟩
theorem Tryz.lays137 : Go.Proofs.Lays.n137 prog Tryz.lays137_ren := {
 mixed := by kernel_rfl
 f137 := func183.trans (congrArg some (by kernel_rfl))
 f217 := func187.trans (congrArg some (by kernel_rfl))
 f266 := func227.trans (congrArg some (by kernel_rfl))
 t3 := underlying3
 a3 := Tryz.isAgg3
 z3 := Tryz.sizeOf3
 v3 := Tryz.zeroValue3
 t5 := underlying5
 a5 := Tryz.isAgg5
 z5 := Tryz.sizeOf5
 v5 := Tryz.zeroValue5
 t9 := underlying9
 a9 := Tryz.isAgg9
 z9 := Tryz.sizeOf9
 v9 := Tryz.zeroValue9 }
open Go.RowKit in
/-- strings.IndexByte: "IndexByte returns the index of the first instance of c in s, or -1 if c is not present in s.": IT RETURNS 'Lib.indexByte s c'; the world is as it was. (LAID: no walk: one application.) -/
theorem Tryz.strings_IndexByte (s : ByteArray) (c : Int) (w : World) :
    Calls prog 183 #[.string s, .int .u8 c] w fun e w' => e = .returned (.int .i64 (Lib.indexByte s.data.toList c.toNat.toUInt8)) ∧ w' = w := Any.strings_IndexByte Tryz.lays137 s c w
def Tryz.laysM171_ren : Go.Shelf.Ren := ⟨fun | 171 => 64 | 243 => 93 | 246 => 128 | 283 => 162 | 284 => 163 | 285 => 164 | 286 => 165 | 129 => 201 | 317 => 200 | 318 => 202 | 319 => 203 | 320 => 204 | 337 => 231 | 338 => 232 | n => n, fun | 3 => 3 | 9 => 9 | 2 => 2 | 4 => 4 | 171 => 147 | 0 => 0 | 53 => 148 | 37 => 80 | 5 => 5 | 173 => 151 | 212 => 163 | 51 => 164 | 20 => 20 | 213 => 165 | 46 => 130 | 232 => 182 | 233 => 183 | n => n, fun | 17 => 1 | 18 => 2 | 19 => 3 | n => n⟩
theorem Tryz.laysM171 : Go.Proofs.LaysM.n171 prog Tryz.laysM171_ren := {
 mixed := by kernel_rfl
 f129 := func201.trans (congrArg some (by kernel_rfl))
 f171 := func64.trans (congrArg some (by kernel_rfl))
 f243 := func93.trans (congrArg some (by kernel_rfl))
 f246 := func128.trans (congrArg some (by kernel_rfl))
 f283 := func162.trans (congrArg some (by kernel_rfl))
 f284 := func163.trans (congrArg some (by kernel_rfl))
 f285 := func164.trans (congrArg some (by kernel_rfl))
 f286 := func165.trans (congrArg some (by kernel_rfl))
 f317 := func200.trans (congrArg some (by kernel_rfl))
 f318 := func202.trans (congrArg some (by kernel_rfl))
 f319 := func203.trans (congrArg some (by kernel_rfl))
 f320 := func204.trans (congrArg some (by kernel_rfl))
 f337 := func231.trans (congrArg some (by kernel_rfl))
 f338 := func232.trans (congrArg some (by kernel_rfl))
 t0 := underlying0
 a0 := Tryz.isAgg0
 z0 := Tryz.sizeOf0
 v0 := Tryz.zeroValue0
 t2 := underlying2
 a2 := Tryz.isAgg2
 z2 := Tryz.sizeOf2
 v2 := Tryz.zeroValue2
 t3 := underlying3
 a3 := Tryz.isAgg3
 z3 := Tryz.sizeOf3
 v3 := Tryz.zeroValue3
 t4 := underlying4
 a4 := Tryz.isAgg4
 z4 := Tryz.sizeOf4
 v4 := Tryz.zeroValue4
 t5 := underlying5
 a5 := Tryz.isAgg5
 z5 := Tryz.sizeOf5
 v5 := Tryz.zeroValue5
 t9 := underlying9
 a9 := Tryz.isAgg9
 z9 := Tryz.sizeOf9
 v9 := Tryz.zeroValue9
 t20 := underlying20
 a20 := Tryz.isAgg20
 z20 := Tryz.sizeOf20
 v20 := Tryz.zeroValue20
 t37 := underlying80
 a37 := Tryz.isAgg80
 z37 := Tryz.sizeOf80
 v37 := Tryz.zeroValue80
 t46 := underlying130
 a46 := Tryz.isAgg130
 z46 := Tryz.sizeOf130
 v46 := Tryz.zeroValue130
 t51 := underlying164
 a51 := Tryz.isAgg164
 z51 := Tryz.sizeOf164
 v51 := Tryz.zeroValue164
 t53 := underlying148
 a53 := Tryz.isAgg148
 z53 := Tryz.sizeOf148
 v53 := Tryz.zeroValue148
 t171 := underlying147
 a171 := Tryz.isAgg147
 z171 := Tryz.sizeOf147
 v171 := Tryz.zeroValue147
 t173 := underlying151
 a173 := Tryz.isAgg151
 z173 := Tryz.sizeOf151
 v173 := Tryz.zeroValue151
 t212 := underlying163
 a212 := Tryz.isAgg163
 z212 := Tryz.sizeOf163
 v212 := Tryz.zeroValue163
 t213 := underlying165
 a213 := Tryz.isAgg165
 z213 := Tryz.sizeOf165
 t232 := underlying182
 a232 := Tryz.isAgg182
 z232 := Tryz.sizeOf182
 v232 := Tryz.zeroValue182
 t233 := underlying183
 a233 := Tryz.isAgg183
 z233 := Tryz.sizeOf183
 v233 := Tryz.zeroValue183
 g17 := by kernel_rfl
 g18 := by kernel_rfl
 g19 := by kernel_rfl
 i0 := by kernel_rfl
 i2 := by kernel_rfl
 i3 := by kernel_rfl
 i4 := by kernel_rfl
 i5 := by kernel_rfl
 i9 := by kernel_rfl
 i20 := by kernel_rfl
 i37 := by kernel_rfl
 i46 := by kernel_rfl
 i51 := by kernel_rfl
 i53 := by kernel_rfl
 i171 := by kernel_rfl
 i173 := by kernel_rfl
 i212 := by kernel_rfl
 i232 := by kernel_rfl
 i233 := by kernel_rfl
 m17 := by kernel_rfl
 m18 := by kernel_rfl
 m19 := by kernel_rfl }
open Go.RowKit Go.Sort Go.Lib in
/-- strconv.Itoa: "Itoa is equivalent to FormatInt(int64(i), 10).": i's DECIMAL NUMERAL ('Lib.itoa': a '-' where i is negative, then the digits), FOR EVERY int. The world behind the call: the world before it, new blocks behind the heap (the library's 'var a [24]byte'), draws. (LAID: no walk: one application.) -/
theorem Tryz.strconv_Itoa (n : Int) (h0 : -9223372036854775808 ≤ n) (h1 : n ≤ 9223372036854775807) (w : World) (htab : Lib.TabIs prog w "internal/strconv.uint64pow10" .u64 Lib.pow10Tab) :
    Calls prog 64 #[.int .i64 n] w fun e w' => e = .returned (.string ⟨(Lib.itoa n).toArray⟩) ∧ ∃ k os, w' = grow (w.drewN k) os := Any.strconv_Itoa Tryz.laysM171 n h0 h1 w htab
def Tryz.lays144_ren : Go.Shelf.Ren := ⟨fun | 144 => 186 | 143 => 124 | 219 => 155 | 217 => 187 | 225 => 188 | 224 => 189 | 267 => 190 | 266 => 227 | 314 => 228 | n => n, fun | 9 => 9 | 4 => 4 | 3 => 3 | 5 => 5 | 46 => 130 | 146 => 178 | 51 => 164 | n => n, fun | 1 => 0 | n => n⟩
theorem Tryz.lays144 : Go.Proofs.Lays.n144 prog Tryz.lays144_ren := {
 mixed := by kernel_rfl
 f143 := func124.trans (congrArg some (by kernel_rfl))
 f144 := func186.trans (congrArg some (by kernel_rfl))
 f217 := func187.trans (congrArg some (by kernel_rfl))
 f219 := func155.trans (congrArg some (by kernel_rfl))
 f224 := func189.trans (congrArg some (by kernel_rfl))
 f225 := func188.trans (congrArg some (by kernel_rfl))
 f266 := func227.trans (congrArg some (by kernel_rfl))
 f267 := func190.trans (congrArg some (by kernel_rfl))
 f314 := func228.trans (congrArg some (by kernel_rfl))
 t3 := underlying3
 a3 := Tryz.isAgg3
 z3 := Tryz.sizeOf3
 v3 := Tryz.zeroValue3
 t4 := underlying4
 a4 := Tryz.isAgg4
 z4 := Tryz.sizeOf4
 v4 := Tryz.zeroValue4
 t5 := underlying5
 a5 := Tryz.isAgg5
 z5 := Tryz.sizeOf5
 v5 := Tryz.zeroValue5
 t9 := underlying9
 a9 := Tryz.isAgg9
 z9 := Tryz.sizeOf9
 v9 := Tryz.zeroValue9
 t46 := underlying130
 a46 := Tryz.isAgg130
 z46 := Tryz.sizeOf130
 v46 := Tryz.zeroValue130
 t51 := underlying164
 a51 := Tryz.isAgg164
 z51 := Tryz.sizeOf164
 v51 := Tryz.zeroValue164
 t146 := underlying178
 a146 := Tryz.isAgg178
 z146 := Tryz.sizeOf178
 v146 := Tryz.zeroValue178
 g1 := by kernel_rfl }
open Go.RowKit Go.Lib in
/-- strings.Contains: "Contains reports whether substr is within s.": AT A substr OF ONE BYTE c: IT RETURNS 'decide (0 ≤ Lib.indexByte s c)'; the world is as it was. (LAID: no walk: one application.) -/
theorem Tryz.strings_Contains_one (s : ByteArray) (c : UInt8) (w : World) :
    Calls prog 186 #[.string s, .string ⟨#[c]⟩] w fun e w' => e = .returned (.bool (decide (0 ≤ Lib.indexByte s.data.toList c))) ∧ w' = w := Any.strings_Contains_one Tryz.lays144 s c w
def Tryz.lays138_ren : Go.Shelf.Ren := ⟨fun | 138 => 86 | 195 => 122 | 218 => 123 | 143 => 124 | 219 => 155 | 217 => 187 | 225 => 188 | 224 => 189 | 267 => 190 | 266 => 227 | 314 => 228 | n => n, fun | 9 => 9 | 3 => 3 | 4 => 4 | 5 => 5 | 0 => 0 | 46 => 130 | 146 => 178 | 51 => 164 | n => n, fun | 1 => 0 | n => n⟩
theorem Tryz.lays138 : Go.Proofs.Lays.n138 prog Tryz.lays138_ren := {
 mixed := by kernel_rfl
 f138 := func86.trans (congrArg some (by kernel_rfl))
 f143 := func124.trans (congrArg some (by kernel_rfl))
 f195 := func122.trans (congrArg some (by kernel_rfl))
 f217 := func187.trans (congrArg some (by kernel_rfl))
 f218 := func123.trans (congrArg some (by kernel_rfl))
 f219 := func155.trans (congrArg some (by kernel_rfl))
 f224 := func189.trans (congrArg some (by kernel_rfl))
 f225 := func188.trans (congrArg some (by kernel_rfl))
 f266 := func227.trans (congrArg some (by kernel_rfl))
 f267 := func190.trans (congrArg some (by kernel_rfl))
 f314 := func228.trans (congrArg some (by kernel_rfl))
 t0 := underlying0
 a0 := Tryz.isAgg0
 z0 := Tryz.sizeOf0
 v0 := Tryz.zeroValue0
 t3 := underlying3
 a3 := Tryz.isAgg3
 z3 := Tryz.sizeOf3
 v3 := Tryz.zeroValue3
 t4 := underlying4
 a4 := Tryz.isAgg4
 z4 := Tryz.sizeOf4
 v4 := Tryz.zeroValue4
 t5 := underlying5
 a5 := Tryz.isAgg5
 z5 := Tryz.sizeOf5
 v5 := Tryz.zeroValue5
 t9 := underlying9
 a9 := Tryz.isAgg9
 z9 := Tryz.sizeOf9
 v9 := Tryz.zeroValue9
 t46 := underlying130
 a46 := Tryz.isAgg130
 z46 := Tryz.sizeOf130
 v46 := Tryz.zeroValue130
 t51 := underlying164
 a51 := Tryz.isAgg164
 z51 := Tryz.sizeOf164
 v51 := Tryz.zeroValue164
 t146 := underlying178
 a146 := Tryz.isAgg178
 z146 := Tryz.sizeOf178
 v146 := Tryz.zeroValue178
 g1 := by kernel_rfl }
open Go.RowKit Go.Lib in
/-- strings.Count AT A substr OF ONE BYTE ('hp'): "Count counts the number of non-overlapping instances of substr in s.": IT RETURNS 'Lib.countByte s (that byte)'; the world is as it was. ✋ NO CONTRACT HERE YET at an empty substr (utf8.RuneCountInString) or at a longer one (a loop over strings.Index). (LAID: no walk: one application.) -/
theorem Tryz.strings_Count_one (s : ByteArray) (c : UInt8) (w : World) :
    Calls prog 86 #[.string s, .string ⟨#[c]⟩] w fun e w' => e = .returned (.int .i64 (Lib.countByte s.data.toList c)) ∧ w' = w := Any.strings_Count_one Tryz.lays138 s c w
def Tryz.lays149_ren : Go.Shelf.Ren := ⟨fun | 149 => 87 | 222 => 125 | n => n, fun | 9 => 9 | 5 => 5 | 3 => 3 | 4 => 4 | n => n, fun | n => n⟩
theorem Tryz.lays149 : Go.Proofs.Lays.n149 prog Tryz.lays149_ren := {
 mixed := by kernel_rfl
 f149 := func87.trans (congrArg some (by kernel_rfl))
 f222 := func125.trans (congrArg some (by kernel_rfl))
 t3 := underlying3
 a3 := Tryz.isAgg3
 z3 := Tryz.sizeOf3
 v3 := Tryz.zeroValue3
 t4 := underlying4
 a4 := Tryz.isAgg4
 z4 := Tryz.sizeOf4
 v4 := Tryz.zeroValue4
 t5 := underlying5
 a5 := Tryz.isAgg5
 z5 := Tryz.sizeOf5
 v5 := Tryz.zeroValue5
 t9 := underlying9
 a9 := Tryz.isAgg9
 z9 := Tryz.sizeOf9
 v9 := Tryz.zeroValue9 }
open Go.RowKit Go.Lib in
/-- strings.LastIndexByte: "LastIndexByte returns the index of the last instance of c in s, or -1 if c is not present in s." (LAID: no walk: one application.) -/
theorem Tryz.strings_LastIndexByte (s : ByteArray) (c : Int) (hs : s.size < 4611686018427387904) (w : World) :
    Calls prog 87 #[.string s, .int .u8 c] w fun e w' => e = .returned (.int .i64 (Lib.lastIndexByte s c)) ∧ w' = w := Any.strings_LastIndexByte Tryz.lays149 s c hs w
def Tryz.lays99_ren : Go.Shelf.Ren := ⟨fun | 99 => 146 | 206 => 184 | n => n, fun | 9 => 9 | 4 => 4 | 3 => 3 | n => n, fun | n => n⟩
theorem Tryz.lays99 : Go.Proofs.Lays.n99 prog Tryz.lays99_ren := {
 mixed := by kernel_rfl
 f99 := func146.trans (congrArg some (by kernel_rfl))
 f206 := func184.trans (congrArg some (by kernel_rfl))
 t3 := underlying3
 a3 := Tryz.isAgg3
 z3 := Tryz.sizeOf3
 v3 := Tryz.zeroValue3
 t4 := underlying4
 a4 := Tryz.isAgg4
 z4 := Tryz.sizeOf4
 v4 := Tryz.zeroValue4
 t9 := underlying9
 a9 := Tryz.isAgg9
 z9 := Tryz.sizeOf9
 v9 := Tryz.zeroValue9 }
open Go.RowKit Go.Lib in
/-- strings.HasPrefix: "HasPrefix reports whether the string s begins with prefix.": IT RETURNS 'Lib.hasPrefix s prefix'; the world is as it was. (LAID: no walk: one application.) -/
theorem Tryz.strings_HasPrefix (s p : ByteArray) (w : World) :
    Calls prog 146 #[.string s, .string p] w fun e w' => e = .returned (.bool (Lib.hasPrefix s.data.toList p.data.toList)) ∧ w' = w := Any.strings_HasPrefix Tryz.lays99 s p w
def Tryz.lays107_ren : Go.Shelf.Ren := ⟨fun | 107 => 157 | 108 => 193 | n => n, fun | 28 => 34 | 3 => 3 | 4 => 4 | 0 => 0 | n => n, fun | n => n⟩
theorem Tryz.lays107 : Go.Proofs.Lays.n107 prog Tryz.lays107_ren := {
 mixed := by kernel_rfl
 f107 := func157.trans (congrArg some (by kernel_rfl))
 f108 := func193.trans (congrArg some (by kernel_rfl))
 t0 := underlying0
 a0 := Tryz.isAgg0
 z0 := Tryz.sizeOf0
 v0 := Tryz.zeroValue0
 t3 := underlying3
 a3 := Tryz.isAgg3
 z3 := Tryz.sizeOf3
 v3 := Tryz.zeroValue3
 t4 := underlying4
 a4 := Tryz.isAgg4
 z4 := Tryz.sizeOf4
 v4 := Tryz.zeroValue4
 t28 := underlying34
 a28 := Tryz.isAgg34
 z28 := Tryz.sizeOf34
 v28 := Tryz.zeroValue34 }
open Go.Lib in
/-- slices.Contains at []int: "Contains reports whether v is present in s.": IT RETURNS 'elements.contains v'; the world is as it was. ITS CALLEE slices.Index IS MET BY ITS OWN CONTRACT OFF THE SHELF (lay that first): no loop is walked here. (LAID: no walk: one application.) -/
theorem Tryz.slices_Contains_int (b off n c : Nat) (zs : List Int) (x : Int) (w : World) (hz : n ≤ zs.length) (hbig : n ≤ 9223372036854775807) (hc : ∀ j, j < zs.length → w.cell? ⟨b, off + j, none⟩ = some (.int .i64 (zs.getD j 0))) :
    Calls prog 157 #[.slice (some ⟨b, off, none⟩) n c, .int .i64 x] w fun e w' => e = .returned (.bool ((zs.take n).contains x)) ∧ w' = w := Any.slices_Contains_int Tryz.lays107 b off n c zs x w hz hbig hc
def Tryz.lays110_ren : Go.Shelf.Ren := ⟨fun | 110 => 22 | 109 => 56 | n => n, fun | 31 => 37 | 9 => 9 | 4 => 4 | 3 => 3 | 0 => 0 | n => n, fun | n => n⟩
theorem Tryz.lays110 : Go.Proofs.Lays.n110 prog Tryz.lays110_ren := {
 mixed := by kernel_rfl
 f109 := func56.trans (congrArg some (by kernel_rfl))
 f110 := func22.trans (congrArg some (by kernel_rfl))
 t0 := underlying0
 a0 := Tryz.isAgg0
 z0 := Tryz.sizeOf0
 v0 := Tryz.zeroValue0
 t3 := underlying3
 a3 := Tryz.isAgg3
 z3 := Tryz.sizeOf3
 v3 := Tryz.zeroValue3
 t4 := underlying4
 a4 := Tryz.isAgg4
 z4 := Tryz.sizeOf4
 v4 := Tryz.zeroValue4
 t9 := underlying9
 a9 := Tryz.isAgg9
 z9 := Tryz.sizeOf9
 v9 := Tryz.zeroValue9
 t31 := underlying37
 a31 := Tryz.isAgg37
 z31 := Tryz.sizeOf37
 v31 := Tryz.zeroValue37 }
open Go.Lib in
/-- slices.Contains at []string: "Contains reports whether v is present in s.": IT RETURNS 'Lib.containsS (the elements) v', which is true just where v is among them ('Lib.containsS_iff'); the world is as it was. ITS CALLEE slices.Index IS MET BY ITS OWN CONTRACT OFF THE SHELF (lay that first): no loop is walked here. (LAID: no walk: one application.) -/
theorem Tryz.slices_Contains_string (b off n c : Nat) (zs : List ByteArray) (x : ByteArray) (w : World) (hz : n ≤ zs.length) (hbig : n ≤ 9223372036854775807) (hc : ∀ j, j < zs.length → w.cell? ⟨b, off + j, none⟩ = some (.string (zs.getD j ByteArray.empty))) :
    Calls prog 22 #[.slice (some ⟨b, off, none⟩) n c, .string x] w fun e w' => e = .returned (.bool (Lib.containsS (zs.take n) x)) ∧ w' = w := Any.slices_Contains_string Tryz.lays110 b off n c zs x w hz hbig hc
open Go.Lib in
/-- The same at a slice of length 0, a nil one too. (LAID: no walk: one application.) -/
theorem Tryz.slices_Contains_string_empty (a : Option Addr) (c : Nat) (x : ByteArray) (w : World) :
    Calls prog 22 #[.slice a 0 c, .string x] w fun e w' => e = .returned (.bool false) ∧ w' = w := Any.slices_Contains_string_empty Tryz.lays110 a c x w
end Go.Proofs
namespace Go.Proofs.YtgbikafalcbibaaGreatDoor
open Go.RowKit
def inB (n a b : Int) : Bool := decide (a ≤ n ∧ n ≤ b)
theorem inB_yes {n a b : Int} (h : a ≤ n) (h' : n ≤ b) : inB n a b = true := decide_eq_true ⟨h, h'⟩
theorem inB_lo {n a b : Int} (h : ¬ a ≤ n) : inB n a b = false := decide_eq_false (fun g => h g.1)
theorem inB_hi {n a b : Int} (h : ¬ n ≤ b) : inB n a b = false := decide_eq_false (fun g => h g.2)
theorem l01In_b (a b c : Int) (w : World) : Calls prog 50 #[.int .i64 a, .int .i64 b, .int .i64 c] w fun e w' => e = .returned (.bool (inB a b c)) ∧ w = w' := by
 by_cases h0 : b ≤ a
 ·by_cases h1 : a ≤ c
  ·rw [inB_yes h0 h1]
   go_enter func50, ntmps50
   go_wp2
   go_ret
   exact ⟨rfl, rfl⟩
  ·rw [inB_hi h1]
   go_enter func50, ntmps50
   go_wp2
   go_ret
   exact ⟨rfl, rfl⟩
 ·rw [inB_lo h0]
  go_enter func50, ntmps50
  go_wp2
  go_ret
  exact ⟨rfl, rfl⟩
theorem inRange_b (a b c : Int) (w : World) : Calls prog 140 #[.int .i64 a, .int .i64 b, .int .i64 c] w fun e w' => e = .returned (.bool (inB a b c)) ∧ w = w' := by
 by_cases h0 : b ≤ a
 ·by_cases h1 : a ≤ c
  ·rw [inB_yes h0 h1]
   go_enter func140, ntmps140
   go_wp2
   go_ret
   exact ⟨rfl, rfl⟩
  ·rw [inB_hi h1]
   go_enter func140, ntmps140
   go_wp2
   go_ret
   exact ⟨rfl, rfl⟩
 ·rw [inB_lo h0]
  go_enter func140, ntmps140
  go_wp2
  go_ret
  exact ⟨rfl, rfl⟩
theorem infoStr : (prog.info? 9).map (fun i => (i.zero, i.size, i.bytes)) = some (some (.string ⟨#[]⟩), 1, 16) := by kernel_rfl
theorem cell_one_new (w : World) (u : Value) (t : TypeId) : ∀ j v, [u][j]? = some v → (w.alloc (.cells #[u] t)).cell? ((⟨w.heap.size, 0, none⟩ : Addr).add j) = some v := by
 intro j v hj
 match j, hj with
 | 0, hj =>
  obtain rfl := Option.some.inj hj
  exact (Blk.new w t #[u]).cell 0
 | j + 1, hj => simp at hj
end Go.Proofs.YtgbikafalcbibaaGreatDoor

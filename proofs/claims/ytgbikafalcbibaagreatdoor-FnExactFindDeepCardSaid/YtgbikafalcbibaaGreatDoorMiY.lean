/-
  Put together by program (shake.py): FhG, FhB, Dec, LaidT, FhC, FhD, FhE.
-/
import Derived.Test.YtgbikafalcbibaaGreatDoorMiX
import Derived.Test.YtgbikafalcbibaaGreatDoorMiV
import Derived.Test.YtgbikafalcbibaaGreatDoorMiB
import Derived.Test.YtgbikafalcbibaaGreatDoorMiU
import Derived.Lib.SmallJoins
import Derived.Lib.AppendIntMem
import Derived.Lib.ItoaLen
import Derived.DataShut
import Derived.Test.YtgbikafalcbibaaGreatDoorMiK
set_option maxRecDepth 100000
set_option maxHeartbeats 25600000
set_option linter.unusedVariables false
set_option linter.unusedSimpArgs false
open Go.Lib (hid)
open Go.Proofs.Tryz
namespace Go.Proofs.YtgbikafalcbibaaGreatDoor
open Go.RowKit
def isBlk (p : PN) : Int := if (p.kind == 18) = true then 1 else 0
def bstep (ps : List PN) (B : List Int) (k : Nat) : List Int := match ps[k]? with | none => B | some p => p.kids.foldl (fun b v => b.set v.toNat (B.getD k 0 + isBlk p)) B
def blkTo (ps : List PN) (n : Nat) : Nat → List Int
 | 0 => List.replicate n 0
 | j + 1 => bstep ps (blkTo ps n j) (n - 1 - j)
def blkV (ps : List PN) : List Int := blkTo ps ps.length ps.length
theorem setAll (x : Int) : ∀ (l : List Int) (B : List Int), (∀ v ∈ l, 0 ≤ v) → (l.foldl (fun b v => b.set v.toNat x) B).length = B.length ∧ ∀ j, j < B.length → (l.foldl (fun b v => b.set v.toNat x) B).getD j 0 = if (j : Int) ∈ l then x else B.getD j 0 := by
 intro l
 induction l with
 | nil => intro B _; exact ⟨rfl, fun j hj => by simp⟩
 | cons v l ih =>
  intro B hv
  obtain ⟨h1, h2⟩ := ih (B.set v.toNat x) (fun u hu => hv u (List.mem_cons_of_mem _ hu))
  have hv0 := hv v (by simp)
  rw [List.foldl_cons]
  refine ⟨by rw [h1, List.length_set], fun j hj => ?_⟩
  rw [h2 j (by rw [List.length_set]; exact hj)]
  by_cases hjl : (j : Int) ∈ l
  ·rw [if_pos hjl, if_pos (List.mem_cons_of_mem _ hjl)]
  ·rw [if_neg hjl]
   by_cases hjv : (j : Int) = v
   ·rw [if_pos (by rw [hjv]; simp)]
    have e : v.toNat = j := by omega
    rw [e, List.getD_eq_getElem?_getD, List.getElem?_set_self hj]
    rfl
   ·rw [if_neg (by simp only [List.mem_cons, not_or]; exact ⟨hjv, hjl⟩)]
    rw [List.getD_eq_getElem?_getD, List.getElem?_set_ne (by omega), List.getD_eq_getElem?_getD]
def BInv (ps : List PN) (m : Nat) (B : List Int) (lo : Nat) : Prop :=
 B.length = m + 1 ∧ B.getD m 0 = 0 ∧ (∀ j, j ≤ m → 0 ≤ B.getD j 0 ∧ B.getD j 0 + lo ≤ m + 1) ∧ ∀ k p, lo ≤ k → ps[k]? = some p → ∀ v ∈ p.kids, B.getD v.toNat 0 = B.getD k 0 + isBlk p
theorem isBlk_le (p : PN) : 0 ≤ isBlk p ∧ isBlk p ≤ 1 := by unfold isBlk; split <;> omega
theorem bstep_inv {ps : List PN} {m : Nat} (hg : Good ps) (hl : ps.length = m + 1) (hu : usedTo ps (m + 1) m) {B : List Int} {k : Nat} (hk : k ≤ m) (h : BInv ps m B (k + 1)) : BInv ps m (bstep ps B k) k := by
 obtain ⟨h1, h2, h3, h4⟩ := h
 obtain ⟨p, hp⟩ : ∃ p, ps[k]? = some p := ⟨_, gE (by omega)⟩
 have hgk := (hg k p hp).2
 obtain ⟨s1, s2⟩ := setAll (B.getD k 0 + isBlk p) p.kids B (fun v hv => (hgk v hv).1)
 have e : bstep ps B k = p.kids.foldl (fun b v => b.set v.toNat (B.getD k 0 + isBlk p)) B := by unfold bstep; rw [hp]
 have hb := isBlk_le p
 rw [e]
 have hself : ∀ j, k ≤ j → j ≤ m → (p.kids.foldl (fun b v => b.set v.toNat (B.getD k 0 + isBlk p)) B).getD j 0 = B.getD j 0 := fun j hkj hjm => by
  rw [s2 j (by omega), if_neg (fun hm => by have := hgk _ hm; omega)]
 refine ⟨by rw [s1, h1], by rw [hself m hk (Nat.le_refl _)]; exact h2, fun j hj => ?_, fun k' p' hk' hp' v hv => ?_⟩
 ·rw [s2 j (by omega)]
  have hj3 := h3 j hj
  have hk3 := h3 k hk
  split <;> omega
 ·have hk'l := (List.getElem?_eq_some_iff.1 hp').1
  have hgv := (hg k' p' hp').2 v hv
  obtain ⟨i, rfl⟩ := Int.eq_ofNat_of_zero_le hgv.1
  rw [Int.toNat_natCast]
  rw [hself k' hk' (by omega), s2 i (by omega)]
  by_cases hik : (i : Int) ∈ p.kids
  ·obtain rfl := one_parent hu (show i < m by omega) hp hp' hik hv (by omega) (by omega)
   rw [hp] at hp'
   obtain rfl := Option.some.inj hp'
   rw [if_pos hik]
  ·rw [if_neg hik]
   have hne : k' ≠ k := fun e => by subst e; rw [hp] at hp'; obtain rfl := Option.some.inj hp'; exact hik hv
   have := h4 k' p' (by omega) hp' (i : Int) hv
   rwa [Int.toNat_natCast] at this
theorem blkTo_inv {ps : List PN} {m : Nat} (hg : Good ps) (hl : ps.length = m + 1) (hu : usedTo ps (m + 1) m) : ∀ j, j ≤ m + 1 → BInv ps m (blkTo ps (m + 1) j) (m + 1 - j) := by
 intro j
 induction j with
 | zero =>
  intro _
  refine ⟨by simp [blkTo], by simp [blkTo], fun j hj => ?_, fun k p hk hp => ?_⟩
  ·simp [blkTo, List.getD_eq_getElem?_getD, List.getElem?_replicate]
   split <;> simp
  ·have := (List.getElem?_eq_some_iff.1 hp).1
   omega
 | succ j ih =>
  intro hj
  have h := ih (by omega)
  have e : m + 1 - (j + 1) = m + 1 - 1 - j := by omega
  rw [e]
  exact bstep_inv hg hl hu (by omega) (by rw [show m + 1 - 1 - j + 1 = m + 1 - j by omega]; exact h)
theorem blkV_inv {ps : List PN} {m : Nat} (hg : Good ps) (hl : ps.length = m + 1) (hu : usedTo ps (m + 1) m) : BInv ps m (blkV ps) 0 := by
 have h := blkTo_inv hg hl hu (m + 1) (Nat.le_refl _)
 rw [Nat.sub_self] at h
 unfold blkV
 rw [hl]
 exact h
def l27F (ps : List PN) : Nat → Nat → Int → List Int → List Int
 | 0, _, _, o => o
 | f + 1, k, x, o => match ps[k]? with | none => o | some p => p.kids.foldl (fun o v => l27F ps f v.toNat (x + isBlk p) o) (o.set k x)
theorem und_all {ps : List PN} {m : Nat} (hg : Good ps) (hl : ps.length = m + 1) (hu : usedTo ps (m + 1) m) : ∀ d j, j + d = m → Und ps m j := by
 intro d
 induction d using Nat.strongRecOn with
 | ind d ih =>
  intro j hj
  by_cases hjm : j = m
  ·subst hjm; exact .refl _
  ·obtain ⟨k, p, hk, hp, hv⟩ := a_parent hu (show j < m by omega)
   have := (hg k p hp).2 _ hv
   exact (ih (m - k) (by omega) k (by omega)).snoc hp hv
theorem l27F_spec {ps : List PN} {m : Nat} (hg : Good ps) (hl : ps.length = m + 1) {D : List Int} (hD : BInv ps m D 0) : ∀ (f k : Nat) (o : List Int), k < f → k ≤ m → o.length = m + 1 →
  (l27F ps f k (D.getD k 0) o).length = m + 1 ∧ (∀ j, (l27F ps f k (D.getD k 0) o).getD j 0 = D.getD j 0 ∨ (l27F ps f k (D.getD k 0) o).getD j 0 = o.getD j 0) ∧ ∀ j, Und ps k j → (l27F ps f k (D.getD k 0) o).getD j 0 = D.getD j 0 := by
 intro f
 induction f with
 | zero => intro k o h; omega
 | succ f ih =>
  intro k o hkf hkm ho
  obtain ⟨p, hp⟩ : ∃ p, ps[k]? = some p := ⟨_, gE (by omega)⟩
  have e : l27F ps (f + 1) k (D.getD k 0) o = p.kids.foldl (fun o v => l27F ps f v.toNat (D.getD k 0 + isBlk p) o) (o.set k (D.getD k 0)) := by
   conv => lhs; unfold l27F
   rw [hp]
  rw [e]
  have hgk := (hg k p hp).2
  have key : ∀ (l : List Int) (o : List Int), (∀ v ∈ l, v ∈ p.kids) → o.length = m + 1 →
    (l.foldl (fun o v => l27F ps f v.toNat (D.getD k 0 + isBlk p) o) o).length = m + 1 ∧ (∀ j, (l.foldl (fun o v => l27F ps f v.toNat (D.getD k 0 + isBlk p) o) o).getD j 0 = D.getD j 0 ∨ (l.foldl (fun o v => l27F ps f v.toNat (D.getD k 0 + isBlk p) o) o).getD j 0 = o.getD j 0) ∧ ∀ v ∈ l, ∀ j, Und ps v.toNat j → (l.foldl (fun o v => l27F ps f v.toNat (D.getD k 0 + isBlk p) o) o).getD j 0 = D.getD j 0 := by
   intro l
   induction l with
   | nil => intro o _ ho; exact ⟨ho, fun j => .inr rfl, fun v hv => by cases hv⟩
   | cons v l ihl =>
    intro o hs ho
    have hv := hs v (by simp)
    have hvb := hgk v hv
    have hval : D.getD k 0 + isBlk p = D.getD v.toNat 0 := (hD.2.2.2 k p (Nat.zero_le _) hp v hv).symm
    obtain ⟨i1, i2, i3⟩ := ih v.toNat o (by omega) (by omega) ho
    rw [← hval] at i1 i2 i3
    obtain ⟨j1, j2, j3⟩ := ihl (l27F ps f v.toNat (D.getD k 0 + isBlk p) o) (fun u hu => hs u (List.mem_cons_of_mem _ hu)) i1
    rw [List.foldl_cons]
    refine ⟨j1, fun j => ?_, fun u hu j hj => ?_⟩
    ·rcases j2 j with h | h
     ·exact .inl h
     ·rw [h]; exact i2 j
    ·rcases List.mem_cons.1 hu with rfl | hu
     ·rcases j2 j with h | h
      ·exact h
      ·rw [h]; exact i3 j hj
     ·exact j3 u hu j hj
  obtain ⟨k1, k2, k3⟩ := key p.kids (o.set k (D.getD k 0)) (fun v h => h) (by rw [List.length_set]; exact ho)
  have hset : ∀ j, (o.set k (D.getD k 0)).getD j 0 = if j = k then D.getD k 0 else o.getD j 0 := fun j => by
   by_cases hjk : j = k
   ·subst hjk
    rw [if_pos rfl, List.getD_eq_getElem?_getD, List.getElem?_set_self (by omega)]; rfl
   ·rw [if_neg hjk, List.getD_eq_getElem?_getD, List.getElem?_set_ne (by omega), List.getD_eq_getElem?_getD]
  refine ⟨k1, fun j => ?_, fun j hj => ?_⟩
  ·rcases k2 j with h | h
   ·exact .inl h
   ·rw [h, hset j]
    split
    ·next h2 => subst h2; exact .inl rfl
    ·exact .inr rfl
  ·cases hj with
   | refl =>
    rcases k2 k with h | h
    ·exact h
    ·rw [h, hset k, if_pos rfl]
   | kid hp' hv' hu =>
    rw [hp] at hp'
    obtain rfl := Option.some.inj hp'
    exact k3 _ hv' j (by rw [Int.toNat_natCast]; exact hu)
theorem l27F_eq {ps : List PN} (h : treeB ps = true) : l27F ps ps.length (ps.length - 1) 0 (List.replicate ps.length 0) = blkV ps := by
 obtain ⟨m, hl, _, hg, hu⟩ := tree_one h
 have hD := blkV_inv hg hl hu
 have h0 := hD.2.1
 rw [hl, Nat.add_sub_cancel]
 obtain ⟨h1, _, h3⟩ := l27F_spec hg hl hD (m + 1) m (List.replicate (m + 1) 0) (by omega) (Nat.le_refl _) (by simp)
 rw [h0] at h1 h3
 refine List.ext_getElem? (fun j => ?_)
 by_cases hj : j < m + 1
 ·have h4 := h3 j (und_all hg hl hu (m - j) j (by omega))
  rw [List.getD_eq_getElem?_getD, List.getD_eq_getElem?_getD, List.getElem?_eq_getElem (by omega), List.getElem?_eq_getElem (by rw [hD.1]; exact hj)] at h4
  rw [List.getElem?_eq_getElem (by omega), List.getElem?_eq_getElem (by rw [hD.1]; exact hj)]
  simpa using h4
 ·rw [List.getElem?_eq_none (by omega), List.getElem?_eq_none (by rw [hD.1]; omega)]
theorem ints_put {w : World} {g n k : Nat} {o : List Int} {x : Int} (h : Own w g 3 n (intCells o)) (hl : o.length = n) (hk : k < n) : Own (w.setCell ⟨g, k, none⟩ (.int .i64 x)) g 3 n (intCells (o.set k x)) := by
 have := h.put (i := k) (by simp [intCells, hl]; exact hk) (.int .i64 x)
 unfold intCells at this ⊢
 rw [List.map_set]
 exact this
theorem l27F_len (ps : List PN) : ∀ (f k : Nat) (x : Int) (o : List Int), (l27F ps f k x o).length = o.length := by
 intro f
 induction f with
 | zero => intro k x o; rfl
 | succ f ih =>
  intro k x o
  unfold l27F
  cases ps[k]? with
  | none => rfl
  | some p =>
   have key : ∀ (l : List Int) (o : List Int), (l.foldl (fun o v => l27F ps f v.toNat (x + isBlk p) o) o).length = o.length := by
    intro l
    induction l with
    | nil => intro o; rfl
    | cons v l ih2 => intro o; rw [List.foldl_cons, ih2, ih]
   dsimp only
   rw [key, List.length_set]
def BlkC (w0 : World) (A : Option Addr) (n c g : Nat) (ps : List PN) (f : Nat) : Prop :=
 ∀ (k : Nat) (x : Int) (o : List Int) (W : World), k < f → k < n → o.length = n → 0 ≤ x → x + f ≤ 1000 → Below w0.heap.size w0 W → Own W g 3 n (intCells o) →
  Calls prog 29 #[.slice A n c, .int .i64 k, .int .i64 x, .slice (some ⟨g, 0, none⟩) n n] W fun e w' => e = .returned (.tuple #[]) ∧ Below w0.heap.size w0 w' ∧ Own w' g 3 n (intCells (l27F ps f k x o))
theorem l27Blocks_step (w0 : World) (A : Option Addr) (n c g : Nat) (ps : List PN) (hps : Nps w0 A n ps) (hg : Good ps) (hgg : w0.heap.size ≤ g) (hn : n ≤ 300) (f : Nat) (hC : BlkC w0 A n c g ps f) : BlkC w0 A n c g ps (f + 1) := by
 intro k x o W hkf hkn ho hx0 hx1 hb how
 obtain ⟨p, hp⟩ := hps.get hkn
 obtain ⟨hk12, hkv⟩ := hg k p hp
 obtain ⟨y, hy⟩ : ∃ y, x + isBlk p = y := ⟨_, rfl⟩
 obtain ⟨ks, hks⟩ : ∃ ks, p.kids = ks := ⟨_, rfl⟩
 obtain ⟨ml, hml⟩ : ∃ ml, ks.length = ml := ⟨_, rfl⟩
 obtain ⟨G, hG⟩ : ∃ G, (fun i => (ks.take i).foldl (fun o v => l27F ps f v.toNat y o) (o.set k x)) = G := ⟨_, rfl⟩
 have HE := hid (show l27F ps (f + 1) k x o = G ml by
  conv => lhs; unfold l27F
  rw [hp, ← hG]
  dsimp only
  rw [hy, hks, ← hml, List.take_length])
 have HG0 := hid (show G 0 = o.set k x by rw [← hG]; rfl)
 have HGS := hid (show ∀ (i : Nat) (v : Int), ks[i]? = some v → G (i + 1) = l27F ps f v.toNat y (G i) from fun i v hv => by
  rw [← hG]
  dsimp only
  rw [List.take_add_one, hv, Option.toList_some, List.foldl_append]
  rfl)
 have HGL := hid (show ∀ i, (G i).length = n from fun i => by
  rw [← hG]
  have key : ∀ (l : List Int) (o : List Int), (l.foldl (fun o v => l27F ps f v.toNat y o) o).length = o.length := by
   intro l
   induction l with
   | nil => intro o; rfl
   | cons v l ih2 => intro o; rw [List.foldl_cons, ih2, l27F_len]
  dsimp only
  rw [key, List.length_set, ho])
 rw [hks] at hkv hk12
 have HKV := hid hkv
 have HPS := hid hps
 have HC := hid hC
 have HP := hid hp
 have HKS := hid hks
 have HML := hid hml
 have hkn' : (k : Int) < (n : Int) := by omega
 have hml12 : ml ≤ 12 := by omega
 have HB0 := hid hb
 have HO1 := hid (ints_put (x := x) how ho hkn)
 obtain ⟨u0, hu0⟩ := how.there hkn
 have huf := how.frozen
 have huz := how.lt
 rw [HE.out]
 have HB1 := hid (hb.setCell (show w0.heap.size ≤ (⟨g, k, none⟩ : Addr).block from hgg) (.int .i64 x))
 clear hps hg hC hp hks hml hG hb how hkv HE
 have hib := isBlk_le p
 go_enter func29, ntmps29
 go_upto_region 1 with fail
 clear u0 hu0 huf huz
 generalize W.setCell ⟨g, k, none⟩ (.int .i64 x) = W1 at HB1 HO1 ⊢
 obtain ⟨b, off, A', c', rfl, hblt, x0, x1', x2, x3, _, _⟩ := (HPS.out.below HB1.out).atc hkn HP.out
 have HY : Hid (y = if (p.kind == 18) = true then x + 1 else x) := (show y = if (p.kind == 18) = true then x + 1 else x by
  rw [← hy]; unfold isBlk; split <;> omega)
 clear x1' x2 x3 hy hib
 have HAT := hid (fun (wr : World) (h : Below w0.heap.size w0 wr) => (HPS.out.below h).atc hkn HP.out)
 have hi0 : (x + 1) + (f : Int) ≤ 1000 := by omega
 rcases bft (p.kind == 18) with g1 | g1
 ·rw [g1, if_pos rfl] at HY
  obtain rfl := HY.out
  go_upto_region 3 with fail
  clear x0 hblt
  go_wp2
  go_loopw [8] (fun i wr => ∃ j : Nat, j ≤ ml ∧ i = .int .i64 j ∧ Hid (Below w0.heap.size w0 wr) ∧ Hid (Own wr g 3 n (intCells (G j)))) (fun i _ => ml - (intOf i).toNat)
  case atStart => exact ⟨0, Nat.zero_le _, rfl, HB1, by rw [HG0.out]; exact HO1⟩
  case round =>
   clear HB1 HO1
   obtain ⟨j, hj, rfl, HBr, HOr⟩ := hrel
   obtain ⟨b', off', A2, c2, e8, hblt', y0, y1, y2, y3, _, hkr⟩ := HAT.out wr HBr.out
   injection e8 with e8
   injection e8 with e81 e82
   subst e81; subst e82
   rw [HKS.out, HML.out] at y2 hkr
   by_cases hjm : j < ml
   ·obtain ⟨v, hv⟩ : ∃ v, ks[j]? = some v := ⟨_, gE (by rw [HML.out]; exact hjm)⟩
    have hvb := HKV.out v (List.mem_of_getElem? hv)
    obtain ⟨q, rfl⟩ := Int.eq_ofNat_of_zero_le hvb.1
    obtain ⟨b7, off7, rfl, hblt7, c7⟩ := int_at hkr hjm hv
    have hjm' : (j : Int) < (ml : Int) := by omega
    have HS1 := hid (HGS.out j _ hv)
    rw [Int.toNat_natCast] at HS1
    have HF := hid (HC.out q (x + 1) (G j) wr (by omega) (by omega) (HGL.out j) (by omega) (by omega) HBr.out HOr.out)
    rw [← HS1.out] at HF
    clear hv hvb hkr y0 y1 y3
    go_wp2_with fail
    refine HF.out.mono ?_
    rintro e w2 ⟨rfl, hb2, ho2⟩
    have HB2 := hid hb2
    have HO2 := hid ho2
    clear hb2 ho2 y2 hblt' c7 hblt7 HF
    go_wp2
    go_roundw
    case rel => exact ⟨j + 1, by omega, by go_num, HB2, HO2⟩
    case measure => simp [intOf]; omega
   ·obtain rfl : j = ml := by omega
    clear y0 y1 y3 hkr
    go_wp2
    go_end0
    exact ⟨rfl, HBr.out, HOr.out⟩
 ·rw [g1, if_neg (by decide)] at HY
  obtain rfl := HY.out
  go_upto_region 3 with fail
  clear x0 hblt
  go_wp2
  go_loopw [8] (fun i wr => ∃ j : Nat, j ≤ ml ∧ i = .int .i64 j ∧ Hid (Below w0.heap.size w0 wr) ∧ Hid (Own wr g 3 n (intCells (G j)))) (fun i _ => ml - (intOf i).toNat)
  case atStart => exact ⟨0, Nat.zero_le _, rfl, HB1, by rw [HG0.out]; exact HO1⟩
  case round =>
   clear HB1 HO1
   obtain ⟨j, hj, rfl, HBr, HOr⟩ := hrel
   obtain ⟨b', off', A2, c2, e8, hblt', y0, y1, y2, y3, _, hkr⟩ := HAT.out wr HBr.out
   injection e8 with e8
   injection e8 with e81 e82
   subst e81; subst e82
   rw [HKS.out, HML.out] at y2 hkr
   by_cases hjm : j < ml
   ·obtain ⟨v, hv⟩ : ∃ v, ks[j]? = some v := ⟨_, gE (by rw [HML.out]; exact hjm)⟩
    have hvb := HKV.out v (List.mem_of_getElem? hv)
    obtain ⟨q, rfl⟩ := Int.eq_ofNat_of_zero_le hvb.1
    obtain ⟨b7, off7, rfl, hblt7, c7⟩ := int_at hkr hjm hv
    have hjm' : (j : Int) < (ml : Int) := by omega
    have HS1 := hid (HGS.out j _ hv)
    rw [Int.toNat_natCast] at HS1
    have HF := hid (HC.out q y (G j) wr (by omega) (by omega) (HGL.out j) (by omega) (by omega) HBr.out HOr.out)
    rw [← HS1.out] at HF
    clear hv hvb hkr y0 y1 y3
    go_wp2_with fail
    refine HF.out.mono ?_
    rintro e w2 ⟨rfl, hb2, ho2⟩
    have HB2 := hid hb2
    have HO2 := hid ho2
    clear hb2 ho2 y2 hblt' c7 hblt7 HF
    go_wp2
    go_roundw
    case rel => exact ⟨j + 1, by omega, by go_num, HB2, HO2⟩
    case measure => simp [intOf]; omega
   ·obtain rfl : j = ml := by omega
    clear y0 y1 y3 hkr
    go_wp2
    go_end0
    exact ⟨rfl, HBr.out, HOr.out⟩
theorem gPow : prog.globalNamed "internal/strconv.uint64pow10" = some 1 := by kernel_rfl
def Tab (w : World) : Prop := Lib.TabIs prog w "internal/strconv.uint64pow10" .u64 Lib.pow10Tab
section
variable {w w' w2 : World} {o o' : Obj}
theorem Tab.next (h : Tab w) (hb : Below w.heap.size w w') : Tab w' := Joins.tab_stays gPow h hb (Nat.le_refl _)
theorem Tab.alloc (h : Tab w) (o : Obj) : Tab (w.alloc o) := h.next ((Below.refl _ _).alloc (Nat.le_refl _) o)
theorem Tab.next1 (h : Tab w) (hb : Below (w.alloc o).heap.size (w.alloc o) w2) : Tab w2 := (h.alloc o).next hb
theorem Tab.next2 (h : Tab w) (hb : Below ((w.alloc o).alloc o').heap.size ((w.alloc o).alloc o') w2) : Tab w2 := ((h.alloc o).alloc o').next hb
theorem Tab.drewN (h : Tab w) (k : Nat) : Tab (w.drewN k) := h
theorem Tab.drew (h : Tab w) : Tab w.drew := h
end
def decT (n : Int) : ByteArray := ⟨(Lib.itoa n).toArray⟩
theorem implDecimal_any (n : Int) (w : World) (h0 : -9223372036854775808 ≤ n) (h1 : n ≤ 9223372036854775807) (ht : Tab w) :
  Calls prog 32 #[.int .i64 n] w fun e w' => e = .returned (.string (decT n)) ∧ Below w.heap.size w w' := by
 go_enter func32, ntmps32
 go_wp2_with fail
 refine (Tryz.strconv_Itoa n h0 h1 _ ht).mono ?_
 rintro e w2 ⟨rfl, k, os, rfl⟩
 go_wp2
 go_ret
 exact ⟨rfl, Lib.below_grow _ _ (Nat.le_refl _) _ _⟩
def restD (q : Nat) : List UInt8 := if q = 0 then [] else Lib.decDigits q
theorem restD_step {q : Nat} (h : 0 < q) : restD q = restD (q / 10) ++ [UInt8.ofNat (48 + q % 10)] := by
 unfold restD
 rw [if_neg (by omega)]
 by_cases h10 : q < 10
 ·rw [if_pos (by omega), Lib.decDigits_one h10, Nat.mod_eq_of_lt h10]; rfl
 ·rw [if_neg (by omega), Lib.decDigits, dif_neg h10]
def DecAt (k q : Nat) (out : ByteArray) : Prop := Lib.decDigits k = restD q ++ out.data.toList
theorem decAt_step {k q : Nat} {out : ByteArray} (h : DecAt k q out) (hq : 0 < q) : DecAt k (q / 10) ((⟨#[48 + UInt8.ofNat (q % 10)]⟩ : ByteArray) ++ out) := by
 unfold DecAt at h ⊢
 rw [h, restD_step hq, ba_app, List.append_assoc]
 congr 1
 rw [show (48 + UInt8.ofNat (q % 10) : UInt8) = UInt8.ofNat (48 + q % 10) by rw [UInt8.ofNat_add]; rfl]
theorem decAt_end {k : Nat} {out : ByteArray} (h : DecAt k 0 out) : decT k = out := by
 unfold DecAt restD at h
 refine ba_ext ?_
 rw [if_pos rfl, List.nil_append] at h
 rw [← h, decT, Lib.itoa_nonneg]
theorem decAt_size {k q : Nat} {out : ByteArray} (h : DecAt k q out) (hk : k ≤ 9223372036854775807) : out.size ≤ 21 := by
 have h1 := Lib.itoa_length_le (k : Int) (by omega) (by omega)
 rw [Lib.itoa_nonneg] at h1
 unfold DecAt at h
 have h2 := congrArg List.length h
 rw [lA, ba_len] at h2
 omega
theorem figure_dec (d : Int) (w : World) (h0 : 0 ≤ d) (h1 : d < 10) : Calls prog 63 #[.int .i64 d] w fun e w' => e = .returned (.int .u8 (48 + d)) ∧ w = w' := by
 go_enter func63, ntmps63
 go_wp2
 go_ret
 exact ⟨rfl, rfl⟩
theorem specDecimal_nat (k : Nat) (w : World) (h1 : k ≤ 9223372036854775807) :
  Calls prog 30 #[.int .i64 (k : Int)] w fun e w' => e = .returned (.string (decT k)) ∧ Below w.heap.size w w' := by
 by_cases hk : k = 0
 ·subst hk
  have HE := hid (show decT (0 : Nat) = ⟨#[48]⟩ by rw [decT, Lib.itoa_nonneg, Lib.decDigits_one (by omega)]; rfl)
  go_enter func30, ntmps30
  go_wp2
  go_ret
  exact ⟨ret_str HE.out.symm, grow_⟩
 ·have hk1 : 0 < k := by omega
  have hk2 : ((k : Int) == 0) = false := by rw [beq_eq_false_iff_ne]; omega
  have hAt := hid (show DecAt k k ⟨#[]⟩ by unfold DecAt restD; rw [if_neg (by omega)]; simp)
  clear hk
  go_enter func30, ntmps30
  go_wp2
  go_loopw [0, 4, 5] (fun a o d wr => ∃ (q : Nat) (out : ByteArray), q ≤ k ∧ Hid (DecAt k q out) ∧ a = .int .i64 q ∧ o = .string out ∧ Below w.heap.size w wr) (fun a _ _ _ => (intOf a).toNat)
  case atStart => exact ⟨k, ⟨#[]⟩, Nat.le_refl _, hAt, rfl, rfl, Below.refl _ _⟩
  case round =>
   obtain ⟨q, out, hqk, hat, rfl, rfl, hb⟩ := hrel
   have hout := decAt_size hat.out h1
   by_cases hq : 0 < q
   ·have hst := hid (decAt_step hat.out hq)
    have hq1 : ((q : Int) != 0) = true := by rw [bne_iff_ne]; omega
    have hm0 : (0 : Int) ≤ (q : Int) % 10 := by omega
    have hm1 : (q : Int) % 10 < 10 := by omega
    have hcv := fun W => conv_one W q
    have hz := hb.size
    go_wp2_with (go_at_call 63; refine (figure_dec _ _ (by omega) (by omega)).mono ?_; rintro e w2 ⟨rfl, rfl⟩)
    go_roundw
    case rel => exact ⟨q / 10, _, by omega, hst, by go_num, rfl, grow_⟩
    case measure => simp [intOf]; omega
   ·obtain rfl : q = 0 := by omega
    have hst := hid (decAt_end hat.out)
    go_wp2
    go_ret
    exact ⟨ret_str hst.out.symm, hb⟩
theorem specDecimal_any (n : Int) (w : World) (h0 : 0 ≤ n) (h1 : n ≤ 9223372036854775807) :
  Calls prog 30 #[.int .i64 n] w fun e w' => e = .returned (.string (decT n)) ∧ Below w.heap.size w w' := by
 obtain ⟨k, rfl⟩ := Int.eq_ofNat_of_zero_le h0
 exact specDecimal_nat k w (by omega)
open Go.ChangeShapes Go.WideShapes Go.ChangeAt Go.RowKit
theorem powData : (Rows.laid_internal_strconv_uint64pow10 : DataW Unit) = Lib.tabData .u64 Lib.pow10Tab := by
 unfold Rows.laid_internal_strconv_uint64pow10 Lib.tabData Lib.pow10Tab
 rfl
theorem maxLenCell {W : World} (h : W.ShapedOpen prog) : ∃ m, W.cell? ⟨0, 0, none⟩ = some (.int .i64 m) :=
 cell_of_shapedOpen_int (t := 3) (zero := #[.int .i64 0]) h (of_decide_eq_true (by kernel_rfl)) (by kernel_rfl) rfl (by kernel_rfl) (by kernel_rfl) underlying3
theorem tab_of_laidT {W : World} (h : laidMetH prog Rows.fnExactFindDeepRow.laid W) : Tab W := by
 rw [MakeChecks.laidMetH_plain _ _ _ (by kernel_rfl)] at h
 have h2 := laidMet.tail (laidMet.tail h)
 rw [powData] at h2
 exact Lib.tabIs_of_head (n := 20) (e := 148) (t := 163) gPow (by kernel_rfl) underlying163 underlying148 (by kernel_rfl) (by kernel_rfl) h2
theorem l27Blocks_all (w0 : World) (A : Option Addr) (n c g : Nat) (ps : List PN) (hps : Nps w0 A n ps) (hg : Good ps) (hgg : w0.heap.size ≤ g) (hn : n ≤ 300) : ∀ f, BlkC w0 A n c g ps f := by
 intro f
 induction f with
 | zero => intro k x o W h; omega
 | succ f ih => exact l27Blocks_step w0 A n c g ps hps hg hgg hn f ih
def deepK (p : PN) : Bool := (p.kind == 16) || (p.kind == 17)
def deepTo (t : ByteArray) (ps : List PN) (D : List Int) (most : Int) : Nat → List FindingD
 | 0 => []
 | k + 1 => deepTo t ps D most k ++ (match ps[k]? with | none => [] | some p => if (deepK p && decide (most < D.getD k 0)) = true then [(3, lineN t (firstV ps k), decT (D.getD k 0))] else [])
def findDeep (t : ByteArray) (most : Int) : List FindingD := match readP t with | none => [] | some ps => deepTo t ps (blkV ps) most ps.length
section
variable {t : ByteArray} {ps : List PN} {D : List Int} {most : Int} {k : Nat} {p : PN}
theorem deepTo_yes (h : ps[k]? = some p) (hp : deepK p = true) (hd : most < D.getD k 0) : deepTo t ps D most (k + 1) = deepTo t ps D most k ++ [(3, lineN t (firstV ps k), decT (D.getD k 0))] := by
 rw [deepTo, h]; simp only [hp, decide_eq_true hd, Bool.and_self, if_true]
theorem deepTo_no (h : ps[k]? = some p) (hp : (deepK p && decide (most < D.getD k 0)) = false) : deepTo t ps D most (k + 1) = deepTo t ps D most k := by
 rw [deepTo, h]; simp only [hp, Bool.false_eq_true, if_false, List.append_nil]
theorem deepTo_len : ∀ k, (deepTo t ps D most k).length ≤ k := by
 intro k
 induction k with
 | zero => simp [deepTo]
 | succ k ih =>
  rw [deepTo, lA]
  split
  ·simp; omega
  ·split <;> simp <;> omega
end
theorem findDeep_len (t : ByteArray) (most : Int) : (findDeep t most).length ≤ 300 := by
 unfold findDeep
 split
 ·simp
 ·next ps h => exact Nat.le_trans (deepTo_len _) (readP_some h).2.1
theorem specFindDeep_no (t : ByteArray) (most : Int) (w : World) (ht : t.size ≤ 1048576) (h : readP t = none) : Calls prog 14 #[.string t, .int .i64 most] w (FindM w []) := by
 have HR := hid (fun W => specRead_any t W ht)
 unfold SRd at HR
 rw [h] at HR
 unfold FindM
 go_enter func14, ntmps14
 go_wp2_with fail
 refine (HR.out _).mono ?_
 rintro e w1 ⟨h1, g, p, rfl, hnps⟩
 have M0 := hid (show Mine w1 w.heap.size 41 3 (some ⟨w.heap.size, 0, none⟩) 0 0 [] from Mine.next (own_empty w 41 3) h1)
 have hb := below_next1 (Below.refl _ _) h1
 clear h1 hnps HR
 go_wp2
 go_ret
 exact ⟨_, _, rfl, M0.out, hb⟩
theorem specFindDeep_yes (t : ByteArray) (most : Int) (w : World) (ht : t.size ≤ 1048576) (ps : List PN) (h : readP t = some ps) : Calls prog 14 #[.string t, .int .i64 most] w (FindM w (deepTo t ps (blkV ps) most ps.length)) := by
 obtain ⟨i0, hi, hz0, hz1, hz2⟩ := info_parts infoFindingI
 have HII := hid (And.intro hi (And.intro hz0 (And.intro hz1 hz2)))
 obtain ⟨j0, hj, hy0, hy1, hy2⟩ := info_parts infoInt
 have HR := hid (fun W => specRead_any t W ht)
 unfold SRd at HR
 rw [h] at HR
 dsimp only at HR
 have HLn := hid (fun (A : Option Addr) (n c : Nat) (k : Int) (W : World) h1 h2 h3 => specLine_any t A n c ps k W ht h1 h2 h3)
 have HPN := hid (readP_some h).2.2
 have htr := (readP_some h).1
 obtain ⟨m, hm, hm3, hg, hu⟩ := tree_one htr
 have hD := blkV_inv hg hm hu
 have hDe := l27F_eq htr
 obtain ⟨D, hDD⟩ : ∃ D, blkV ps = D := ⟨_, rfl⟩
 rw [hDD] at hD hDe ⊢
 have HBd := hid hD.2.2.1
 have HDL := hid hD.1
 rw [hm] at HR hDe ⊢
 rw [Nat.add_sub_cancel] at hDe
 obtain ⟨F, hF⟩ : ∃ F, deepTo t ps D most = F := ⟨_, rfl⟩
 have HSY := hid (show ∀ (k : Nat) (p : PN), ps[k]? = some p → deepK p = true → most < D.getD k 0 → F (k + 1) = F k ++ [(3, lineN t (firstV ps k), decT (D.getD k 0))] from fun k p h1 h2 h3 => by rw [← hF]; exact deepTo_yes h1 h2 h3)
 have HSN := hid (show ∀ (k : Nat) (p : PN), ps[k]? = some p → (deepK p && decide (most < D.getD k 0)) = false → F (k + 1) = F k from fun k p h1 h2 => by rw [← hF]; exact deepTo_no h1 h2)
 have HLe := hid (show ∀ k, (F k).length ≤ k from fun k => by rw [← hF]; exact deepTo_len k)
 have HZ := hid (show F 0 = [] by rw [← hF]; rfl)
 rw [hF]
 have hmk := fun W => run_make_rowN (P := prog) 34 3 j0 _ underlying34 hj hy0 .i64 .i64 (m + 1) (m + 1) (Nat.le_refl _) (by rw [hy2]; omega) (by omega) W
 rw [hy1, Nat.mul_one] at hmk
 simp only [Value.cells] at hmk
 have e9 : ((m + 1 : Nat) : Int) = (m : Int) + 1 := by omega
 have e8 : (m : Int) + 1 - 1 = (m : Int) := by omega
 rw [e9] at hmk
 have HG := hid hg
 have HDE := hid hDe
 unfold FindM
 clear hi hz0 hz1 hz2 hj hy0 hy1 hy2 hF h htr hg hu hD hDe hDD hm
 go_enter func14, ntmps14
 go_wp2_with fail
 refine (HR.out _).mono ?_
 rintro e w1 ⟨h1, AN, cN, rfl, hnps⟩
 have HM0 := hid (show Mine w1 w.heap.size 41 3 (some ⟨w.heap.size, 0, none⟩) 0 0 [] from Mine.next (own_empty w 41 3) h1)
 have HN1 := hid (hnps.more (show w.heap.size ≤ _ by simp))
 have HB1 := hid (below_next1 (Below.refl _ _) h1)
 have HBC := hid (l27Blocks_all w1 AN (m + 1) cN w1.heap.size ps hnps.nps HG.out (Nat.le_refl _) hm3 (m + 1) m 0 (List.replicate (m + 1) 0) (w1.alloc (.cells (madeCells #[.int .i64 0] (m + 1)) 3)) (by omega) (by omega) (by simp) (by omega) (by omega) ((Below.refl _ _).alloc (Nat.le_refl _) _) (Own.zeros (m + 1)))
 rw [HDE.out] at HBC
 clear hnps h1 HR
 go_wp2_with fail
 refine HBC.out.mono ?_
 rintro e w2 ⟨rfl, h2, ho2⟩
 clear hmk
 have hD2 : Mine w2 w.heap.size 3 1 (some ⟨w1.heap.size, 0, none⟩) D.length (m + 1) (intCells D) := Mine.mk_own (by rw [Nat.mul_one]; exact ho2) (by simp [intCells]) HB1.out.size (by rw [HDL.out]; exact Nat.le_refl _) (by unfold maxLen; omega)
 have HF1 : Hid (SF w AN (m + 1) cN ps (some ⟨w1.heap.size, 0, none⟩) (m + 1) D none 0 [] (some ⟨w.heap.size, 0, none⟩) 0 [] w2) := (show SF w AN (m + 1) cN ps (some ⟨w1.heap.size, 0, none⟩) (m + 1) D none 0 [] (some ⟨w.heap.size, 0, none⟩) 0 [] w2 from ⟨HN1.out.next h2, hD2, Mine.mk_nil _ _ _ _, HM0.out.next h2, below_next HB1.out h2⟩)
 clear h2 ho2 hD2 HM0 HN1 HB1 HBC
 go_wp2
 go_loopw [5, 10] (fun o i wr => ∃ (k : Nat) (A : Option Addr) (c : Nat), k ≤ m + 1 ∧ i = .int .i64 k ∧ o = .slice A (F k).length c ∧ Hid (SF w AN (m + 1) cN ps (some ⟨w1.heap.size, 0, none⟩) (m + 1) D none 0 [] A c (F k) wr)) (fun _ i _ => m + 1 - (intOf i).toNat)
 case atStart =>
  refine ⟨0, some ⟨w.heap.size, 0, none⟩, 0, Nat.zero_le _, rfl, ?_, ?_⟩
  all_goals rw [HZ.out]
  ·rfl
  ·exact HF1
 case round =>
  clear HF1
  obtain ⟨k, A, c, hk, rfl, rfl, HSF⟩ := hrel
  have hl1 := HLe.out k
  obtain ⟨fs, hfs⟩ : ∃ fs, F k = fs := ⟨_, rfl⟩
  have HFk := hid hfs
  rw [hfs] at HSF hl1 ⊢
  obtain ⟨n1, hn1⟩ : ∃ n1, fs.length = n1 := ⟨_, rfl⟩
  have Hn1 := hid hn1
  rw [hn1] at hl1 ⊢
  clear hn1 hfs
  by_cases hkn : k < m + 1
  ·obtain ⟨p1, hp1⟩ := HSF.out.1.nps.get hkn
   obtain ⟨d, hd⟩ : ∃ d, D[k]? = some d := ⟨_, gE (by rw [HDL.out]; exact hkn)⟩
   have hdd : D.getD k 0 = d := by rw [List.getD_eq_getElem?_getD, hd]; rfl
   have hdb := HBd.out k (by omega)
   rw [hdd] at hdb
   obtain ⟨b7, off7, e7, hblt7, c7⟩ := int_at HSF.out.2.1.rd (by rw [HDL.out]; exact hkn) hd
   injection e7 with e7
   injection e7 with e71 e72
   subst e71; subst e72
   simp only [Nat.zero_add] at c7
   obtain ⟨b, off, A2, c2, rfl, hblt, x0, x1, x2, x3, _, _⟩ := HSF.out.1.nps.atc hkn hp1
   have hi1 : (k : Int) < (m : Int) + 1 := by omega
   clear x1 x2 x3
   rcases bft (p1.kind == 16) with g1 | g1
   ·have hdk : deepK p1 = true := by unfold deepK; rw [g1]; rfl
    by_cases hcmp : most < d
    ·have HS1 := hid (HSY.out k p1 hp1 hdk (by rw [hdd]; exact hcmp))
     rw [hdd, HFk.out] at HS1
     clear hp1 hdd hd hdk
     have HM := hid HSF.out.2.2.2.1
     rw [Hn1.out] at HM
     have hbz := HSF.out.2.2.2.2.size
     have H8 := hid (fun (W : World) (h : Below wr.heap.size wr W) => HLn.out (some ⟨b, off, none⟩) (m + 1) cN k W (by omega) (HSF.out.next h).1.nps HPN)
     have HDc := hid (fun (W : World) => specDecimal_any d W (by omega) (by omega))
     obtain ⟨L, hL⟩ : ∃ L, lineN t (firstV ps k) = L := ⟨_, rfl⟩
     obtain ⟨T5, hT5⟩ : ∃ T5, decT d = T5 := ⟨_, rfl⟩
     rw [hL] at H8 HS1
     rw [hT5] at HDc HS1
     clear hL hT5
     go_upto_region 11 with fail
     clear x0 hblt
     go_region_law (first
      | (
        have _s := S5
        refine step_append_lies _ rfl (.tmp 58) (.tmp 69) 22 rfl w.heap.size 41 i0 (.agg #[.int .i64 0, .int .i64 0, .string ⟨#[]⟩]) 3 32 underlying22 HII.out.1 HII.out.2.1 HII.out.2.2.1 HII.out.2.2.2 rfl (by decide) (.slice A n1 c) n1 (fs.flatMap findingCells) (by first | (simp [Act.eval]; done) | (simp [Act.eval, Act.put]; done) | rfl) (by first | exact (Mine.alloc M5.out _).drew | exact Mine.alloc M5.out _) ⟨w5.heap.size, 0, none⟩ 1 1 [.int .i64 3, .int .i64 L, .string T5] (by first | (simp [Act.eval]; done) | (simp [Act.eval, Act.put]; done) | rfl) (by rfl) (World.news_of_block (cs := #[.int .i64 3, .int .i64 L, .string T5]) (t := 41) (fr := (0, 0)) (heap_alloc_new w5 _)) (fun x hx => by simp at hx; rcases hx with rfl | rfl | rfl <;> rfl) (by decide) (by unfold maxLen; omega) (by omega) (by simp; omega) (w5.heap.size + 1) (by simp) ?_
        intro v' cap w6 hown6 hgrow hat hlt6
        have hgrow2 : (w5.alloc (.cells #[.int .i64 3, .int .i64 L, .string T5] 41)).grownBy w6 (Value.slice A n1 c).ownBlock := (by first | exact hgrow | exact grown_undrewP hgrow))
      | (
        have _s := S4L
        refine step_calls rfl 30 func30 (by kernel_rfl) (by kernel_rfl) _ _ rfl #[.int .i64 d] (by first | (simp [Act.eval]; done) | (simp [Act.eval, Act.put]; done) | rfl) (HDc.out _) ?_
        rintro e w5 ⟨rfl, h5⟩
        refine ⟨_, rfl, ?_⟩
        have hb5 := below_next hb4 (by first | exact h5 | exact (Below.refl _ w4).drew.trans h5)
        have c75 := ((bcell hb5).1 _ _ hblt7).trans c7
        have hz5 := hb5.size
        have S5 := hid (HSF.out.next hb5)
        have M5 := hid (HM.out.next hb5))
      | (
        have _s := S4D
        refine step_calls rfl 20 func20 (by kernel_rfl) (by kernel_rfl) _ _ rfl #[.string t, .slice (some ⟨b, off, none⟩) (m + 1) cN, .int .i64 k] (by first | (simp [Act.eval]; done) | (simp [Act.eval, Act.put]; done) | rfl) (H8.out _ (by first | exact hb4 | exact hb4.drew)) ?_
        rintro e w5 ⟨rfl, h5⟩
        refine ⟨_, rfl, ?_⟩
        have hb5 := below_next hb4 (by first | exact h5 | exact (Below.refl _ w4).drew.trans h5)
        have c75 := ((bcell hb5).1 _ _ hblt7).trans c7
        have hz5 := hb5.size
        have S5 := hid (HSF.out.next hb5)
        have M5 := hid (HM.out.next hb5))
      | (
        refine step_calls rfl 20 func20 (by kernel_rfl) (by kernel_rfl) _ _ rfl #[.string t, .slice (some ⟨b, off, none⟩) (m + 1) cN, .int .i64 k] (by first | (simp [Act.eval]; done) | (simp [Act.eval, Act.put]; done) | rfl) (H8.out _ (by first | exact Below.refl _ _ | exact (Below.refl _ _).drew)) ?_
        rintro e w4 ⟨rfl, h4⟩
        refine ⟨_, rfl, ?_⟩
        have hb4 : Below wr.heap.size wr w4 := (by first | exact h4 | exact (Below.refl _ wr).drew.trans h4)
        have c74 := ((bcell hb4).1 _ _ hblt7).trans c7
        have hz4 := hb4.size
        have S4L := True.intro)
      | (
        refine step_calls rfl 30 func30 (by kernel_rfl) (by kernel_rfl) _ _ rfl #[.int .i64 d] (by first | (simp [Act.eval]; done) | (simp [Act.eval, Act.put]; done) | rfl) (HDc.out _) ?_
        rintro e w4 ⟨rfl, h4⟩
        refine ⟨_, rfl, ?_⟩
        have hb4 : Below wr.heap.size wr w4 := (by first | exact h4 | exact (Below.refl _ wr).drew.trans h4)
        have c74 := ((bcell hb4).1 _ _ hblt7).trans c7
        have hz4 := hb4.size
        have S4D := True.intro))
     all_goals
      rw [← Hn1.out] at hown6 hgrow2
      obtain ⟨A6, c6, ev, h6⟩ := SF.find (S5.out.alloc (.cells #[.int .i64 3, .int .i64 L, .string T5] 41)) hown6 hgrow2
      injection ev with ev1 ev2 ev3
      subst ev1; subst ev3
      have S6 := hid h6
      clear hown6 hgrow hgrow2 hat hlt6 h6 M5 S5 HM HSF H8 HDc c74 c75 hb4 hb5
      go_wp2
      go_roundw
      case rel => exact ⟨k + 1, _, _, by omega, by go_num, by rw [HS1.out, lA, ← Hn1.out]; rfl, by rw [HS1.out]; exact S6⟩
      case measure => simp [intOf]; omega
    ·have HS1 := hid (HSN.out k p1 hp1 (by rw [hdk, hdd, Bool.true_and]; exact decide_eq_false hcmp))
     clear hp1 hdd hd hdk
     go_wp2
     go_roundw
     case rel => exact ⟨k + 1, A, c, by omega, by go_num, by rw [HS1.out, HFk.out, Hn1.out], by rw [HS1.out, HFk.out]; exact HSF⟩
     case measure => simp [intOf]; omega
   ·rcases bft (p1.kind == 17) with g2 | g2
    ·have hdk : deepK p1 = true := by unfold deepK; rw [g2, Bool.or_true]
     by_cases hcmp : most < d
     ·have HS1 := hid (HSY.out k p1 hp1 hdk (by rw [hdd]; exact hcmp))
      rw [hdd, HFk.out] at HS1
      clear hp1 hdd hd hdk
      have HM := hid HSF.out.2.2.2.1
      rw [Hn1.out] at HM
      have hbz := HSF.out.2.2.2.2.size
      have H8 := hid (fun (W : World) (h : Below wr.heap.size wr W) => HLn.out (some ⟨b, off, none⟩) (m + 1) cN k W (by omega) (HSF.out.next h).1.nps HPN)
      have HDc := hid (fun (W : World) => specDecimal_any d W (by omega) (by omega))
      obtain ⟨L, hL⟩ : ∃ L, lineN t (firstV ps k) = L := ⟨_, rfl⟩
      obtain ⟨T5, hT5⟩ : ∃ T5, decT d = T5 := ⟨_, rfl⟩
      rw [hL] at H8 HS1
      rw [hT5] at HDc HS1
      clear hL hT5
      go_upto_region 11 with fail
      clear x0 hblt
      go_region_law (first
       | (
         have _s := S5
         refine step_append_lies _ rfl (.tmp 58) (.tmp 69) 22 rfl w.heap.size 41 i0 (.agg #[.int .i64 0, .int .i64 0, .string ⟨#[]⟩]) 3 32 underlying22 HII.out.1 HII.out.2.1 HII.out.2.2.1 HII.out.2.2.2 rfl (by decide) (.slice A n1 c) n1 (fs.flatMap findingCells) (by first | (simp [Act.eval]; done) | (simp [Act.eval, Act.put]; done) | rfl) (by first | exact (Mine.alloc M5.out _).drew | exact Mine.alloc M5.out _) ⟨w5.heap.size, 0, none⟩ 1 1 [.int .i64 3, .int .i64 L, .string T5] (by first | (simp [Act.eval]; done) | (simp [Act.eval, Act.put]; done) | rfl) (by rfl) (World.news_of_block (cs := #[.int .i64 3, .int .i64 L, .string T5]) (t := 41) (fr := (0, 0)) (heap_alloc_new w5 _)) (fun x hx => by simp at hx; rcases hx with rfl | rfl | rfl <;> rfl) (by decide) (by unfold maxLen; omega) (by omega) (by simp; omega) (w5.heap.size + 1) (by simp) ?_
         intro v' cap w6 hown6 hgrow hat hlt6
         have hgrow2 : (w5.alloc (.cells #[.int .i64 3, .int .i64 L, .string T5] 41)).grownBy w6 (Value.slice A n1 c).ownBlock := (by first | exact hgrow | exact grown_undrewP hgrow))
       | (
         have _s := S4L
         refine step_calls rfl 30 func30 (by kernel_rfl) (by kernel_rfl) _ _ rfl #[.int .i64 d] (by first | (simp [Act.eval]; done) | (simp [Act.eval, Act.put]; done) | rfl) (HDc.out _) ?_
         rintro e w5 ⟨rfl, h5⟩
         refine ⟨_, rfl, ?_⟩
         have hb5 := below_next hb4 (by first | exact h5 | exact (Below.refl _ w4).drew.trans h5)
         have c75 := ((bcell hb5).1 _ _ hblt7).trans c7
         have hz5 := hb5.size
         have S5 := hid (HSF.out.next hb5)
         have M5 := hid (HM.out.next hb5))
       | (
         have _s := S4D
         refine step_calls rfl 20 func20 (by kernel_rfl) (by kernel_rfl) _ _ rfl #[.string t, .slice (some ⟨b, off, none⟩) (m + 1) cN, .int .i64 k] (by first | (simp [Act.eval]; done) | (simp [Act.eval, Act.put]; done) | rfl) (H8.out _ (by first | exact hb4 | exact hb4.drew)) ?_
         rintro e w5 ⟨rfl, h5⟩
         refine ⟨_, rfl, ?_⟩
         have hb5 := below_next hb4 (by first | exact h5 | exact (Below.refl _ w4).drew.trans h5)
         have c75 := ((bcell hb5).1 _ _ hblt7).trans c7
         have hz5 := hb5.size
         have S5 := hid (HSF.out.next hb5)
         have M5 := hid (HM.out.next hb5))
       | (
         refine step_calls rfl 20 func20 (by kernel_rfl) (by kernel_rfl) _ _ rfl #[.string t, .slice (some ⟨b, off, none⟩) (m + 1) cN, .int .i64 k] (by first | (simp [Act.eval]; done) | (simp [Act.eval, Act.put]; done) | rfl) (H8.out _ (by first | exact Below.refl _ _ | exact (Below.refl _ _).drew)) ?_
         rintro e w4 ⟨rfl, h4⟩
         refine ⟨_, rfl, ?_⟩
         have hb4 : Below wr.heap.size wr w4 := (by first | exact h4 | exact (Below.refl _ wr).drew.trans h4)
         have c74 := ((bcell hb4).1 _ _ hblt7).trans c7
         have hz4 := hb4.size
         have S4L := True.intro)
       | (
         refine step_calls rfl 30 func30 (by kernel_rfl) (by kernel_rfl) _ _ rfl #[.int .i64 d] (by first | (simp [Act.eval]; done) | (simp [Act.eval, Act.put]; done) | rfl) (HDc.out _) ?_
         rintro e w4 ⟨rfl, h4⟩
         refine ⟨_, rfl, ?_⟩
         have hb4 : Below wr.heap.size wr w4 := (by first | exact h4 | exact (Below.refl _ wr).drew.trans h4)
         have c74 := ((bcell hb4).1 _ _ hblt7).trans c7
         have hz4 := hb4.size
         have S4D := True.intro))
      all_goals
       rw [← Hn1.out] at hown6 hgrow2
       obtain ⟨A6, c6, ev, h6⟩ := SF.find (S5.out.alloc (.cells #[.int .i64 3, .int .i64 L, .string T5] 41)) hown6 hgrow2
       injection ev with ev1 ev2 ev3
       subst ev1; subst ev3
       have S6 := hid h6
       clear hown6 hgrow hgrow2 hat hlt6 h6 M5 S5 HM HSF H8 HDc c74 c75 hb4 hb5
       go_wp2
       go_roundw
       case rel => exact ⟨k + 1, _, _, by omega, by go_num, by rw [HS1.out, lA, ← Hn1.out]; rfl, by rw [HS1.out]; exact S6⟩
       case measure => simp [intOf]; omega
     ·have HS1 := hid (HSN.out k p1 hp1 (by rw [hdk, hdd, Bool.true_and]; exact decide_eq_false hcmp))
      clear hp1 hdd hd hdk
      go_wp2
      go_roundw
      case rel => exact ⟨k + 1, A, c, by omega, by go_num, by rw [HS1.out, HFk.out, Hn1.out], by rw [HS1.out, HFk.out]; exact HSF⟩
      case measure => simp [intOf]; omega
    ·have HS1 := hid (HSN.out k p1 hp1 (by unfold deepK; rw [g1, g2]; rfl))
     clear hp1 hdd hd
     go_wp2
     go_roundw
     case rel => exact ⟨k + 1, A, c, by omega, by go_num, by rw [HS1.out, HFk.out, Hn1.out], by rw [HS1.out, HFk.out]; exact HSF⟩
     case measure => simp [intOf]; omega
  ·obtain rfl : k = m + 1 := by omega
   go_wp2
   go_ret
   rw [HFk.out, Hn1.out]
   exact ⟨A, c, rfl, by rw [← Hn1.out]; exact HSF.out.2.2.2.1, HSF.out.2.2.2.2⟩
theorem specFindDeep_any (t : ByteArray) (most : Int) (w : World) (ht : t.size ≤ 1048576) : Calls prog 14 #[.string t, .int .i64 most] w (FindM w (findDeep t most)) := by
 unfold findDeep
 rcases hr : readP t with _ | ps
 ·exact specFindDeep_no t most w ht hr
 ·exact specFindDeep_yes t most w ht ps hr
theorem blocksAround_no (A : Option Addr) (c : Nat) (w : World) : Calls prog 31 #[.slice A 0 c] w fun e w' => ∃ A', e = .returned (.slice A' 0 0) ∧ Below w.heap.size w w' := by
 obtain ⟨j0, hj, hy0, hy1, hy2⟩ := info_parts infoInt
 have hmk := fun W => run_make_rowN (P := prog) 34 3 j0 _ underlying34 hj hy0 .i64 .i64 0 0 (Nat.le_refl _) (by rw [hy2]; omega) (by omega) W
 rw [hy1, Nat.mul_one] at hmk
 simp only [Value.cells, Int.natCast_zero] at hmk
 clear hj hy0 hy1 hy2
 go_enter func31, ntmps31
 go_wp2
 go_loopw [4] (fun i wr => i = .int .i64 (-1) ∧ Below w.heap.size w wr) (fun i _ => 0)
 case atStart => exact ⟨by go_num, grow_⟩
 case round =>
  obtain ⟨rfl, hb⟩ := hrel
  clear hmk
  go_wp2
  go_ret
  exact ⟨_, rfl, hb⟩
theorem blocksAround_yes (A : Option Addr) (m c : Nat) (ps : List PN) (w : World) (hps : Nps w A (m + 1) ps) (hl : ps.length = m + 1) (hm : m + 1 ≤ 300) (hg : Good ps) (hu : usedTo ps (m + 1) m) :
  Calls prog 31 #[.slice A (m + 1) c] w fun e w' => e = .returned (.slice (some ⟨w.heap.size, 0, none⟩) (m + 1) (m + 1)) ∧ Own w' w.heap.size 3 (m + 1) (intCells (blkV ps)) ∧ Below w.heap.size w w' := by
 obtain ⟨j0, hj, hy0, hy1, hy2⟩ := info_parts infoInt
 have hmk := fun W => run_make_rowN (P := prog) 34 3 j0 _ underlying34 hj hy0 .i64 .i64 (m + 1) (m + 1) (Nat.le_refl _) (by rw [hy2]; omega) (by omega) W
 rw [hy1, Nat.mul_one] at hmk
 simp only [Value.cells] at hmk
 have e9 : ((m + 1 : Nat) : Int) = (m : Int) + 1 := by omega
 have e8 : (m : Int) + 1 - 1 = (m : Int) := by omega
 rw [e9] at hmk
 have HI := hid (fun j => blkTo_inv hg hl hu j)
 have HV := hid (show blkV ps = blkTo ps (m + 1) (m + 1) by unfold blkV; rw [hl])
 have HS := hid (show ∀ q, q < m + 1 → blkTo ps (m + 1) (m + 1 - q) = bstep ps (blkTo ps (m + 1) (m + 1 - (q + 1))) q from fun q hq => by
  rw [show m + 1 - q = (m + 1 - (q + 1)) + 1 by omega]
  show bstep ps _ (m + 1 - 1 - (m + 1 - (q + 1))) = _
  rw [show m + 1 - 1 - (m + 1 - (q + 1)) = q by omega])
 have HG := hid hg
 have HPS := hid hps
 rw [HV.out]
 have HZ := hid (Own.zeros (w := w) (e := 3) (m + 1))
 clear hj hy0 hy1 hy2 hg hu hl hps HV
 go_enter func31, ntmps31
 go_wp2
 clear hmk
 go_loopw [4] (fun i wr => ∃ (q : Nat) (x : Int), q ≤ m + 1 ∧ x = (q : Int) - 1 ∧ i = .int .i64 x ∧ Hid (Own wr w.heap.size 3 (m + 1) (intCells (blkTo ps (m + 1) (m + 1 - q)))) ∧ Below w.heap.size w wr) (fun i _ => (intOf i + 1).toNat)
 case atStart => exact ⟨m + 1, (m : Int), Nat.le_refl _, by omega, by go_num, by rw [Nat.sub_self]; exact HZ, grow_⟩
 case round =>
  clear HZ
  obtain ⟨q, x, hq, hx, rfl, HO, hb⟩ := hrel
  rcases Nat.eq_zero_or_pos q with rfl | hq0
  ·have hx1 : ¬ (0 : Int) ≤ x := by omega
   have HO' := HO
   rw [Nat.sub_zero] at HO'
   clear hx HO
   go_wp2
   go_ret
   exact ⟨rfl, HO'.out, hb⟩
  ·obtain ⟨k, rfl⟩ : ∃ k, q = k + 1 := ⟨q - 1, by omega⟩
   obtain rfl : x = (k : Int) := by omega
   have HSk := hid (HS.out k (by omega))
   obtain ⟨p, hp⟩ := HPS.out.get (show k < m + 1 by omega)
   have hin := HI.out (m + 1 - (k + 1)) (by omega)
   obtain ⟨B, hB⟩ : ∃ B, blkTo ps (m + 1) (m + 1 - (k + 1)) = B := ⟨_, rfl⟩
   rw [hB] at HO HSk hin
   obtain ⟨hBl, _, hBb, _⟩ := hin
   have hbk := hBb k (by omega)
   obtain ⟨d, hd⟩ : ∃ d, B[k]? = some d := ⟨_, gE (by omega)⟩
   have hdd : B.getD k 0 = d := by rw [List.getD_eq_getElem?_getD, hd]; rfl
   rw [hdd] at hbk
   obtain ⟨y, hy⟩ : ∃ y, d + isBlk p = y := ⟨_, rfl⟩
   have HY : Hid (y = if (p.kind == 18) = true then d + 1 else d) := (show y = if (p.kind == 18) = true then d + 1 else d by
    rw [← hy]; unfold isBlk; split <;> omega)
   have hbst : bstep ps B k = p.kids.foldl (fun b v => b.set v.toNat y) B := by unfold bstep; rw [hp]; dsimp only; rw [hdd, hy]
   rw [hbst] at HSk
   obtain ⟨hk12, hkv⟩ := HG.out k p hp
   obtain ⟨ks, hks⟩ : ∃ ks, p.kids = ks := ⟨_, rfl⟩
   obtain ⟨ml, hml⟩ : ∃ ml, ks.length = ml := ⟨_, rfl⟩
   rw [hks] at HSk hk12 hkv
   obtain ⟨G, hG⟩ : ∃ G, (fun i => (ks.take i).foldl (fun b v => b.set v.toNat y) B) = G := ⟨_, rfl⟩
   have HE := hid (show blkTo ps (m + 1) (m + 1 - k) = G ml by rw [HSk.out, ← hG]; dsimp only; rw [← hml, List.take_length])
   have HG0 := hid (show G 0 = B by rw [← hG]; rfl)
   have HGS := hid (show ∀ (i : Nat) (v : Int), ks[i]? = some v → G (i + 1) = (G i).set v.toNat y from fun i v hv => by
    rw [← hG]
    dsimp only
    rw [List.take_add_one, hv, Option.toList_some, List.foldl_append]
    rfl)
   have HGL := hid (show ∀ i, (G i).length = m + 1 from fun i => by
    rw [← hG]
    have key : ∀ (l : List Int) (o : List Int), (l.foldl (fun b v => b.set v.toNat y) o).length = o.length := by
     intro l
     induction l with
     | nil => intro o; rfl
     | cons v l ih2 => intro o; rw [List.foldl_cons, ih2, List.length_set]
    dsimp only
    rw [key, hBl])
   have HKV := hid hkv
   have HML := hid hml
   obtain ⟨b, off, A', c', rfl, hblt0, y0, _, y2, _, _, hkr⟩ := HPS.out.atc (show k < m + 1 by omega) hp
   rw [hks, hml] at y2 hkr
   have x0 := ((bcell hb).1 _ _ hblt0).trans y0
   have x2 := ((bcell hb).1 _ _ hblt0).trans y2
   have hblt : b < wr.heap.size := by have := hb.size; omega
   have HKR := hid hkr
   obtain ⟨b7, off7, e7, hblt7, c7⟩ := int_at (HO.out.rd (size := 1) (n := m + 1) (by simp [intCells, hBl])) (show k < m + 1 by omega) hd
   injection e7 with e7
   injection e7 with e71 e72
   subst e71; subst e72
   simp only [Nat.zero_add] at c7
   have hml12 : ml ≤ 12 := by omega
   have hk1 : (0 : Int) ≤ (k : Int) := by omega
   have hk2 : (k : Int) < (m : Int) + 1 := by omega
   clear hx hp hd hdd hy hbst hks hml hG hkv hB HSk hkr hBb hBl y0 y2
   rcases bft (p.kind == 18) with g1 | g1
   ·rw [g1, if_pos rfl] at HY
    obtain rfl := HY.out
    go_upto_region 8 with fail
    clear c7 hblt7 x0
    go_wp2
    go_loopw [36] (fun i wr => ∃ j : Nat, j ≤ ml ∧ i = .int .i64 j ∧ Hid (Own wr w.heap.size 3 (m + 1) (intCells (G j))) ∧ Below w.heap.size w wr) (fun i _ => ml - (intOf i).toNat)
    case atStart => exact ⟨0, Nat.zero_le _, rfl, by rw [HG0.out]; exact HO, hb⟩
    case round =>
     clear HO hb x2 hblt
     obtain ⟨j, hj, rfl, HO2, hb2⟩ := hrel
     by_cases hjm : j < ml
     ·obtain ⟨v, hv⟩ : ∃ v, ks[j]? = some v := ⟨_, gE (by rw [HML.out]; exact hjm)⟩
      have hvb := HKV.out v (List.mem_of_getElem? hv)
      obtain ⟨z, rfl⟩ := Int.eq_ofNat_of_zero_le hvb.1
      obtain ⟨b9, off9, rfl, hblt9, c9⟩ := int_at (HKR.out.below hb2) hjm hv
      have hjm' : (j : Int) < (ml : Int) := by omega
      have hz1 : (z : Int) < (m : Int) + 1 := by omega
      have HGj := hid (HGS.out j _ hv)
      rw [Int.toNat_natCast] at HGj
      have HO3 := hid (ints_put (x := (d + 1)) HO2.out (HGL.out j) (show z < m + 1 by omega))
      rw [← HGj.out] at HO3
      obtain ⟨u0, hu0⟩ := HO2.out.there (show z < m + 1 by omega)
      have huf := HO2.out.frozen
      have huz := HO2.out.lt
      have hb3 := hid (hb2.setCell (show w.heap.size ≤ (⟨w.heap.size, z, none⟩ : Addr).block from Nat.le_refl _) (.int .i64 (d + 1)))
      clear hv hvb
      go_wp2
      go_roundw
      case rel => exact ⟨j + 1, by omega, by go_num, HO3, hb3.out⟩
      case measure => simp [intOf]; omega
     ·obtain rfl : j = ml := by omega
      rw [← HE.out] at HO2
      go_wp2
      exact ⟨⟨k, (k : Int) - 1, by omega, rfl, rfl, HO2, hb2⟩, by simp [intOf]⟩
   ·rw [g1, if_neg (by decide)] at HY
    obtain rfl := HY.out
    go_upto_region 8 with fail
    clear c7 hblt7 x0
    go_wp2
    go_loopw [36] (fun i wr => ∃ j : Nat, j ≤ ml ∧ i = .int .i64 j ∧ Hid (Own wr w.heap.size 3 (m + 1) (intCells (G j))) ∧ Below w.heap.size w wr) (fun i _ => ml - (intOf i).toNat)
    case atStart => exact ⟨0, Nat.zero_le _, rfl, by rw [HG0.out]; exact HO, hb⟩
    case round =>
     clear HO hb x2 hblt
     obtain ⟨j, hj, rfl, HO2, hb2⟩ := hrel
     by_cases hjm : j < ml
     ·obtain ⟨v, hv⟩ : ∃ v, ks[j]? = some v := ⟨_, gE (by rw [HML.out]; exact hjm)⟩
      have hvb := HKV.out v (List.mem_of_getElem? hv)
      obtain ⟨z, rfl⟩ := Int.eq_ofNat_of_zero_le hvb.1
      obtain ⟨b9, off9, rfl, hblt9, c9⟩ := int_at (HKR.out.below hb2) hjm hv
      have hjm' : (j : Int) < (ml : Int) := by omega
      have hz1 : (z : Int) < (m : Int) + 1 := by omega
      have HGj := hid (HGS.out j _ hv)
      rw [Int.toNat_natCast] at HGj
      have HO3 := hid (ints_put (x := y) HO2.out (HGL.out j) (show z < m + 1 by omega))
      rw [← HGj.out] at HO3
      obtain ⟨u0, hu0⟩ := HO2.out.there (show z < m + 1 by omega)
      have huf := HO2.out.frozen
      have huz := HO2.out.lt
      have hb3 := hid (hb2.setCell (show w.heap.size ≤ (⟨w.heap.size, z, none⟩ : Addr).block from Nat.le_refl _) (.int .i64 y))
      clear hv hvb
      go_wp2
      go_roundw
      case rel => exact ⟨j + 1, by omega, by go_num, HO3, hb3.out⟩
      case measure => simp [intOf]; omega
     ·obtain rfl : j = ml := by omega
      rw [← HE.out] at HO2
      go_wp2
      exact ⟨⟨k, (k : Int) - 1, by omega, rfl, rfl, HO2, hb2⟩, by simp [intOf]⟩
theorem implFindDeep_no (t : ByteArray) (most : Int) (w : World) (ht : t.size ≤ 1048576) (h : readP t = none) : Calls prog 15 #[.string t, .int .i64 most] w (FindM w []) := by
 have HR := hid (finderOf_no t w ht h)
 unfold FindM
 go_enter func15, ntmps15
 go_wp2_with fail
 refine HR.out.mono ?_
 rintro e w1 ⟨T, rfl, hfi⟩
 have HFi := hid hfi
 obtain ⟨AL, cL, AF, cF, hK, hN, hL, hF, hBT, hB⟩ := hfi
 have k0 := hK.q0
 have kf := hK.frozen
 have kz := hK.lt
 clear hK hN hL hF hBT hB HR
 go_wp2_with fail
 refine (blocksAround_no none 0 w1).mono ?_
 rintro e w2 ⟨A', rfl, h2⟩
 obtain ⟨AL, cL, AF, cF, hK, hN, hL, hF, hBT, hB⟩ := HFi.out.next rfl h2
 have HM := hid hF
 have HB := hid hB
 have k0 := hK.q0
 have k2 := hK.q2
 have kf := hK.frozen
 have kz := hK.lt
 clear hK hN hL hF hBT hB HFi h2
 go_wp2
 go_loopw [21] (fun i wr => i = .int .i64 0 ∧ wr.cell? ⟨T, 2, none⟩ = some (.slice AF ([] : List FindingD).length cF) ∧ T < wr.heap.size ∧ Hid (Mine wr w.heap.size 41 3 AF ([] : List FindingD).length cF (([] : List FindingD).flatMap findingCells)) ∧ Below w.heap.size w wr) (fun i _ => 0)
 case atStart => exact ⟨rfl, k2, kz, HM, HB.out⟩
 case round =>
  clear k0 k2 kf kz HM HB
  obtain ⟨rfl, k2, kz, HM, hb⟩ := hrel
  go_wp2
  go_ret
  exact ⟨AF, cF, rfl, HM.out, hb⟩
theorem implFindDeep_yes (t : ByteArray) (most : Int) (w : World) (ht : t.size ≤ 1048576) (hT : Tab w) (ps : List PN) (h : readP t = some ps) : Calls prog 15 #[.string t, .int .i64 most] w (FindM w (deepTo t ps (blkV ps) most ps.length)) := by
 have HR := hid (finderOf_yes t w ht ps h)
 have htr := (readP_some h).1
 obtain ⟨m, hm, hm3, hg, hu⟩ := tree_one htr
 have hD := blkV_inv hg hm hu
 have HLA := hid (show ∀ k, k < m + 1 → (linesN t ps)[k]? = some (lineN t (firstV ps k)) from fun k hk => lines_at htr (by omega))
 have HLL := hid (show (linesN t ps).length = m + 1 by rw [lines_len', hm])
 have HBA := hid (fun (A : Option Addr) (c : Nat) (W : World) hps => blocksAround_yes A m c ps W hps hm hm3 hg hu)
 obtain ⟨D, hDD⟩ : ∃ D, blkV ps = D := ⟨_, rfl⟩
 rw [hDD] at hD HBA ⊢
 have HBd := hid hD.2.2.1
 have HDL := hid hD.1
 obtain ⟨ls, hls⟩ : ∃ ls, linesN t ps = ls := ⟨_, rfl⟩
 rw [hls] at HR HLA HLL
 rw [hm] at HR ⊢
 obtain ⟨F, hF⟩ : ∃ F, deepTo t ps D most = F := ⟨_, rfl⟩
 have HSY := hid (show ∀ (k : Nat) (p : PN), ps[k]? = some p → deepK p = true → most < D.getD k 0 → F (k + 1) = F k ++ [(3, lineN t (firstV ps k), decT (D.getD k 0))] from fun k p h1 h2 h3 => by rw [← hF]; exact deepTo_yes h1 h2 h3)
 have HSN := hid (show ∀ (k : Nat) (p : PN), ps[k]? = some p → (deepK p && decide (most < D.getD k 0)) = false → F (k + 1) = F k from fun k p h1 h2 => by rw [← hF]; exact deepTo_no h1 h2)
 have HLe := hid (show ∀ k, (F k).length ≤ k from fun k => by rw [← hF]; exact deepTo_len k)
 have HZ := hid (show F 0 = [] by rw [← hF]; rfl)
 rw [hF]
 have HT := hid (fun (W : World) (h : Below w.heap.size w W) => (Joins.tab_stays gPow hT h (Nat.le_refl _) : Tab W))
 unfold FindM
 clear h htr hg hu hD hDD hls hF hT hm
 go_enter func15, ntmps15
 go_wp2_with fail
 refine HR.out.mono ?_
 rintro e w1 ⟨T, AN, cN, rfl, hfi⟩
 have HFi := hid hfi
 obtain ⟨AL, cL, AF, cF, hK, hN, hL, hF, hBT, hB⟩ := hfi
 have k0 := hK.q0
 have kf := hK.frozen
 have kz := hK.lt
 have HBW := hid (HBA.out AN cN w1 hN.nps)
 have hz1 := hB.size
 clear hK hN hL hF hBT hB HR HBA
 go_wp2_with fail
 refine HBW.out.mono ?_
 rintro e w2 ⟨rfl, ho2, h2⟩
 have hD2 : Mine w2 w.heap.size 3 1 (some ⟨w1.heap.size, 0, none⟩) D.length (m + 1) (intCells D) := Mine.mk_own (by rw [Nat.mul_one]; exact ho2) (by simp [intCells]) hz1 (by rw [HDL.out]; exact Nat.le_refl _) (by unfold maxLen; omega)
 have HP0 : Hid (FP w T AN (m + 1) cN ps ls (some ⟨w1.heap.size, 0, none⟩) (m + 1) D none 0 [] [] w2) := (show FP w T AN (m + 1) cN ps ls (some ⟨w1.heap.size, 0, none⟩) (m + 1) D none 0 [] [] w2 from ⟨HFi.out.next rfl h2, hD2, Mine.mk_nil _ _ _ _⟩)
 obtain ⟨AL, cL, AF, cF, hK, hN, hL, hF, hBT, hB⟩ := HFi.out.next rfl h2
 have k0 := hK.q0
 have kf := hK.frozen
 have kz := hK.lt
 clear hK hN hL hF hBT hB HFi h2 ho2 hD2 HBW
 go_wp2
 go_loopw [21] (fun i wr => ∃ (k : Nat), k ≤ m + 1 ∧ i = .int .i64 k ∧ Hid (FP w T AN (m + 1) cN ps ls (some ⟨w1.heap.size, 0, none⟩) (m + 1) D none 0 [] (F k) wr)) (fun i _ => m + 1 - (intOf i).toNat)
 case atStart => exact ⟨0, Nat.zero_le _, rfl, by rw [HZ.out]; exact HP0⟩
 case round =>
  clear HP0 k0 kf kz
  obtain ⟨k, hk, rfl, HP⟩ := hrel
  have hl1 := HLe.out k
  obtain ⟨fs, hfs⟩ : ∃ fs, F k = fs := ⟨_, rfl⟩
  have HFk := hid hfs
  rw [hfs] at HP hl1
  clear hfs
  obtain ⟨AL, cL, AF, cF, hK, hN, hL, hF, hBT, hB⟩ := id HP.out.1
  have k2 := hK.q2
  have kf := hK.frozen
  have kz := hK.lt
  by_cases hkn : k < m + 1
  ·obtain ⟨p1, hp1⟩ := hN.nps.get hkn
   obtain ⟨d, hd⟩ : ∃ d, D[k]? = some d := ⟨_, gE (by rw [HDL.out]; exact hkn)⟩
   have hdd : D.getD k 0 = d := by rw [List.getD_eq_getElem?_getD, hd]; rfl
   have hdb := HBd.out k (by omega)
   rw [hdd] at hdb
   obtain ⟨b7, off7, e7, hblt7, c7⟩ := int_at HP.out.2.1.rd (by rw [HDL.out]; exact hkn) hd
   injection e7 with e7
   injection e7 with e71 e72
   subst e71; subst e72
   simp only [Nat.zero_add] at c7
   obtain ⟨b, off, A2, c2, rfl, hblt, x0, x1, x2, x3, _, _⟩ := hN.nps.atc hkn hp1
   have hi1 : (k : Int) < (m : Int) + 1 := by omega
   have hlk := HLA.out k hkn
   have hb := hid hB
   have gT : wr.heap.size ≠ T := by omega
   have HPx := hid (HP.out.alloc (.cells #[.int .i64 p1.kind, .string p1.text, .slice A2 p1.kids.length c2, .bool p1.blank] 36))
   clear hK hN hL hF hBT hB k2
   rcases bft (p1.kind == 16) with g1 | g1
   ·have hdk : deepK p1 = true := by unfold deepK; rw [g1]; rfl
    by_cases hcmp : most < d
    ·have HS1 := hid (HSY.out k p1 hp1 hdk (by rw [hdd]; exact hcmp))
     rw [hdd, HFk.out] at HS1
     clear hp1 hdd hd hdk
     have HDc := hid (fun W hW => implDecimal_any d W (by omega) (by omega) (HT.out W hW))
     have HFn := hid (fun (W : World) hW => find_any w T (some ⟨b, off, none⟩) (m + 1) cN ps ls fs 3 k (lineN t (firstV ps k)) (decT d) W hW hlk (by omega) (by rw [HLL.out]; omega))
     obtain ⟨L, hL⟩ : ∃ L, lineN t (firstV ps k) = L := ⟨_, rfl⟩
     obtain ⟨T5, hT5⟩ : ∃ T5, decT d = T5 := ⟨_, rfl⟩
     rw [hL] at HFn HS1
     rw [hT5] at HDc HFn HS1
     clear hL hT5 hlk
     go_wp2_with fail
     refine (HDc.out _ (hb.out.alloc hb.out.size _)).mono ?_
     rintro e w3 ⟨rfl, h3⟩
     have HP3 := hid (HPx.out.next h3)
     clear h3
     go_wp2_with fail
     refine (HFn.out _ HP3.out.1).mono ?_
     rintro e w4 ⟨rfl, h4, hk4⟩
     have HP4 := hid (HP3.out.found h4 hk4)
     clear h4 hk4 x0 x1 x2 x3 hblt c7 hblt7 kf kz
     go_wp2
     go_roundw
     case rel => exact ⟨k + 1, by omega, by go_num, by rw [HS1.out]; exact HP4⟩
     case measure => simp [intOf]; omega
    ·have HS1 := hid (HSN.out k p1 hp1 (by rw [hdk, hdd, Bool.true_and]; exact decide_eq_false hcmp))
     clear hp1 hdd hd hdk
     clear hlk
     go_wp2
     go_roundw
     case rel => exact ⟨k + 1, by omega, by go_num, by rw [HS1.out, HFk.out]; exact HPx⟩
     case measure => simp [intOf]; omega
   ·rcases bft (p1.kind == 17) with g2 | g2
    ·have hdk : deepK p1 = true := by unfold deepK; rw [g2, Bool.or_true]
     by_cases hcmp : most < d
     ·have HS1 := hid (HSY.out k p1 hp1 hdk (by rw [hdd]; exact hcmp))
      rw [hdd, HFk.out] at HS1
      clear hp1 hdd hd hdk
      have HDc := hid (fun W hW => implDecimal_any d W (by omega) (by omega) (HT.out W hW))
      have HFn := hid (fun (W : World) hW => find_any w T (some ⟨b, off, none⟩) (m + 1) cN ps ls fs 3 k (lineN t (firstV ps k)) (decT d) W hW hlk (by omega) (by rw [HLL.out]; omega))
      obtain ⟨L, hL⟩ : ∃ L, lineN t (firstV ps k) = L := ⟨_, rfl⟩
      obtain ⟨T5, hT5⟩ : ∃ T5, decT d = T5 := ⟨_, rfl⟩
      rw [hL] at HFn HS1
      rw [hT5] at HDc HFn HS1
      clear hL hT5 hlk
      go_wp2_with fail
      refine (HDc.out _ (hb.out.alloc hb.out.size _)).mono ?_
      rintro e w3 ⟨rfl, h3⟩
      have HP3 := hid (HPx.out.next h3)
      clear h3
      go_wp2_with fail
      refine (HFn.out _ HP3.out.1).mono ?_
      rintro e w4 ⟨rfl, h4, hk4⟩
      have HP4 := hid (HP3.out.found h4 hk4)
      clear h4 hk4 x0 x1 x2 x3 hblt c7 hblt7 kf kz
      go_wp2
      go_roundw
      case rel => exact ⟨k + 1, by omega, by go_num, by rw [HS1.out]; exact HP4⟩
      case measure => simp [intOf]; omega
     ·have HS1 := hid (HSN.out k p1 hp1 (by rw [hdk, hdd, Bool.true_and]; exact decide_eq_false hcmp))
      clear hp1 hdd hd hdk
      clear hlk
      go_wp2
      go_roundw
      case rel => exact ⟨k + 1, by omega, by go_num, by rw [HS1.out, HFk.out]; exact HPx⟩
      case measure => simp [intOf]; omega
    ·have HS1 := hid (HSN.out k p1 hp1 (by unfold deepK; rw [g1, g2]; rfl))
     clear hp1 hdd hd
     clear hlk
     go_wp2
     go_roundw
     case rel => exact ⟨k + 1, by omega, by go_num, by rw [HS1.out, HFk.out]; exact HPx⟩
     case measure => simp [intOf]; omega
  ·obtain rfl : k = m + 1 := by omega
   have HM := hid hF
   have HB := hid hB
   clear hK hN hL hF hBT hB
   go_wp2
   go_ret
   rw [HFk.out]
   exact ⟨AF, cF, rfl, HM.out, HB.out⟩
theorem implFindDeep_any (t : ByteArray) (most : Int) (w : World) (ht : t.size ≤ 1048576) (hT : Tab w) : Calls prog 15 #[.string t, .int .i64 most] w (FindM w (findDeep t most)) := by
 unfold findDeep
 rcases hr : readP t with _ | ps
 ·exact implFindDeep_no t most w ht hr
 ·exact implFindDeep_yes t most w ht hT ps hr
theorem lawFindDeep (t : ByteArray) (wd : Int) (w : World) (ht : t.size ≤ maxLen) (m : Int) (hm : w.cell? ⟨0, 0, none⟩ = some (.int .i64 m)) (hT : Tab w) : Calls prog 5 #[.string t, .int .i64 wd] w fun e w' => e = .returned (.bool true) ∧ Below w.heap.size w w' := by
 have hb := Below.refl w.heap.size w
 unfold maxLen at ht
 by_cases h1 : 1048576 < t.size
 ·clear hm
  go_enter func5, ntmps5
  go_wp2
  go_ret
  exact ⟨rfl, grow_⟩
 ·have h2 : t.size ≤ 1048576 := by omega
  have hz0 := block_of_cell hm
  have HM := hid (fun (W : World) (h : Below w.heap.size w W) => (h.cell (p := ⟨0, 0, none⟩) hz0).trans hm)
  have HT := hid (fun (W : World) (h : Below w.heap.size w W) => (Joins.tab_stays gPow hT h (Nat.le_refl _) : Tab W))
  have hn6 : (findDeep t wd).length ≤ 300 := findDeep_len t wd
  have HI := hid (fun W x2 => implFindDeep_any t wd W h2 x2)
  have HP := hid (fun W => specFindDeep_any t wd W h2)
  obtain ⟨l, hr⟩ : ∃ r, findDeep t wd = r := ⟨_, rfl⟩
  rw [hr] at HI HP hn6
  clear hr ht h1 hm hT
  go_enter func5, ntmps5
  go_wp2_with fail
  refine (HP.out _).mono ?_
  rintro e w2 ⟨A0, c0, rfl, m0, h2'⟩
  replace hb := below_next hb h2'
  clear h2'
  have q0 := hid (fun g (hg : A0.map (·.block) = some g) => (m0.blk hg).2)
  have z0 := hb.size
  go_wp2_with fail
  refine (HI.out _ (HT.out _ hb)).mono ?_
  rintro e w3 ⟨A3, c3, rfl, m3, h2'⟩
  replace m0 := m0.next h2'
  replace hb := below_next hb h2'
  clear h2'
  obtain ⟨H3, hH3⟩ : ∃ H, H = w2.heap.size := ⟨_, rfl⟩
  rw [← hH3] at m3 q0 z0
  go_wp2_with fail
  refine (eqFindingS_same _ _ _ _ _ l _ (by omega) rfl m3.rd m0.rd).mono ?_
  rintro e w2 ⟨rfl, h2⟩
  replace m0 := by first | exact m0.next h2 | exact m0.next1 h2 | exact m0.next2 h2
  replace m3 := by first | exact m3.next h2 | exact m3.next1 h2 | exact m3.next2 h2
  replace hb := by first | exact below_next hb h2 | exact below_next1 hb h2 | exact below_next2 hb h2
  clear h2
  go_wp2_with fail
  refine (markFindingS_mine _ _ _ _ _ _ _ m3 (by omega) (by omega)).mono ?_
  rintro e w2 ⟨rfl, m4, hg⟩
  replace m0 := m0.grown hg (fun g e => .inr (fun h => by have := (m3.blk e).1; have := q0.out _ h; omega))
  replace hb := below_turned hb hg (fun g e => by have := (m3.blk e).1; omega)
  clear hg m3
  go_wp2_with fail
  refine (heldFindingS_any _ _ _ _ _ m4.rd (by omega) (by omega)).mono ?_
  rintro e w2 ⟨rfl, h2⟩
  replace m0 := by first | exact m0.next h2 | exact m0.next1 h2 | exact m0.next2 h2
  replace m4 := by first | exact m4.next h2 | exact m4.next1 h2 | exact m4.next2 h2
  replace hb := by first | exact below_next hb h2 | exact below_next1 hb h2 | exact below_next2 hb h2
  clear h2
  go_wp2_with fail
  refine (HI.out _ (HT.out _ hb)).mono ?_
  rintro e w3 ⟨A5, c5, rfl, m5, h2'⟩
  replace m0 := m0.next h2'
  replace m4 := m4.next h2'
  replace hb := below_next hb h2'
  clear h2'
  go_wp2_with fail
  refine (eqFindingS_same _ _ _ _ _ l _ (by omega) rfl m5.rd m0.rd).mono ?_
  rintro e w2 ⟨rfl, h2⟩
  replace m4 := by first | exact m4.next h2 | exact m4.next1 h2 | exact m4.next2 h2
  replace hb := by first | exact below_next hb h2 | exact below_next1 hb h2 | exact below_next2 hb h2
  clear h2
  go_wp2_with fail
  refine (heldFindingS_any _ _ _ _ _ m4.rd (by omega) (by omega)).mono ?_
  rintro e w2 ⟨rfl, h2⟩
  replace hb := by first | exact below_next hb h2 | exact below_next1 hb h2 | exact below_next2 hb h2
  clear h2
  go_wp2
  go_ret
  exact ⟨rfl, grow_⟩
end Go.Proofs.YtgbikafalcbibaaGreatDoor

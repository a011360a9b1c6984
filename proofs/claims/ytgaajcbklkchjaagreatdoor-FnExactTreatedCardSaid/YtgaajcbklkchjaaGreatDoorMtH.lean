/-
  Put together by program (shake.py): Vis, TrP, TrS, TrF, TrO, TrG, TrT, MkC, RfA, RfD, TreatC.
-/
import Derived.Test.YtgaajcbklkchjaaGreatDoorMtF
import Derived.Test.YtgaajcbklkchjaaGreatDoorMtG
import Derived.Test.YtgaajcbklkchjaaGreatDoorMtB
import Derived.Outline
import Derived.Deep.DeepCutAuto
set_option maxRecDepth 100000
set_option maxHeartbeats 25600000
set_option linter.unusedVariables false
set_option linter.unusedSimpArgs false
open Go.Lib (hid)
open Go.Proofs.Tryz
namespace Go.Proofs.YtgaajcbklkchjaaGreatDoor
open Go.RowKit
def costK (g : Nat → Nat) (l : List Int) : Nat := (l.map (fun j => g j.toNat)).sum
theorem costK_app (g : Nat → Nat) (a b : List Int) : costK g (a ++ b) = costK g a + costK g b := by simp [costK]
def visF (ps : List PN) : Nat → Nat → Nat
 | 0, _ => 0
 | f + 1, k => match ps[k]? with | none => 0 | some p => 1 + costK (visF ps f) p.kids
theorem visF_more {ps : List PN} (hg : Good ps) : ∀ (f k : Nat), k < f → visF ps f k = visF ps (k + 1) k := by
 intro f
 induction f using Nat.strongRecOn with
 | ind f ih =>
  intro k hk
  obtain ⟨f', rfl⟩ : ∃ f', f = f' + 1 := ⟨f - 1, by omega⟩
  cases hx : ps[k]? with
  | none => simp [visF, hx]
  | some p =>
   have hp := (hg k p hx).2
   simp only [visF, hx]
   congr 1
   unfold costK
   congr 1
   apply List.map_congr_left
   intro v hv
   have hvk := hp v hv
   rw [ih f' (by omega) v.toNat (by omega)]
   by_cases e : k = f'
   ·subst e
    rw [ih k (by omega) v.toNat (by omega)]
   ·rw [ih k (by omega) v.toNat (by omega)]
def visV (ps : List PN) (k : Nat) : Nat := visF ps (k + 1) k
theorem visV_eq {ps : List PN} (hg : Good ps) {k : Nat} {p : PN} (hx : ps[k]? = some p) : visV ps k = 1 + costK (visV ps) p.kids := by
 have : visV ps k = 1 + costK (visF ps k) p.kids := by
  show visF ps (k + 1) k = _
  simp only [visF, hx]
 rw [this]
 congr 1
 unfold costK
 congr 1
 apply List.map_congr_left
 intro v hv
 have := (hg k p hx).2 v hv
 exact visF_more hg k v.toNat (by omega)
def sumV (ps : List PN) (m : Nat) : Nat := ((List.range m).map (visV ps)).sum
theorem sumV_succ (ps : List PN) (m : Nat) : sumV ps (m + 1) = sumV ps m + visV ps m := by unfold sumV; rw [List.range_succ]; simp
theorem sumV_kids {ps : List PN} (hg : Good ps) : ∀ m, m ≤ ps.length → sumV ps m = m + costK (visV ps) (kidsTo ps m) := by
 intro m
 induction m with
 | zero => intro _; simp [sumV, costK, kidsTo]
 | succ m ih =>
  intro hm
  obtain ⟨p, hx⟩ : ∃ p, ps[m]? = some p := ⟨_, gE (by omega)⟩
  rw [sumV_succ, ih (by omega), kidsTo_step hx, costK_app, visV_eq hg hx]
  omega
theorem kidsTo_mem {ps : List PN} (hg : Good ps) : ∀ m v, v ∈ kidsTo ps m → 0 ≤ v ∧ v + 1 < (m : Int) + 0 ∨ 0 ≤ v ∧ v < (m : Int) - 1 := by
 intro m
 induction m with
 | zero => intro v hv; simp [kidsTo] at hv
 | succ m ih =>
  intro v hv
  cases hx : ps[m]? with
  | none =>
   have : kidsTo ps (m + 1) = kidsTo ps m := by unfold kidsTo; rw [List.take_add_one, hx]; simp
   rw [this] at hv
   have := ih v hv
   omega
  | some p =>
   rw [kidsTo_step hx] at hv
   rcases List.mem_append.1 hv with hv | hv
   ·have := ih v hv; omega
   ·have := (hg m p hx).2 v hv; omega
theorem range_count (m q : Nat) : ((List.range m).map (fun (j : Nat) => (j : Int))).count (q : Int) = if q < m then 1 else 0 := by
 induction m with
 | zero => simp
 | succ m ih =>
  rw [List.range_succ, List.map_append, List.count_append, ih]
  simp only [List.map_cons, List.map_nil, List.count_singleton]
  by_cases h : q = m
  ·subst h; simp
  ·have : ((m : Int) == (q : Int)) = false := by rw [beq_eq_false_iff_ne]; omega
   rw [this]
   simp only [Bool.false_eq_true, if_false, Nat.add_zero]
   by_cases h2 : q < m
   ·rw [if_pos h2, if_pos (by omega)]
   ·rw [if_neg h2, if_neg (by omega)]
theorem perm_sum {l r : List Nat} (h : l.Perm r) : l.sum = r.sum := by
 induction h with
 | nil => rfl
 | cons x _ ih => simp [ih]
 | swap x y l => simp only [List.sum_cons]; omega
 | trans _ _ ih1 ih2 => rw [ih1, ih2]
theorem kids_perm {ps : List PN} (hg : Good ps) {m : Nat} (hu : usedTo ps (m + 1) m) : (kidsTo ps (m + 1)).Perm ((List.range m).map (fun (j : Nat) => (j : Int))) := by
 rw [List.perm_iff_count]
 intro a
 by_cases ha : 0 ≤ a ∧ a < (m : Int)
 ·obtain ⟨q, rfl⟩ := Int.eq_ofNat_of_zero_le ha.1
  have h1 := hu q (by omega)
  rw [h1]
  rw [range_count, if_pos (by omega)]
 ·have h1 : (kidsTo ps (m + 1)).count a = 0 := by
   rw [List.count_eq_zero]
   intro hm
   have := kidsTo_mem hg (m + 1) a hm
   omega
  have h2 : ((List.range m).map (fun (j : Nat) => (j : Int))).count a = 0 := by
   rw [List.count_eq_zero]
   intro hm
   obtain ⟨j, hj, rfl⟩ := List.mem_map.1 hm
   rw [List.mem_range] at hj
   omega
  rw [h1, h2]
theorem visV_root {ps : List PN} (hg : Good ps) {m : Nat} (hl : ps.length = m + 1) (hu : usedTo ps (m + 1) m) : visV ps m = m + 1 := by
 have h1 := sumV_kids hg (m + 1) (by omega)
 have h2 : costK (visV ps) (kidsTo ps (m + 1)) = sumV ps m := by
  unfold costK sumV
  rw [perm_sum ((kids_perm hg hu).map (fun j : Int => visV ps j.toNat)), List.map_map]
  rfl
 rw [h2, sumV_succ] at h1
 omega
def ndZ : PN := ⟨0, ⟨#[]⟩, [], false⟩
def ndAt (ps : List PN) (k : Nat) : PN := ps.getD k ndZ
theorem ndAt_of {ps : List PN} {k : Nat} {p : PN} (h : ps[k]? = some p) : ndAt ps k = p := by unfold ndAt; rw [List.getD_eq_getElem?_getD, h]; rfl
def parN (at_ : Int) : PN := ⟨11, ⟨#[]⟩, [at_], false⟩
structure Way where
 leaf : Nat → Option PN
 turn : PN → Nat → Int → Nat × Bool
def onePut (go : Nat → List PN → List PN) (t : Nat × Bool) (o : List PN) : List PN := if t.2 = true then go t.1 o ++ [parN (((go t.1 o).length : Int) - 1)] else go t.1 o
def mkKids (go : Nat → List PN → List PN) (turn : Nat → Int → Nat × Bool) : Nat → List Int → List PN → List Int → List PN × List Int
 | _, [], o, ks => (o, ks)
 | i, kid :: r, o, ks => mkKids go turn (i + 1) r (onePut go (turn i kid) o) (ks ++ [((onePut go (turn i kid) o).length : Int) - 1])
def mkN (Y : Way) (ps : List PN) : Nat → Nat → List PN → List PN
 | 0, _, o => o
 | f + 1, k, o => match Y.leaf k with
  | some p => o ++ [p]
  | none => (mkKids (mkN Y ps f) (Y.turn (ndAt ps k)) 0 (ndAt ps k).kids o []).1 ++ [⟨(ndAt ps k).kind, (ndAt ps k).text, (mkKids (mkN Y ps f) (Y.turn (ndAt ps k)) 0 (ndAt ps k).kids o []).2, (ndAt ps k).blank⟩]
def mkV (Y : Way) (ps : List PN) (k : Nat) (o : List PN) : List PN := mkN Y ps (k + 1) k o
def Way.Fits (Y : Way) (ps : List PN) : Prop :=
 ∀ (k : Nat) (x : PN) (i : Nat) (kid : Int), ps[k]? = some x → Y.leaf k = none → x.kids[i]? = some kid → (Y.turn x i kid).1 < k ∧ visV ps (Y.turn x i kid).1 + (if (Y.turn x i kid).2 = true then 1 else 0) ≤ visV ps kid.toNat
theorem mkKids_congr {go go' : Nat → List PN → List PN} {turn turn' : Nat → Int → Nat × Bool} : ∀ (l : List Int) (i : Nat) (o : List PN) (ks : List Int),
  (∀ j kid, l[j]? = some kid → turn (i + j) kid = turn' (i + j) kid ∧ ∀ o, go (turn' (i + j) kid).1 o = go' (turn' (i + j) kid).1 o) → mkKids go turn i l o ks = mkKids go' turn' i l o ks := by
 intro l
 induction l with
 | nil => intro i o ks _; rfl
 | cons kid r ih =>
  intro i o ks h
  have h0 := h 0 kid rfl
  rw [Nat.add_zero] at h0
  unfold mkKids onePut
  rw [h0.1, h0.2]
  exact ih (i + 1) _ _ (fun j k hk => by have := h (j + 1) k hk; rwa [show i + (j + 1) = i + 1 + j by omega] at this)
theorem mkN_more {Y : Way} {ps : List PN} (hY : Y.Fits ps) : ∀ (f k : Nat), k < f → k < ps.length → ∀ o, mkN Y ps f k o = mkV Y ps k o := by
 intro f
 induction f using Nat.strongRecOn with
 | ind f ih =>
  intro k hk hl o
  obtain ⟨f', rfl⟩ : ∃ f', f = f' + 1 := ⟨f - 1, by omega⟩
  obtain ⟨x, hx⟩ : ∃ x, ps[k]? = some x := ⟨_, List.getElem?_eq_getElem hl⟩
  unfold mkV
  unfold mkN
  cases hlf : Y.leaf k with
  | some p => rfl
  | none =>
   have e : mkKids (mkN Y ps f') (Y.turn (ndAt ps k)) 0 (ndAt ps k).kids o [] = mkKids (mkN Y ps k) (Y.turn (ndAt ps k)) 0 (ndAt ps k).kids o [] := by
    rw [ndAt_of hx]
    refine mkKids_congr _ _ _ _ (fun j kid hj => ⟨rfl, fun o => ?_⟩)
    have hF := (hY k x (0 + j) kid hx hlf (by rw [Nat.zero_add]; exact hj)).1
    rw [ih f' (by omega) _ (by omega) (by omega), ih k (by omega) _ hF (by omega)]
   simp only [e]
theorem mkV_eq {Y : Way} {ps : List PN} (hY : Y.Fits ps) {k : Nat} {x : PN} (hx : ps[k]? = some x) (hlf : Y.leaf k = none) (o : List PN) :
  mkV Y ps k o = (mkKids (mkV Y ps) (Y.turn x) 0 x.kids o []).1 ++ [⟨x.kind, x.text, (mkKids (mkV Y ps) (Y.turn x) 0 x.kids o []).2, x.blank⟩] := by
 have hl := (List.getElem?_eq_some_iff.1 hx).1
 have e : mkKids (mkN Y ps k) (Y.turn x) 0 x.kids o [] = mkKids (mkV Y ps) (Y.turn x) 0 x.kids o [] := by
  refine mkKids_congr _ _ _ _ (fun j kid hj => ⟨rfl, fun o => ?_⟩)
  have hF := (hY k x (0 + j) kid hx hlf (by rw [Nat.zero_add]; exact hj)).1
  exact mkN_more hY k _ hF (by omega) o
 show mkN Y ps (k + 1) k o = _
 unfold mkN
 rw [hlf]
 simp only [ndAt_of hx, e]
theorem mkV_leaf {Y : Way} {ps : List PN} {k : Nat} {p : PN} (h : Y.leaf k = some p) (o : List PN) : mkV Y ps k o = o ++ [p] := by
 unfold mkV mkN; rw [h]
theorem mkKids_len {go : Nat → List PN → List PN} {turn : Nat → Int → Nat × Bool} {g : Nat → Nat} : ∀ (l : List Int) (i : Nat) (o : List PN) (ks : List Int),
  (∀ j kid, l[j]? = some kid → (∀ o, (go (turn (i + j) kid).1 o).length ≤ o.length + g (turn (i + j) kid).1) ∧ g (turn (i + j) kid).1 + (if (turn (i + j) kid).2 = true then 1 else 0) ≤ g kid.toNat) →
  (mkKids go turn i l o ks).1.length ≤ o.length + costK g l ∧ (mkKids go turn i l o ks).2.length = ks.length + l.length := by
 intro l
 induction l with
 | nil => intro i o ks _; exact ⟨by simp [mkKids, costK], by simp [mkKids]⟩
 | cons kid r ih =>
  intro i o ks h
  have h0 := h 0 kid rfl
  rw [Nat.add_zero] at h0
  have h1 := ih (i + 1) (onePut go (turn i kid) o) (ks ++ [((onePut go (turn i kid) o).length : Int) - 1]) (fun j k hk => by have := h (j + 1) k hk; rwa [show i + (j + 1) = i + 1 + j by omega] at this)
  have h2 : (onePut go (turn i kid) o).length ≤ o.length + g kid.toNat := by
   have := h0.1 o
   have h3 := h0.2
   unfold onePut
   by_cases e : (turn i kid).2 = true
   ·rw [if_pos e] at h3 ⊢; simp only [lA, List.length_cons, List.length_nil]; omega
   ·rw [if_neg e] at h3 ⊢; omega
  have h3 : costK g (kid :: r) = g kid.toNat + costK g r := by simp [costK]
  unfold mkKids
  refine ⟨by rw [h3]; omega, ?_⟩
  rw [h1.2, lA, List.length_cons, List.length_cons, List.length_nil]; omega
theorem mkV_len {Y : Way} {ps : List PN} (hg : Good ps) (hY : Y.Fits ps) : ∀ (k : Nat), k < ps.length → ∀ o, (mkV Y ps k o).length ≤ o.length + visV ps k := by
 intro k
 induction k using Nat.strongRecOn with
 | ind k ih =>
  intro hl o
  obtain ⟨x, hx⟩ : ∃ x, ps[k]? = some x := ⟨_, List.getElem?_eq_getElem hl⟩
  have hv := visV_eq hg hx
  cases hlf : Y.leaf k with
  | some p => rw [mkV_leaf hlf]; simp; omega
  | none =>
   rw [mkV_eq hY hx hlf]
   have := (mkKids_len (go := mkV Y ps) (turn := Y.turn x) (g := visV ps) x.kids 0 o [] (fun j kid hj => by
    rw [Nat.zero_add]
    have hF := hY k x j kid hx hlf hj
    exact ⟨fun o => ih _ hF.1 (by omega) o, hF.2⟩)).1
   simp; omega
def kid0 (x : PN) : Nat := (x.kids.getD 0 0).toNat
def bareF (ps : List PN) : Nat → Nat → Nat
 | 0, k => k
 | f + 1, k => if (ndAt ps k).kind = 11 then bareF ps f (kid0 (ndAt ps k)) else k
def bareV (ps : List PN) (k : Nat) : Nat := bareF ps (k + 1) k
def ParOk (ps : List PN) : Prop := ∀ (k : Nat) (x : PN), ps[k]? = some x → x.kind = 11 → x.kids.length = 1
section
variable {ps : List PN}
theorem kid0_lt (hg : Good ps) {k : Nat} {x : PN} (hx : ps[k]? = some x) (hl : 1 ≤ x.kids.length) : x.kids[0]? = some ((kid0 x : Nat) : Int) ∧ kid0 x < k := by
 obtain ⟨v, hv⟩ : ∃ v, x.kids[0]? = some v := ⟨_, gE (by omega)⟩
 have hb := (hg k x hx).2 v (List.mem_of_getElem? hv)
 have e : kid0 x = v.toNat := by unfold kid0; rw [List.getD_eq_getElem?_getD, hv]; rfl
 rw [e, hv]
 exact ⟨by rw [show ((v.toNat : Nat) : Int) = v by omega], by omega⟩
theorem bareF_more (hg : Good ps) (hp : ParOk ps) : ∀ (f k : Nat), k < f → k < ps.length → bareF ps f k = bareV ps k := by
 intro f
 induction f using Nat.strongRecOn with
 | ind f ih =>
  intro k hk hl
  obtain ⟨f', rfl⟩ : ∃ f', f = f' + 1 := ⟨f - 1, by omega⟩
  obtain ⟨x, hx⟩ : ∃ x, ps[k]? = some x := ⟨_, List.getElem?_eq_getElem hl⟩
  unfold bareV bareF
  rw [ndAt_of hx]
  by_cases h11 : x.kind = 11
  ·have hq := (kid0_lt hg hx (by rw [hp k x hx h11]; omega)).2
   rw [if_pos h11, if_pos h11, ih f' (by omega) _ (by omega) (by omega), ih k (by omega) _ hq (by omega)]
  ·rw [if_neg h11, if_neg h11]
theorem bareV_par (hg : Good ps) (hp : ParOk ps) {k : Nat} {x : PN} (hx : ps[k]? = some x) (h : x.kind = 11) : bareV ps k = bareV ps (kid0 x) := by
 have hl := (List.getElem?_eq_some_iff.1 hx).1
 have hq := (kid0_lt hg hx (by rw [hp k x hx h]; omega)).2
 have e : bareV ps k = bareF ps k (kid0 x) := by
  show bareF ps (k + 1) k = _
  rw [bareF, ndAt_of hx, if_pos h]
 rw [e]
 exact bareF_more hg hp k _ hq (by omega)
theorem bareV_not {k : Nat} {x : PN} (hx : ps[k]? = some x) (h : ¬ x.kind = 11) : bareV ps k = k := by
 unfold bareV bareF; rw [ndAt_of hx, if_neg h]
theorem bareV_facts (hg : Good ps) (hp : ParOk ps) : ∀ (k : Nat), k < ps.length → bareV ps k ≤ k ∧ (∃ y, ps[bareV ps k]? = some y ∧ ¬ y.kind = 11) ∧ visV ps (bareV ps k) ≤ visV ps k ∧ (∀ x, ps[k]? = some x → x.kind = 11 → bareV ps k < k ∧ visV ps (bareV ps k) + 1 ≤ visV ps k) := by
 intro k
 induction k using Nat.strongRecOn with
 | ind k ih =>
  intro hl
  obtain ⟨x, hx⟩ : ∃ x, ps[k]? = some x := ⟨_, List.getElem?_eq_getElem hl⟩
  by_cases h11 : x.kind = 11
  ·have h1 := hp k x hx h11
   have hq := kid0_lt hg hx (by rw [h1]; omega)
   obtain ⟨i1, i2, i3, _⟩ := ih (kid0 x) hq.2 (by omega)
   have hv := visV_eq hg hx
   have e : x.kids = [((kid0 x : Nat) : Int)] := by
    obtain ⟨v, e⟩ := List.length_eq_one_iff.1 h1
    rw [e] at hq ⊢
    simp at hq
    rw [← hq.1]
   rw [e] at hv
   have hc : costK (visV ps) [((kid0 x : Nat) : Int)] = visV ps (kid0 x) := by simp [costK]
   rw [hc] at hv
   rw [bareV_par hg hp hx h11]
   refine ⟨by omega, i2, by omega, fun y hy _ => ⟨by omega, by omega⟩⟩
  ·rw [bareV_not hx h11]
   exact ⟨Nat.le_refl _, ⟨x, hx, h11⟩, Nat.le_refl _, fun y hy h => by rw [hx] at hy; obtain rfl := Option.some.inj hy; exact absurd h h11⟩
end
def isT (t : ByteArray) (l : List UInt8) : Bool := t.toList == l
def chainLv (t : ByteArray) : Int := if isT t [124, 124] = true then 2 else if isT t [38, 38] = true then 3 else if isT t [61, 61] = true then 4 else if isT t [60] = true then 5 else if (isT t [43] || isT t [45]) = true then 6 else 7
def levelK (kd : Int) (t : ByteArray) : Int := if kd = 10 then 0 else if kd = 8 ∨ kd = 9 then 1 else if kd = 7 then chainLv t else 8
def swapK (kx : Int) (tx : ByteArray) (ky : Int) (ty : ByteArray) : Bool := (kx == 7 && ky == 7) && ((isT tx [43] && isT ty [45]) || (isT tx [45] && isT ty [43]))
def wantsK (kx : Int) (tx : ByteArray) (m i : Nat) (ky : Int) (ty : ByteArray) : Bool :=
 if kx = 5 then decide (i = 0) && decide (levelK ky ty < 8)
 else if kx = 6 then decide (levelK ky ty < 8)
 else if kx = 7 then decide (levelK ky ty ≤ chainLv tx) && !(decide (i = 0) && swapK kx tx ky ty)
 else if kx = 8 then (if i = 0 then decide (levelK ky ty < 2) else decide (levelK ky ty < 1))
 else if kx = 9 then decide (i + 1 = m) && decide (levelK ky ty < 1)
 else if kx = 10 then decide (i = 0) && decide (levelK ky ty < 1) else false
def wantsB (x : PN) (i : Nat) (y : PN) : Bool := wantsK x.kind x.text x.kids.length i y.kind y.text
def spareW (ps : List PN) : Way := ⟨fun _ => none, fun x i kid => if (ndAt ps kid.toNat).kind = 11 then (bareV ps kid.toNat, wantsB x i (ndAt ps (bareV ps kid.toNat))) else (kid.toNat, false)⟩
theorem spareW_fits {ps : List PN} (hg : Good ps) (hp : ParOk ps) : (spareW ps).Fits ps := fun k x i kid hx _ hk => by
 have hb := (hg k x hx).2 kid (List.mem_of_getElem? hk)
 have hl := (List.getElem?_eq_some_iff.1 hx).1
 obtain ⟨y, hy⟩ : ∃ y, ps[kid.toNat]? = some y := ⟨_, List.getElem?_eq_getElem (show kid.toNat < ps.length by omega)⟩
 unfold spareW
 simp only [ndAt_of hy]
 by_cases h11 : y.kind = 11
 ·rw [if_pos h11]
  obtain ⟨h1, h2, h3, h4⟩ := bareV_facts hg hp kid.toNat (by omega)
  obtain ⟨h5, h6⟩ := h4 y hy h11
  refine ⟨(show bareV ps kid.toNat < k by omega), ?_⟩
  show visV ps (bareV ps kid.toNat) + (if _ then 1 else 0) ≤ visV ps kid.toNat
  split <;> omega
 ·rw [if_neg h11]
  exact ⟨(show kid.toNat < k by omega), (show visV ps kid.toNat + 0 ≤ _ by omega)⟩
def numD (l : List UInt8) : Int := l.foldl (fun n c => 10 * n + ((c.toNat : Int) - 48)) 0
def opV (t : ByteArray) (a b : Int) : Int := if isT t [43] = true then a + b else if isT t [45] = true then a - b else a * b
def arithT (t : ByteArray) : Bool := isT t [43] || (isT t [45] || isT t [42])
def chainG (go : Nat → Option Int) (t : ByteArray) : Int → List Int → Option Int
 | a, [] => some a
 | a, kid :: r => match go kid.toNat with
  | none => none
  | some b => if -1000000000 ≤ opV t a b ∧ opV t a b ≤ 1000000000 then chainG go t (opV t a b) r else none
def chainA (go : Nat → Option Int) (t : ByteArray) : List Int → Option Int
 | [] => some 0
 | kid :: r => match go kid.toNat with
  | none => none
  | some a => chainG go t a r
def constN (ps : List PN) : Nat → Nat → Option Int
 | 0, _ => none
 | f + 1, k => if (ndAt ps k).kind = 2 then (if (ndAt ps k).text.size ≤ 9 then some (numD (ndAt ps k).text.data.toList) else none)
  else if (ndAt ps k).kind = 11 then constN ps f (kid0 (ndAt ps k))
  else if (ndAt ps k).kind = 7 then (if arithT (ndAt ps k).text = true then chainA (constN ps f) (ndAt ps k).text (ndAt ps k).kids else none) else none
def constV (ps : List PN) (k : Nat) : Option Int := constN ps (k + 1) k
theorem chainG_congr {go go' : Nat → Option Int} {t : ByteArray} : ∀ (l : List Int) (a : Int), (∀ v ∈ l, go v.toNat = go' v.toNat) → chainG go t a l = chainG go' t a l := by
 intro l
 induction l with
 | nil => intro a _; rfl
 | cons v r ih =>
  intro a h
  unfold chainG
  rw [h v (by simp)]
  cases go' v.toNat with
  | none => rfl
  | some b => simp only; rw [ih _ (fun u hu => h u (by simp [hu]))]
theorem chainA_congr {go go' : Nat → Option Int} {t : ByteArray} (l : List Int) (h : ∀ v ∈ l, go v.toNat = go' v.toNat) : chainA go t l = chainA go' t l := by
 cases l with
 | nil => rfl
 | cons v r =>
  simp only [chainA]
  rw [h v (by simp)]
  cases go' v.toNat with
  | none => rfl
  | some b => exact chainG_congr r b (fun u hu => h u (by simp [hu]))
section
variable {ps : List PN}
theorem constN_more (hg : Good ps) (hp : ParOk ps) : ∀ (f k : Nat), k < f → k < ps.length → constN ps f k = constV ps k := by
 intro f
 induction f using Nat.strongRecOn with
 | ind f ih =>
  intro k hk hl
  obtain ⟨f', rfl⟩ : ∃ f', f = f' + 1 := ⟨f - 1, by omega⟩
  obtain ⟨x, hx⟩ : ∃ x, ps[k]? = some x := ⟨_, List.getElem?_eq_getElem hl⟩
  unfold constV
  rw [constN, constN, ndAt_of hx]
  by_cases h2 : x.kind = 2
  ·rw [if_pos h2, if_pos h2]
  rw [if_neg h2, if_neg h2]
  by_cases h11 : x.kind = 11
  ·have hq := (kid0_lt hg hx (by rw [hp k x hx h11]; omega)).2
   rw [if_pos h11, if_pos h11, ih f' (by omega) _ (by omega) (by omega), ih k (by omega) _ hq (by omega)]
  rw [if_neg h11, if_neg h11]
  have e : chainA (constN ps f') x.text x.kids = chainA (constN ps k) x.text x.kids := chainA_congr _ (fun v hv => by
   have hb := (hg k x hx).2 v hv
   rw [ih f' (by omega) _ (by omega) (by omega), ih k (by omega) _ (by omega) (by omega)])
  rw [e]
theorem constN_lt (hg : Good ps) (hp : ParOk ps) {k : Nat} {x : PN} (hx : ps[k]? = some x) : constV ps k = (if x.kind = 2 then (if x.text.size ≤ 9 then some (numD x.text.data.toList) else none)
  else if x.kind = 11 then constV ps (kid0 x) else if x.kind = 7 then (if arithT x.text = true then chainA (constV ps) x.text x.kids else none) else none) := by
 have hl := (List.getElem?_eq_some_iff.1 hx).1
 have e0 : constV ps k = constN ps (k + 1) k := rfl
 rw [e0, constN, ndAt_of hx]
 by_cases h11 : x.kind = 11
 ·have hq := (kid0_lt hg hx (by rw [hp k x hx h11]; omega)).2
  rw [constN_more hg hp k _ hq (by omega)]
  have e : ∀ a b : Option Int, (if x.kind = 11 then constV ps (kid0 x) else a) = (if x.kind = 11 then constV ps (kid0 x) else b) := fun a b => by rw [if_pos h11, if_pos h11]
  rw [e _ (if x.kind = 7 then (if arithT x.text = true then chainA (constV ps) x.text x.kids else none) else none)]
 ·rw [if_neg h11, if_neg h11]
  have e : chainA (constN ps k) x.text x.kids = chainA (constV ps) x.text x.kids := chainA_congr _ (fun v hv => by
   have hb := (hg k x hx).2 v hv
   exact constN_more hg hp k _ (by omega) (by omega))
  rw [e]
def In9 (v : Option Int) : Prop := ∀ n, v = some n → -1000000000 ≤ n ∧ n ≤ 1000000000
theorem in9_chain {go : Nat → Option Int} {t : ByteArray} : ∀ (l : List Int) (a : Int), -1000000000 ≤ a ∧ a ≤ 1000000000 → In9 (chainG go t a l) := by
 intro l
 induction l with
 | nil => intro a h n e; obtain rfl := Option.some.inj e; exact h
 | cons v r ih =>
  intro a h
  unfold chainG
  cases go v.toNat with
  | none => intro n e; cases e
  | some b =>
   simp only
   split
   ·rename_i h2; exact ih _ h2
   ·intro n e; cases e
theorem numD_lt : ∀ (l : List UInt8) (a : Int), 0 ≤ a → l.all figC = true → 0 ≤ l.foldl (fun n c => 10 * n + ((c.toNat : Int) - 48)) a ∧ l.foldl (fun n c => 10 * n + ((c.toNat : Int) - 48)) a < (a + 1) * 10 ^ l.length := by
 intro l
 induction l with
 | nil => intro a h _; simp; omega
 | cons c r ih =>
  intro a h hd
  rw [List.all_cons, Bool.and_eq_true] at hd
  have h1 := of_decide_eq_true hd.1
  have := ih (10 * a + ((c.toNat : Int) - 48)) (by omega) hd.2
  rw [List.foldl_cons, List.length_cons]
  refine ⟨this.1, Int.lt_of_lt_of_le this.2 ?_⟩
  rw [Int.pow_succ, show (a + 1) * (10 ^ r.length * 10) = ((a + 1) * 10) * 10 ^ r.length by rw [Int.mul_comm (10 ^ r.length) 10, Int.mul_assoc]]
  exact Int.mul_le_mul_of_nonneg_right (by omega) (Int.pow_nonneg (by decide))
theorem numD_in9 {s : ByteArray} (hd : s.data.toList.all figC = true) (hs : s.size ≤ 9) : 0 ≤ numD s.data.toList ∧ numD s.data.toList ≤ 999999999 := by
 have h := numD_lt s.data.toList 0 (by omega) hd
 refine ⟨h.1, ?_⟩
 have h2 : (10 : Int) ^ s.data.toList.length ≤ 10 ^ 9 := by
  have h3 : s.data.toList.length ≤ 9 := by simpa using hs
  have h4 : (10 : Nat) ^ s.data.toList.length ≤ 10 ^ 9 := Nat.pow_le_pow_right (by decide) h3
  exact_mod_cast h4
 have h5 := h.2
 unfold numD
 omega
def NumOk (ps : List PN) : Prop := ∀ (k : Nat) (x : PN), ps[k]? = some x → x.kind = 2 → x.text.data.toList.all figC = true
theorem constV_in9 (hg : Good ps) (hp : ParOk ps) (hn : NumOk ps) : ∀ (k : Nat), k < ps.length → In9 (constV ps k) := by
 intro k
 induction k using Nat.strongRecOn with
 | ind k ih =>
  intro hl
  obtain ⟨x, hx⟩ : ∃ x, ps[k]? = some x := ⟨_, List.getElem?_eq_getElem hl⟩
  rw [constN_lt hg hp hx]
  split
  ·rename_i h2
   split
   ·rename_i h9
    intro n e
    obtain rfl := Option.some.inj e
    have := numD_in9 (hn k x hx h2) h9
    omega
   ·intro n e; cases e
  ·split
   ·rename_i h11
    have hq := (kid0_lt hg hx (by rw [hp k x hx h11]; omega)).2
    exact ih _ hq (by omega)
   ·split
    ·split
     ·cases hk : x.kids with
      | nil => intro n e; obtain rfl := Option.some.inj e; omega
      | cons v r =>
       have hb := (hg k x hx).2 v (by rw [hk]; simp)
       have h3 := ih v.toNat (by omega) (by omega)
       simp only [chainA]
       cases hc : constV ps v.toNat with
       | none => intro n e; cases e
       | some a => exact in9_chain r a (h3 a hc)
     ·intro n e; cases e
    ·intro n e; cases e
end
def leafV (ps : List PN) (k : Nat) : Option Int := if (ndAt ps k).kind = 7 then (match constV ps k with | some n => if 0 ≤ n ∧ n ≤ 999999999 then some n else none | none => none) else none
def foldW (ps : List PN) : Way := ⟨fun k => (leafV ps k).map (fun n => ⟨2, decT n, [], false⟩), fun _ _ kid => (kid.toNat, false)⟩
theorem foldW_fits {ps : List PN} (hg : Good ps) : (foldW ps).Fits ps := fun k x i kid hx _ hk => by
 have := (hg k x hx).2 kid (List.mem_of_getElem? hk)
 exact ⟨(show kid.toNat < k by omega), (show visV ps kid.toNat + 0 ≤ _ by omega)⟩
def idW : Way := ⟨fun _ => none, fun _ _ kid => (kid.toNat, false)⟩
theorem idW_fits {ps : List PN} (hg : Good ps) : idW.Fits ps := fun k x i kid hx _ hk => by
 have := (hg k x hx).2 kid (List.mem_of_getElem? hk)
 exact ⟨(show kid.toNat < k by omega), (show visV ps kid.toNat + 0 ≤ _ by omega)⟩
theorem modify_last {α : Type} (f : α → α) (a : α) : ∀ l : List α, (l ++ [a]).modify l.length f = l ++ [f a] := by
 intro l
 induction l with
 | nil => rfl
 | cons x l ih => rw [List.cons_append, List.length_cons, List.modify_succ_cons, ih, List.cons_append]
def offN (p : PN) : PN := ⟨p.kind, p.text, p.kids, false⟩
def oldP (ps : List PN) (m : Nat) (K : List Int) : List PN :=
 match K with
 | [] => ps.modify m (fun x => ⟨x.kind, x.text, K, x.blank⟩)
 | k0 :: _ => (ps.modify m (fun x => ⟨x.kind, x.text, K, x.blank⟩)).modify k0.toNat offN
def ordS (ps : List PN) : List Int → List PN → List Int → List PN × List Int
 | [], o, ks => (o, ks)
 | kid :: r, o, ks => ordS ps r (if ks.length = 0 then (mkV idW ps kid.toNat o).modify ((mkV idW ps kid.toNat o).length - 1) offN else mkV idW ps kid.toNat o) (ks ++ [((mkV idW ps kid.toNat o).length : Int) - 1])
section
variable {ps : List PN} {m : Nat} {K : List Int} {k0 : Int}
theorem oldP_len : (oldP ps m K).length = ps.length := by unfold oldP; cases K <;> simp
theorem oldP_get {k : Nat} (hk : k ≠ m) (h0 : ∀ v r, K = v :: r → k ≠ v.toNat) : (oldP ps m K)[k]? = ps[k]? := by
 unfold oldP
 cases K with
 | nil => simp only; rw [List.getElem?_modify_ne _ _ (by omega)]
 | cons v r => simp only; rw [List.getElem?_modify_ne _ _ (by have := h0 v r rfl; omega), List.getElem?_modify_ne _ _ (by omega)]
theorem oldP_first {r : List Int} {x : PN} (hK : K = k0 :: r) (hm : k0.toNat ≠ m) (hx : ps[k0.toNat]? = some x) : (oldP ps m K)[k0.toNat]? = some (offN x) := by
 subst hK
 unfold oldP
 simp only
 rw [List.getElem?_modify_eq, List.getElem?_modify_ne _ _ (by omega), hx]
 rfl
theorem oldP_root {x : PN} (h0 : ∀ v r, K = v :: r → v.toNat ≠ m) (hx : ps[m]? = some x) : (oldP ps m K)[m]? = some ⟨x.kind, x.text, K, x.blank⟩ := by
 unfold oldP
 cases K with
 | nil => simp only; rw [List.getElem?_modify_eq, hx]; rfl
 | cons v r => simp only; rw [List.getElem?_modify_ne _ _ (h0 v r rfl), List.getElem?_modify_eq, hx]; rfl
theorem oldP_kids {k : Nat} {y : PN} (hk : k ≠ m) (h0 : ∀ v r, K = v :: r → v.toNat ≠ m) (hy : (oldP ps m K)[k]? = some y) : ∃ x, ps[k]? = some x ∧ y.kids = x.kids ∧ y.kind = x.kind := by
 by_cases h : ∀ v r, K = v :: r → k ≠ v.toNat
 ·rw [oldP_get hk h] at hy; exact ⟨y, hy, rfl, rfl⟩
 ·cases K with
  | nil => exact absurd (fun v r e => by cases e) h
  | cons v r =>
   have e : k = v.toNat := by
    by_cases e : k = v.toNat
    ·exact e
    ·exact absurd (fun v' r' e' => by injection e' with e1 e2; subst e1; exact e) h
   subst e
   have hl : v.toNat < ps.length := by
    have := (List.getElem?_eq_some_iff.1 hy).1
    rwa [oldP_len] at this
   obtain ⟨x, hx⟩ : ∃ x, ps[v.toNat]? = some x := ⟨_, List.getElem?_eq_getElem hl⟩
   rw [oldP_first rfl hk hx] at hy
   obtain rfl := Option.some.inj hy
   exact ⟨x, hx, rfl, rfl⟩
structure OrdOk (ps : List PN) (m : Nat) (K : List Int) : Prop where
 good : Good ps
 len : ps.length = m + 1
 lt : ∀ v ∈ K, 0 ≤ v ∧ v < (m : Int)
 once : K.Nodup
 free : ∀ j x v, ps[j]? = some x → j ≠ m → v ∈ K → v ∉ x.kids
 few : K.length ≤ 12
theorem OrdOk.head (h : OrdOk ps m K) : ∀ v r, K = v :: r → v.toNat ≠ m := fun v r e => by
 subst e
 have := h.lt v (by simp)
 omega
theorem OrdOk.goodO (h : OrdOk ps m K) : Good (oldP ps m K) := fun k y hy => by
 by_cases hk : k = m
 ·subst hk
  have hl : k < ps.length := by have := h.len; omega
  obtain ⟨x, hx⟩ : ∃ x, ps[k]? = some x := ⟨_, List.getElem?_eq_getElem hl⟩
  rw [oldP_root h.head hx] at hy
  obtain rfl := Option.some.inj hy
  exact ⟨h.few, fun v hv => h.lt v hv⟩
 ·obtain ⟨x, hx, e, _⟩ := oldP_kids hk h.head hy
  rw [e]
  exact h.good k x hx
theorem OrdOk.same (h : OrdOk ps m K) : ∀ (k : Nat), k < m → (∀ v r, K = v :: r → k ≠ v.toNat) → ∀ o, mkV idW (oldP ps m K) k o = mkV idW ps k o := by
 intro k
 induction k using Nat.strongRecOn with
 | ind k ih =>
  intro hk h0 o
  have hl : k < ps.length := by have := h.len; omega
  obtain ⟨x, hx⟩ : ∃ x, ps[k]? = some x := ⟨_, List.getElem?_eq_getElem hl⟩
  have hy : (oldP ps m K)[k]? = some x := by rw [oldP_get (by omega) h0]; exact hx
  rw [mkV_eq (idW_fits h.goodO) hy rfl, mkV_eq (idW_fits h.good) hx rfl]
  have e : mkKids (mkV idW (oldP ps m K)) (idW.turn x) 0 x.kids o [] = mkKids (mkV idW ps) (idW.turn x) 0 x.kids o [] := by
   refine mkKids_congr _ _ _ _ (fun j kid hj => ⟨rfl, fun o => ?_⟩)
   have hm := List.mem_of_getElem? hj
   have hb := (h.good k x hx).2 kid hm
   refine ih kid.toNat (by omega) (by omega) (fun v r e he => ?_) o
   have hv : v = kid := by
    have := h.lt v (by rw [e]; simp)
    omega
   subst hv
   exact h.free k x v hx (by omega) (by rw [e]; simp) hm
  rw [e]
theorem OrdOk.first (h : OrdOk ps m K) {r : List Int} (hK : K = k0 :: r) (o : List PN) : mkV idW (oldP ps m K) k0.toNat o = (mkV idW ps k0.toNat o).modify ((mkV idW ps k0.toNat o).length - 1) offN := by
 have hk := h.lt k0 (by rw [hK]; simp)
 have hl : k0.toNat < ps.length := by have := h.len; omega
 obtain ⟨x, hx⟩ : ∃ x, ps[k0.toNat]? = some x := ⟨_, List.getElem?_eq_getElem hl⟩
 have hy := oldP_first hK (h.head _ _ hK) hx
 rw [mkV_eq (idW_fits h.goodO) hy rfl, mkV_eq (idW_fits h.good) hx rfl]
 have e : mkKids (mkV idW (oldP ps m K)) (idW.turn (offN x)) 0 (offN x).kids o [] = mkKids (mkV idW ps) (idW.turn x) 0 x.kids o [] := by
  refine mkKids_congr (turn := idW.turn (offN x)) (turn' := idW.turn x) x.kids 0 o [] (fun j kid hj => ⟨rfl, fun o => ?_⟩)
  have hm := List.mem_of_getElem? hj
  have hb := (h.good _ x hx).2 kid hm
  refine h.same kid.toNat (by omega) (fun v r' e he => ?_) o
  have hv : v = k0 := by rw [hK] at e; injection e with e _; exact e.symm
  subst hv
  omega
 rw [e]
 rw [lA, List.length_cons, List.length_nil, Nat.add_sub_cancel, modify_last]
 rfl
theorem OrdOk.rest (h : OrdOk ps m K) : ∀ (l : List Int) (i : Nat) (o : List PN) (ks : List Int), ks.length ≠ 0 → (∀ v ∈ l, v ∈ K ∧ ∀ a r, K = a :: r → v ≠ a) →
  ordS ps l o ks = mkKids (mkV idW (oldP ps m K)) (idW.turn ndZ) i l o ks := by
 intro l
 induction l with
 | nil => intro i o ks _ _; rfl
 | cons kid r ih =>
  intro i o ks hks hl
  have h1 := hl kid (by simp)
  have h2 := h.lt kid h1.1
  have e : onePut (mkV idW (oldP ps m K)) (idW.turn ndZ i kid) o = mkV idW ps kid.toNat o := by
   show (if (false : Bool) = true then _ else mkV idW (oldP ps m K) kid.toNat o) = _
   rw [if_neg (by decide)]
   exact h.same kid.toNat (by omega) (fun v r' e he => h1.2 v r' e (by have := h.lt v (by rw [e]; simp); omega)) o
  unfold ordS mkKids
  rw [e, if_neg hks]
  exact ih (i + 1) _ _ (by simp) (fun v hv => hl v (by simp [hv]))
theorem OrdOk.all (h : OrdOk ps m K) (o : List PN) : ordS ps K o [] = mkKids (mkV idW (oldP ps m K)) (idW.turn ndZ) 0 K o [] := by
 cases hK : K with
 | nil => rfl
 | cons v r =>
  have e : onePut (mkV idW (oldP ps m K)) (idW.turn ndZ 0 v) o = (mkV idW ps v.toNat o).modify ((mkV idW ps v.toNat o).length - 1) offN := by
   show (if (false : Bool) = true then _ else mkV idW (oldP ps m K) v.toNat o) = _
   rw [if_neg (by decide)]
   exact h.first hK o
  rw [← hK]
  have e2 : ordS ps K o [] = ordS ps r ((mkV idW ps v.toNat o).modify ((mkV idW ps v.toNat o).length - 1) offN) [((mkV idW ps v.toNat o).length : Int) - 1] := by
   rw [hK]; rfl
  have e3 : mkKids (mkV idW (oldP ps m K)) (idW.turn ndZ) 0 K o [] = mkKids (mkV idW (oldP ps m K)) (idW.turn ndZ) 1 r ((mkV idW ps v.toNat o).modify ((mkV idW ps v.toNat o).length - 1) offN) [((mkV idW ps v.toNat o).length : Int) - 1] := by
   have e4 : mkKids (mkV idW (oldP ps m K)) (idW.turn ndZ) 0 (v :: r) o [] = mkKids (mkV idW (oldP ps m K)) (idW.turn ndZ) 1 r (onePut (mkV idW (oldP ps m K)) (idW.turn ndZ 0 v) o) ([] ++ [((onePut (mkV idW (oldP ps m K)) (idW.turn ndZ 0 v) o).length : Int) - 1]) := rfl
   rw [e] at e4
   rw [List.length_modify, List.nil_append, ← hK] at e4
   exact e4
  rw [e2, e3]
  have hn := h.once
  rw [hK] at hn
  refine h.rest r 1 _ _ (by simp) (fun u hu => ⟨by rw [hK]; simp [hu], fun a r' ea => ?_⟩)
  rw [hK] at ea
  injection ea with ea _
  subst ea
  intro e5
  subst e5
  exact (List.nodup_cons.1 hn).1 hu
end
abbrev Grp := List Int × Int
def groupsG (ps : List PN) : List Int → List Int → List Grp → List Grp
 | [], notes, out => if notes.length = 0 then out else out ++ [(notes, -1)]
 | kid :: r, notes, out => if (ndAt ps kid.toNat).kind = 19 then groupsG ps r (notes ++ [kid]) out else groupsG ps r [] (out ++ [(notes, kid)])
def grpKids (g : Grp) : List Int := g.1 ++ (if 0 ≤ g.2 then [g.2] else [])
theorem groupsG_flat {ps : List PN} : ∀ (l notes : List Int) (out : List Grp), (∀ v ∈ l, 0 ≤ v) → (groupsG ps l notes out).flatMap grpKids = out.flatMap grpKids ++ (notes ++ l) := by
 intro l
 induction l with
 | nil =>
  intro notes out _
  unfold groupsG
  split
  ·rename_i h; rw [List.eq_nil_of_length_eq_zero h]; simp
  ·rw [List.flatMap_append]; simp [grpKids]
 | cons kid r ih =>
  intro notes out h
  unfold groupsG
  split
  ·rw [ih _ _ (fun v hv => h v (by simp [hv]))]; simp
  ·rw [ih _ _ (fun v hv => h v (by simp [hv])), List.flatMap_append]
   have := h kid (by simp)
   simp [grpKids, this]
theorem groupsG_len {ps : List PN} : ∀ (l notes : List Int) (out : List Grp), (groupsG ps l notes out).length ≤ out.length + l.length + (if notes.length = 0 then 0 else 1) := by
 intro l
 induction l with
 | nil => intro notes out; unfold groupsG; split <;> simp_all
 | cons kid r ih =>
  intro notes out
  unfold groupsG
  split
  ·have := ih (notes ++ [kid]) out
   have h1 : (notes ++ [kid]).length ≠ 0 := by simp
   rw [if_neg h1] at this
   rw [List.length_cons]
   split <;> omega
  ·have := ih [] (out ++ [(notes, kid)])
   rw [if_pos (show ([] : List Int).length = 0 from rfl)] at this
   simp only [lA, List.length_cons, List.length_nil] at this
   rw [List.length_cons]
   split <;> omega
theorem insAll_perm {α : Type} (lt : α → α → Bool) : ∀ (l o : List α), (l.foldl (fun o x => insS lt x o) o).Perm (o ++ l) := by
 intro l
 induction l with
 | nil => intro o; simp
 | cons x l ih =>
  intro o
  rw [List.foldl_cons]
  refine (ih _).trans ?_
  refine ((insS_perm x o).append_right l).trans ?_
  rw [List.cons_append]
  exact (List.perm_middle (a := x) (l₁ := o) (l₂ := l)).symm
theorem perm_flat {α β : Type} (f : α → List β) {l r : List α} (h : l.Perm r) : (l.flatMap f).Perm (r.flatMap f) := by
 induction h with
 | nil => exact List.Perm.refl _
 | cons x _ ih => rw [List.flatMap_cons, List.flatMap_cons]; exact ih.append_left _
 | swap x y l =>
  simp only [List.flatMap_cons, ← List.append_assoc]
  exact List.perm_append_comm.append_right _
 | trans _ _ ih1 ih2 => exact ih1.trans ih2
structure Tree (ps : List PN) (m : Nat) : Prop where
 good : Good ps
 len : ps.length = m + 1
 used : usedTo ps (m + 1) m
theorem Tree.perm {ps : List PN} {m : Nat} (h : Tree ps m) {x : PN} (hx : ps[m]? = some x) {K : List Int} (hK : K.Perm x.kids) : OrdOk ps m K where
 good := h.good
 len := h.len
 lt := fun v hv => (h.good m x hx).2 v (hK.mem_iff.1 hv)
 once := by
  refine (List.Perm.nodup_iff hK).2 ?_
  rw [List.nodup_iff_count]
  intro v
  by_cases hv : v ∈ x.kids
  ·have hb := (h.good m x hx).2 v hv
   have hu := h.used v.toNat (by omega)
   rw [kidsTo_step hx, List.count_append, show ((v.toNat : Nat) : Int) = v by omega] at hu
   omega
  ·rw [List.count_eq_zero.2 hv]; omega
 free := fun j y v hy hj hv hvy => by
  have hv' := hK.mem_iff.1 hv
  have hb := (h.good m x hx).2 v hv'
  have hu := h.used v.toNat (by omega)
  rw [kidsTo_step hx, List.count_append, show ((v.toNat : Nat) : Int) = v by omega] at hu
  have h1 : 0 < x.kids.count v := List.count_pos_iff.2 hv'
  have h2 : (kidsTo ps m).count v = 0 := by omega
  rw [List.count_eq_zero] at h2
  refine h2 ?_
  have hjl := (List.getElem?_eq_some_iff.1 hy).1
  have hjm : j < m := by have := h.len; omega
  unfold kidsTo
  rw [List.mem_flatMap]
  refine ⟨y, ?_, hvy⟩
  rw [List.mem_iff_getElem?]
  exact ⟨j, by rw [List.getElem?_take, if_pos hjm]; exact hy⟩
 few := by rw [hK.length_eq]; exact (h.good m x hx).1
def groupsV (ps : List PN) (m : Nat) : List Grp := groupsG ps (ndAt ps m).kids [] []
def keyV (ps : List PN) (v : Int) : ByteArray :=
 if 0 ≤ v ∧ v < (ps.length : Int) then (if (ndAt ps v.toNat).kind = 12 then ⟨#[97]⟩ ++ (ndAt ps v.toNat).text else if (ndAt ps v.toNat).kind = 21 then ⟨#[98]⟩ ++ (ndAt ps v.toNat).text
  else if (ndAt ps v.toNat).kind = 20 then ⟨#[99]⟩ ++ (ndAt ps v.toNat).text else ⟨#[100]⟩) else ⟨#[100]⟩
def ordV (lt : ByteArray → ByteArray → Bool) (ps : List PN) (m : Nat) : List Grp := insAll (fun x y : Grp => lt (keyV ps x.2) (keyV ps y.2)) (groupsV ps m)
def ordK (lt : ByteArray → ByteArray → Bool) (ps : List PN) (m : Nat) : List Int := (ordV lt ps m).flatMap grpKids
theorem ordK_ok {ps : List PN} {m : Nat} (lt : ByteArray → ByteArray → Bool) (h : Tree ps m) {x : PN} (hx : ps[m]? = some x) : OrdOk ps m (ordK lt ps m) := by
 refine h.perm hx ?_
 have h1 : (ordV lt ps m).Perm (groupsV ps m) := by
  have := insAll_perm (fun x y : Grp => lt (keyV ps x.2) (keyV ps y.2)) (groupsV ps m) []
  rwa [List.nil_append] at this
 have h2 := perm_flat grpKids h1
 have h3 : (groupsV ps m).flatMap grpKids = x.kids := by
  unfold groupsV
  rw [groupsG_flat _ _ _ (fun v hv => by rw [ndAt_of hx] at hv; exact ((h.good m x hx).2 v hv).1), ndAt_of hx]
  simp
 rwa [h3] at h2
structure TreeF (ps : List PN) (m : Nat) : Prop where
 tree : Tree ps m
 few : m + 1 ≤ 300
 node : ∀ j, j < m + 1 → nodeB ps j = true
 root : ∃ x, ps[m]? = some x ∧ x.kind = 22 ∧ x.text = ⟨#[]⟩ ∧ x.blank = false
theorem nodeB_parts {ps : List PN} {k : Nat} {x : PN} (hb : nodeB ps k = true) (hx : ps[k]? = some x) : textB x.kind x.text = true ∧ kfB x.kind (kindsOf ps x.kids) = true ∧ (mayK x.kind || !x.blank) = true := by
 unfold nodeB at hb
 rw [hx] at hb
 simp only [Bool.and_eq_true] at hb
 exact ⟨hb.1.1.2, hb.2.1, hb.2.2.2⟩
theorem treeF {ps : List PN} (h : treeB ps = true) : ∃ m, TreeF ps m := by
 unfold treeB at h
 simp only [Bool.and_eq_true] at h
 obtain ⟨h1, h2, h3, h4⟩ := h
 have h1' := of_decide_eq_true h1
 obtain ⟨m, hm⟩ : ∃ m, ps.length = m + 1 := ⟨ps.length - 1, by omega⟩
 have hd : ¬ deepV ps (ps.length - 1) = 0 := by
  intro e; rw [e] at h3; cases h3
 have hall : ∀ j, j < m + 1 → nodeB ps j = true := fun j hj => deep_all hd j (by omega)
 obtain ⟨x, hx⟩ : ∃ x, ps[m]? = some x := ⟨_, gE (by omega)⟩
 have e1 : ((ps.length : Int) - 1) = (m : Int) := by omega
 rw [e1, kindAt_some hx] at h2
 have h22 : x.kind = 22 := by simpa using h2
 have hp := nodeB_parts (hall m (by omega)) hx
 rw [h22] at hp
 refine ⟨m, ⟨good_of hd, hm, fun i hi => ?_⟩, by omega, hall, x, hx, h22, ?_, ?_⟩
 ·unfold usedB at h4
  rw [List.all_eq_true, hm] at h4
  have := h4 i (List.mem_range.2 (by omega))
  simpa using this
 ·have h0 : x.text.size = 0 := of_decide_eq_true hp.1
  apply ba_ext
  rw [List.eq_nil_of_length_eq_zero (show x.text.data.toList.length = 0 by rw [ba_len]; exact h0)]
 ·have h0 : (!x.blank) = true := hp.2.2
  cases hxb : x.blank with
  | false => rfl
  | true => rw [hxb] at h0; cases h0
section
variable {ps : List PN} {m : Nat}
theorem TreeF.par (h : TreeF ps m) : ParOk ps := fun k x hx h11 => by
 have hl := (List.getElem?_eq_some_iff.1 hx).1
 have hp := (nodeB_parts (h.node k (by have := h.tree.len; omega)) hx).2.1
 rw [h11] at hp
 have h2 : (decide ((kindsOf ps x.kids).length = 1) && (kindsOf ps x.kids).all valueK) = true := hp
 rw [Bool.and_eq_true] at h2
 have h3 := of_decide_eq_true h2.1
 unfold kindsOf at h3
 rwa [List.length_map] at h3
theorem TreeF.num (h : TreeF ps m) : NumOk ps := fun k x hx h2 => by
 have hl := (List.getElem?_eq_some_iff.1 hx).1
 have hp := (nodeB_parts (h.node k (by have := h.tree.len; omega)) hx).1
 rw [h2] at hp
 have h3 : numB x.text = true := hp
 unfold numB at h3
 rw [Bool.and_eq_true] at h3
 exact h3.2
theorem TreeF.numPos (h : TreeF ps m) {k : Nat} {x : PN} (hx : ps[k]? = some x) (h2 : x.kind = 2) : 0 < x.text.size ∧ x.text.size ≤ 12 ∧ allB figC x.text = true := by
 have hl := (List.getElem?_eq_some_iff.1 hx).1
 have hp := (nodeB_parts (h.node k (by have := h.tree.len; omega)) hx).1
 rw [h2] at hp
 have h3 : numB x.text = true := hp
 unfold numB at h3
 rw [Bool.and_eq_true] at h3
 exact ⟨(of_decide_eq_true h3.1).1, (of_decide_eq_true h3.1).2, h3.2⟩
theorem TreeF.chain (h : TreeF ps m) {k : Nat} {x : PN} (hx : ps[k]? = some x) (h7 : x.kind = 7) : 2 ≤ x.kids.length := by
 have hl := (List.getElem?_eq_some_iff.1 hx).1
 have hp := (nodeB_parts (h.node k (by have := h.tree.len; omega)) hx).2.1
 rw [h7] at hp
 have h2 : (decide (2 ≤ (kindsOf ps x.kids).length) && (kindsOf ps x.kids).all valueK) = true := hp
 rw [Bool.and_eq_true] at h2
 have h3 := of_decide_eq_true h2.1
 unfold kindsOf at h3
 rwa [List.length_map] at h3
end
theorem mkKids_ks {go : Nat → List PN → List PN} {turn : Nat → Int → Nat × Bool} : ∀ (l : List Int) (i : Nat) (o : List PN) (ks : List Int), (mkKids go turn i l o ks).2.length = ks.length + l.length := by
 intro l
 induction l with
 | nil => intro i o ks; rfl
 | cons kid r ih => intro i o ks; unfold mkKids; rw [ih, lA, List.length_cons, List.length_nil, List.length_cons]; omega
theorem mkKids_mem {go : Nat → List PN → List PN} {turn : Nat → Int → Nat × Bool} {Pr : PN → Prop} (hpar : ∀ v, Pr (parN v)) : ∀ (l : List Int) (i : Nat) (o : List PN) (ks : List Int),
  (∀ j kid, l[j]? = some kid → ∀ o, (∀ p ∈ o, Pr p) → ∀ p ∈ go (turn (i + j) kid).1 o, Pr p) → (∀ p ∈ o, Pr p) → ∀ p ∈ (mkKids go turn i l o ks).1, Pr p := by
 intro l
 induction l with
 | nil => intro i o ks _ h; exact h
 | cons kid r ih =>
  intro i o ks h ho
  have h0 := h 0 kid rfl
  rw [Nat.add_zero] at h0
  unfold mkKids
  refine ih (i + 1) _ _ (fun j k hk => by have := h (j + 1) k hk; rwa [show i + (j + 1) = i + 1 + j by omega] at this) ?_
  unfold onePut
  split
  ·intro p hp
   rcases List.mem_append.1 hp with hp | hp
   ·exact h0 o ho p hp
   ·obtain rfl := List.mem_singleton.1 hp; exact hpar _
  ·exact h0 o ho
theorem mkV_mem {Y : Way} {ps : List PN} (hY : Y.Fits ps) {Pr : PN → Prop} (hpar : ∀ v, Pr (parN v)) (hleaf : ∀ k p, Y.leaf k = some p → Pr p)
  (hown : ∀ (k : Nat) (x : PN) (ks : List Int), ps[k]? = some x → ks.length = x.kids.length → Pr ⟨x.kind, x.text, ks, x.blank⟩) : ∀ (k : Nat), k < ps.length → ∀ o, (∀ p ∈ o, Pr p) → ∀ p ∈ mkV Y ps k o, Pr p := by
 intro k
 induction k using Nat.strongRecOn with
 | ind k ih =>
  intro hl o ho
  obtain ⟨x, hx⟩ : ∃ x, ps[k]? = some x := ⟨_, List.getElem?_eq_getElem hl⟩
  cases hlf : Y.leaf k with
  | some p =>
   rw [mkV_leaf hlf]
   intro q hq
   rcases List.mem_append.1 hq with hq | hq
   ·exact ho q hq
   ·obtain rfl := List.mem_singleton.1 hq; exact hleaf k q hlf
  | none =>
   rw [mkV_eq hY hx hlf]
   intro q hq
   rcases List.mem_append.1 hq with hq | hq
   ·refine mkKids_mem hpar x.kids 0 o [] (fun j kid hj o ho => ?_) ho q hq
    rw [Nat.zero_add]
    have hF := hY k x j kid hx hlf hj
    exact ih _ hF.1 (by omega) o ho
   ·obtain rfl := List.mem_singleton.1 hq
    exact hown k x _ hx (by rw [mkKids_ks]; simp)
def smallP (p : PN) : Prop := p.text.size ≤ 1048576 ∧ p.kids.length ≤ 1048576
theorem small_par (v : Int) : smallP (parN v) := ⟨by show (0 : Nat) ≤ _; omega, by show (1 : Nat) ≤ _; omega⟩
theorem mkV_small {Y : Way} {ps qs : List PN} {m : Nat} (hg : Good qs) (hY : Y.Fits qs) (hl : qs.length = m + 1) (hv : visV qs m ≤ 300) (hp : PNs qs) (hleaf : ∀ k p, Y.leaf k = some p → smallP p) : PNs (mkV Y qs m []) ∧ (mkV Y qs m []).length ≤ 300 := by
 refine ⟨?_, ?_⟩
 ·refine mkV_mem hY (Pr := smallP) small_par hleaf (fun k x ks hx hk => ?_) m (by omega) [] (fun p hp => by cases hp)
  have := hp x (List.mem_of_getElem? hx)
  exact ⟨this.1, by show ks.length ≤ _; rw [hk]; exact this.2⟩
 ·have := mkV_len hg hY m (by omega) []
  simp at this
  omega
def foldedV (ps : List PN) : List PN := if treeB ps = true then mkV (foldW ps) ps (ps.length - 1) [] else ps
def sparedV (ps : List PN) : List PN := if treeB ps = true then mkV (spareW ps) ps (ps.length - 1) [] else ps
def orderedV (lt : ByteArray → ByteArray → Bool) (ps : List PN) : List PN := if treeB ps = true then mkV idW (oldP ps (ps.length - 1) (ordK lt ps (ps.length - 1))) (ps.length - 1) [] else ps
def treatV (lt : ByteArray → ByteArray → Bool) (ps : List PN) (spare fold order : Bool) : List PN :=
 let a := if fold = true then foldedV ps else ps
 let b := if spare = true then sparedV a else a
 if order = true then orderedV lt b else b
def FineT (ps : List PN) : Prop := PNs ps ∧ ps.length ≤ 1048576
theorem leaf_fold {ps : List PN} (k : Nat) (p : PN) (h : (foldW ps).leaf k = some p) : smallP p := by
 obtain ⟨n, hn, rfl⟩ := Option.map_eq_some_iff.1 (show (leafV ps k).map (fun n => (⟨2, decT n, [], false⟩ : PN)) = some p from h)
 have hb : 0 ≤ n ∧ n ≤ 999999999 := by
  unfold leafV at hn
  split at hn
  ·split at hn
   ·split at hn
    ·rename_i h2; obtain rfl := Option.some.inj hn; exact h2
    ·cases hn
   ·cases hn
  ·cases hn
 have := decT_size n (by omega) (by omega)
 exact ⟨show (decT n).size ≤ _ by omega, by show (0 : Nat) ≤ _; omega⟩
theorem foldedV_fine {ps : List PN} (h : FineT ps) : FineT (foldedV ps) := by
 unfold foldedV
 split
 ·rename_i ht
  obtain ⟨m, hm⟩ := treeF ht
  have hl := hm.tree.len
  have hv := visV_root hm.tree.good hl hm.tree.used
  rw [show ps.length - 1 = m by omega]
  have := mkV_small (ps := ps) hm.tree.good (foldW_fits hm.tree.good) hl (by have := hm.few; omega) h.1 leaf_fold
  exact ⟨this.1, by omega⟩
 ·exact h
theorem sparedV_fine {ps : List PN} (h : FineT ps) : FineT (sparedV ps) := by
 unfold sparedV
 split
 ·rename_i ht
  obtain ⟨m, hm⟩ := treeF ht
  have hl := hm.tree.len
  have hv := visV_root hm.tree.good hl hm.tree.used
  rw [show ps.length - 1 = m by omega]
  have := mkV_small (ps := ps) hm.tree.good (spareW_fits hm.tree.good hm.par) hl (by have := hm.few; omega) h.1 (fun k p e => by cases e)
  exact ⟨this.1, by omega⟩
 ·exact h
section
variable {ps : List PN} {m : Nat} {K : List Int}
theorem oldP_kidsTo (h0 : ∀ v r, K = v :: r → v.toNat ≠ m) (hl : ps.length = m + 1) : ∀ j, j ≤ m → kidsTo (oldP ps m K) j = kidsTo ps j := by
 intro j
 induction j with
 | zero => intro _; rfl
 | succ j ih =>
  intro hj
  obtain ⟨y, hy⟩ : ∃ y, (oldP ps m K)[j]? = some y := ⟨_, gE (by rw [oldP_len]; omega)⟩
  obtain ⟨x, hx, e, _⟩ := oldP_kids (by omega) h0 hy
  rw [kidsTo_step hy, kidsTo_step hx, ih (by omega), e]
theorem oldP_tree (h : Tree ps m) {x : PN} (hx : ps[m]? = some x) (hK : K.Perm x.kids) : Tree (oldP ps m K) m := by
 have ho := h.perm hx hK
 refine ⟨ho.goodO, by rw [oldP_len]; exact h.len, fun j hj => ?_⟩
 rw [kidsTo_step (oldP_root ho.head hx), oldP_kidsTo ho.head h.len m (Nat.le_refl _), List.count_append]
 have := h.used j hj
 rw [kidsTo_step hx, List.count_append] at this
 rw [← this]
 congr 1
 exact hK.count_eq _
theorem oldP_small (h : Tree ps m) {x : PN} (hx : ps[m]? = some x) (hK : K.Perm x.kids) (hp : PNs ps) : PNs (oldP ps m K) := by
 have ho := h.perm hx hK
 intro y hy
 obtain ⟨k, hk⟩ := List.mem_iff_getElem?.1 hy
 by_cases hkm : k = m
 ·subst hkm
  rw [oldP_root ho.head hx] at hk
  obtain rfl := Option.some.inj hk
  exact ⟨(hp x (List.mem_of_getElem? hx)).1, by show K.length ≤ _; have := ho.few; omega⟩
 ·by_cases h2 : ∀ v r, K = v :: r → k ≠ v.toNat
  ·rw [oldP_get hkm h2] at hk; exact hp y (List.mem_of_getElem? hk)
  ·cases hKK : K with
   | nil => exact absurd (fun v r e => by rw [hKK] at e; cases e) h2
   | cons v r =>
    have e : k = v.toNat := by
     by_cases e : k = v.toNat
     ·exact e
     ·exact absurd (fun v' r' e' => by rw [hKK] at e'; injection e' with e1 e2; subst e1; exact e) h2
    subst e
    have hl2 := (List.getElem?_eq_some_iff.1 hk).1
    rw [oldP_len] at hl2
    obtain ⟨z, hz⟩ : ∃ z, ps[v.toNat]? = some z := ⟨_, List.getElem?_eq_getElem hl2⟩
    rw [oldP_first hKK hkm hz] at hk
    obtain rfl := Option.some.inj hk
    exact hp z (List.mem_of_getElem? hz)
end
theorem ordK_perm {ps : List PN} {m : Nat} (lt : ByteArray → ByteArray → Bool) (h : Tree ps m) {x : PN} (hx : ps[m]? = some x) : (ordK lt ps m).Perm x.kids := by
 have h1 : (ordV lt ps m).Perm (groupsV ps m) := by
  have := insAll_perm (fun x y : Grp => lt (keyV ps x.2) (keyV ps y.2)) (groupsV ps m) []
  rwa [List.nil_append] at this
 have h2 := perm_flat grpKids h1
 have h3 : (groupsV ps m).flatMap grpKids = x.kids := by
  unfold groupsV
  rw [groupsG_flat _ _ _ (fun v hv => by rw [ndAt_of hx] at hv; exact ((h.good m x hx).2 v hv).1), ndAt_of hx]
  simp
 rwa [h3] at h2
theorem orderedV_fine {ps : List PN} (lt : ByteArray → ByteArray → Bool) (h : FineT ps) : FineT (orderedV lt ps) := by
 unfold orderedV
 split
 ·rename_i ht
  obtain ⟨m, hm⟩ := treeF ht
  have hl := hm.tree.len
  rw [show ps.length - 1 = m by omega]
  obtain ⟨x, hx, _⟩ := hm.root
  have hK := ordK_perm lt hm.tree hx
  have hT := oldP_tree hm.tree hx hK
  have hv := visV_root hT.good hT.len hT.used
  have := mkV_small (ps := ps) hT.good (idW_fits hT.good) hT.len (by have := hm.few; omega) (oldP_small hm.tree hx hK h.1) (fun k p e => by cases e)
  exact ⟨this.1, by omega⟩
 ·exact h
theorem treatV_fine {ps : List PN} (lt : ByteArray → ByteArray → Bool) (s f o : Bool) (h : FineT ps) : FineT (treatV lt ps s f o) := by
 unfold treatV
 have h1 : FineT (if f = true then foldedV ps else ps) := by split; exact foldedV_fine h; exact h
 generalize (if f = true then foldedV ps else ps) = a at h1
 have h2 : FineT (if s = true then sparedV a else a) := by split; exact sparedV_fine h1; exact h1
 dsimp only
 generalize (if s = true then sparedV a else a) = b at h2
 split
 ·exact orderedV_fine lt h2
 ·exact h2
section
variable {go : Nat → List PN → List PN} {turn : Nat → Int → Nat × Bool} {l : List Int} {j : Nat} {v : Int} {o : List PN} {ks : List Int}
theorem mkKids_at (h : l[j]? = some v) : mkKids go turn j (l.drop j) o ks = mkKids go turn (j + 1) (l.drop (j + 1)) (onePut go (turn j v) o) (ks ++ [((onePut go (turn j v) o).length : Int) - 1]) := by
 obtain ⟨hlt, he⟩ := List.getElem?_eq_some_iff.1 h
 rw [List.drop_eq_getElem_cons hlt, he]
 rfl
theorem mkKids_done (h : l.length ≤ j) : mkKids go turn j (l.drop j) o ks = (o, ks) := by rw [List.drop_of_length_le h]; rfl
theorem costK_drop {g : Nat → Nat} (h : l[j]? = some v) : costK g (l.drop j) = g v.toNat + costK g (l.drop (j + 1)) := by
 obtain ⟨hlt, he⟩ := List.getElem?_eq_some_iff.1 h
 rw [List.drop_eq_getElem_cons hlt, he]
 simp [costK]
end
def MkR (R : MC) (Y : Way) (ps : List PN) (k : Nat) (AN : Option Addr) (l : List Nd) (w : World) (e : Ending) (w' : World) : Prop :=
 ∃ A3 c3 l3 q3, e = .returned (.int .i64 ((l3.length : Int) - 1)) ∧ MkC R q3 (.slice A3 l3.length c3) A3 c3 l3 w' ∧ Ke R (AN.map (·.block)) w (A3.map (·.block)) w' ∧ l3.map Nd.pn = mkV Y ps k (l.map Nd.pn)
abbrev MS (T : Nat) (ty : TypeId) (cs : Int → Value → Array Value) (w0 : World) (U : Nat → Prop) : MC := ⟨true, T, ty, cs, 1, w0, U⟩
def NodeM (F : FuncId) (T : Nat) (ty : TypeId) (cs : Int → Value → Array Value) (w0 : World) (Y : Way) (ps : List PN) (k : Nat) : Prop :=
 ∀ U q AN cN l w, MkC (MS T ty cs w0 U) q (.slice AN l.length cN) AN cN l w → l.length + visV ps k ≤ 300 → Calls prog F #[.pointer (some ⟨T, 0, none⟩), .int .i64 (k : Int)] w (MkR (MS T ty cs w0 U) Y ps k AN l w)
theorem MkC.appInt {R : MC} {q : Int} {V : Value} {AN : Option Addr} {cN : Nat} {l : List Nd} {w w1 : World} {A : Option Addr} {ln c : Nat} {ks : List Int} {k : Int} {row0 : Option Nat} {ops : Array Oper} {rest : List Oper} {o : Oper} {a : Act} {Q : Exit → Act → World → Prop} (s x : Operand)
  (HI : Hid (MkC (R.res A) q V AN cN l w1)) (HK : Hid (Ke R row0 w (AN.map (·.block)) w1)) (HM : Hid (Mine w1 w.heap.size 3 1 A ln c (intCells ks))) (HB : Hid (R.w0.heap.size ≤ w.heap.size)) (hgd : o.guard = none) (ho : o.op = .call { callee := .builtin .append, args := #[s, x], argTypes := #[37, 37] }) (hs : a.eval s = .slice A ln c) (hx : a.eval x = .slice (some ⟨w1.heap.size, 0, none⟩) 1 1) (hln : ln ≤ 100000)
  (h : ∀ A' c' w', Hid (MkC (R.res A') q V AN cN l w') → Hid (Ke R row0 w (AN.map (·.block)) w') → Hid (Mine w' w.heap.size 3 1 A' (ln + 1) c' (intCells (ks ++ [k]))) → Hid (w1.heap.size ≤ w'.heap.size ∧ ∀ g t cs, Blk w1 g t cs → t ≠ 3 → Blk w' g t cs) → wpList prog ops Q rest (a.put o.dst (.slice A' (ln + 1) c')) w') : wpList prog ops Q (o :: rest) a (w1.alloc (.cells #[.int .i64 k] 3)) := by
 obtain ⟨i0, hi, hz0, hz1, hz2⟩ := info_parts infoInt
 have hz := HK.out.1
 refine wpList_append_row _ hgd s x _ ho w.heap.size 3 i0 (.int .i64 0) 1 8 underlying37 hi hz0 hz1 hz2 rfl (by decide) (.slice A ln c) ln (intCells ks) hs (Mine.alloc HM.out _) ⟨w1.heap.size, 0, none⟩ 1 1 [.int .i64 k] hx rfl (int_new _ k _) (int_one _) (by unfold maxLen; omega) (by omega) (by simp; omega) ?_
 intro v' w5 hown hg hwh
 obtain ⟨A5, c5, rfl, h5, m5⟩ := MkC.appended HI.out HM.out HB.out ((Below.refl _ _).alloc (Nat.le_refl _) _) hown hg hwh
 have HK5 := hid ((HK.out.below ((Below.refl _ _).alloc (Nat.le_refl _) _)).grown hg (fun g hg => by rw [ownBlk] at hg; exact (Mine.blk HM.out hg).1))
 rw [← ints_snoc] at m5
 refine h A5 c5 w5 h5 HK5 m5 ⟨Nat.le_trans (by simp) hg.size, fun g t cs hb ht => ?_⟩
 refine (hb.alloc _).grown hg (fun e => ?_)
 rw [ownBlk] at e
 obtain ⟨cs', b'⟩ := mine_blk' HM.out e.symm
 exact blk_ne hb b' ht rfl
structure KidM (R : MC) (w : World) (row0 : Option Nat) (box : Array Value) (j : Nat) (AK : Option Addr) (cK : Nat) (ks : List Int) (AL : Option Addr) (cL : Nat) (l : List Nd) (q : Int) (wr : World) : Prop where
 klen : ks.length = j
 mkc : MkC (R.res AK) q (.slice AL l.length cL) AL cL l wr
 ke : Ke R row0 w (AL.map (·.block)) wr
 row : Mine wr w.heap.size 3 1 AK j cK (intCells ks)
 box : Blk wr w.heap.size 48 box
 off : some w.heap.size ≠ AL.map (·.block)
section
variable {R : MC} {w : World} {row0 : Option Nat} {box : Array Value} {j : Nat} {AK : Option Addr} {cK : Nat} {ks : List Int} {AL AN : Option Addr} {cL cN : Nat} {l : List Nd} {q : Int} {wr w' : World} {e : Ending}
theorem KidM.init (hc : MkC R q (.slice AN l.length cN) AN cN l w) (box : Array Value) : KidM R w (AN.map (·.block)) box 0 none 0 [] AN cN l q (w.alloc (.cells box 48)) :=
 ⟨rfl, (hc.res_none).alloc _, Ke.of_below ((Below.refl _ _).alloc (Nat.le_refl _) _), Mine.mk_nil _ _ _ _, Blk.new _ _ _, fun e => by have := hc.row_lt e; omega⟩
theorem KidM.next (h : KidM R w row0 box j AK cK ks AL cL l q wr) (hb : Below wr.heap.size wr w') : KidM R w row0 box j AK cK ks AL cL l q w' := ⟨h.klen, h.mkc.next hb, h.ke.below hb, h.row.next hb, h.box.next hb, h.off⟩
theorem KidM.step (hT : R.imp = true → R.T < w.heap.size) (h : KidM R w row0 box j AK cK ks AL cL l q wr) {A3 : Option Addr} {c3 : Nat} {l3 : List Nd} {q3 : Int} (hm : MkC (R.res AK) q3 (.slice A3 l3.length c3) A3 c3 l3 w') (hk : Ke (R.res AK) (AL.map (·.block)) wr (A3.map (·.block)) w') : KidM R w row0 box j AK cK ks A3 c3 l3 q3 w' := by
 have hk2 : Ke R (AL.map (·.block)) wr (A3.map (·.block)) w' := hk
 exact ⟨h.klen, hm, h.ke.trans hk2, h.mkc.keepI hk h.row, h.box.ke hk2 (fun hi => by have := hT hi; omega) h.off, hk2.fresh h.off h.box.lt⟩
theorem KidM.node (hT : R.imp = true → R.T < w.heap.size) (h : KidM R w row0 box j AK cK ks AL cL l q wr) {Y : Way} {ps : List PN} {k : Nat} (hr : MkR (R.res AK) Y ps k AL l wr e w') :
  ∃ A3 c3 l3 q3, e = .returned (.int .i64 ((l3.length : Int) - 1)) ∧ KidM R w row0 box j AK cK ks A3 c3 l3 q3 w' ∧ l3.map Nd.pn = mkV Y ps k (l.map Nd.pn) := by
 obtain ⟨A3, c3, l3, q3, he, hm, hk, hp⟩ := hr
 exact ⟨A3, c3, l3, q3, he, h.step hT hm hk, hp⟩
theorem KidM.add (hT : R.imp = true → R.T < w.heap.size) (h : KidM R w row0 box j AK cK ks AL cL l q wr) {x : Nd} (hr : AddR (R.res AK) q x AL l wr e w') :
  ∃ A3 c3, e = .returned (.int .i64 (l.length : Int)) ∧ KidM R w row0 box j AK cK ks A3 c3 (l ++ [x]) q w' := by
 obtain ⟨A3, c3, he, hm, hk⟩ := hr
 refine ⟨A3, c3, he, h.step hT (l3 := l ++ [x]) ?_ hk⟩
 rw [lA, List.length_cons, List.length_nil]; exact hm
theorem KidM.app {k : Int} {A' : Option Addr} {c' : Nat} (h : KidM R w row0 box j AK cK ks AL cL l q wr) (h1 : MkC (R.res A') q (.slice AL l.length cL) AL cL l w') (h2 : Ke R row0 w (AL.map (·.block)) w') (h3 : Mine w' w.heap.size 3 1 A' (j + 1) c' (intCells (ks ++ [k])))
  (h4 : wr.heap.size ≤ w'.heap.size ∧ ∀ g t cs, Blk wr g t cs → t ≠ 3 → Blk w' g t cs) : KidM R w row0 box (j + 1) A' c' (ks ++ [k]) AL cL l q w' :=
 ⟨by rw [lA, h.klen]; rfl, h1, h2, h3, h4.2 _ _ _ h.box (by decide), h.off⟩
theorem KidM.setBox (hT : R.imp = true → R.T < w.heap.size) (hw : R.w0.heap.size ≤ w.heap.size) (h : KidM R w row0 box j AK cK ks AL cL l q wr) (i : Nat) (u : Value) : KidM R w row0 (box.setIfInBounds i u) j AK cK ks AL cL l q (wr.setCell ⟨w.heap.size, i, none⟩ u) := by
 obtain ⟨c1, c2, c3, c6, c7⟩ := h.mkc
 have hsz : (wr.setCell ⟨w.heap.size, i, none⟩ u).heap.size = wr.heap.size := by simp [World.setCell]
 have hk := Kept.of_set wr (B := w.heap.size) (hi := w.heap.size + 1) (Nat.le_refl _) (by omega) i u
 refine ⟨h.klen, ⟨fun hi => (c1 hi).far (fun e => by have := hT hi; simp only at e; have e2 : R.T = w.heap.size := e; omega) _, c2.kept hk (fun g hg => ?_), ⟨fun x hx => ⟨(c3.1 x hx).1, mine_set (c3.1 x hx).2 h.box (by decide) _ _⟩, fun g hg => by rw [hsz]; exact c3.2.1 g hg, c3.2.2⟩, c6.setCell hw _, c7⟩, ⟨?_, h.ke.2.1, fun g hg ht hr => ?_⟩, mine_set h.row h.box (by decide) _ _, h.box.set_ i u, h.off⟩
 ·have : g ≠ w.heap.size := fun e => h.off (by rw [← e]; exact hg.symm)
  omega
 ·rw [hsz]; exact h.ke.1
 ·exact (hk.2.2 g (Nat.lt_of_lt_of_le hg h.ke.1) (.inl hg)).trans (h.ke.2.2 g hg ht hr)
theorem KidM.setT (hi : R.imp = true) (hT : R.imp = true → R.T < w.heap.size) (h : KidM R w row0 box j AK cK ks AL cL l q wr) {i : Nat} {u : Value} {q' : Int} (he : (R.cs q (.slice AL l.length cL)).setIfInBounds i u = R.cs q' (.slice AL l.length cL)) : KidM R w row0 box j AK cK ks AL cL l q' (wr.setCell ⟨R.T, i, none⟩ u) := by
 have h2 := h.mkc.setAt (R := R.res AK) (row := AL.map (·.block)) hi he
 exact h.step hT h2.1 h2.2
theorem KidM.par (h : KidM R w row0 box j AK cK ks AL cL l q wr) (k : Int) : MkC ((R.res AK).res (some ⟨wr.heap.size, 0, none⟩)) q (.slice AL l.length cL) AL cL l (wr.alloc (.cells #[.int .i64 k] 3)) ∧ KidsIn (wr.alloc (.cells #[.int .i64 k] 3)) R.w0.heap.size (R.res AK).U ⟨11, ⟨#[]⟩, some ⟨wr.heap.size, 0, none⟩, 1, 1, [k], false⟩ := by
 have hold : R.w0.heap.size ≤ wr.heap.size := h.mkc.old.size
 refine ⟨h.mkc.res_new ((Below.refl _ _).alloc (Nat.le_refl _) _) (fun g e => ?_), ⟨Nat.le_refl _, fun g e hu => ?_⟩, Mine.mk_own (c := 1) ⟨[], Blk.new wr 3 #[.int .i64 k], rfl⟩ rfl hold (Nat.le_refl _) (by unfold maxLen; omega)⟩
 ·injection e with e; simp only at e; subst e; simp
 ·injection e with e; simp only at e; subst e
  have := h.mkc.2.2.1.2.1 _ hu
  omega
theorem KidM.xcells (h : KidM R w row0 box j AK cK ks AL cL l q wr) : (∀ i, wr.cell? ⟨w.heap.size, i, none⟩ = box[i]?) ∧ (∀ i, wr.frozen? ⟨w.heap.size, i, none⟩ = false) ∧ w.heap.size < wr.heap.size := ⟨h.box.cell, h.box.frozen, h.box.lt⟩
end
theorem Npc.at_ {w : World} {A : Option Addr} {n k : Nat} {ps : List PN} {p : PN} (h : Npc w A n ps) (hk : k < n) (hd : ps[k]? = some p) :
  ∃ b off A' c', A = some ⟨b, off, none⟩ ∧ b < w.heap.size ∧ w.cell? ⟨b, off + k * 4, none⟩ = some (.int .i64 p.kind) ∧ w.cell? ⟨b, off + k * 4 + 1, none⟩ = some (.string p.text) ∧ w.cell? ⟨b, off + k * 4 + 2, none⟩ = some (.slice A' p.kids.length c') ∧ w.cell? ⟨b, off + k * 4 + 3, none⟩ = some (.bool p.blank) ∧ Rd w 1 A' p.kids.length (intCells p.kids) ∧ (A' = none → p.kids.length = 0 ∧ c' = 0) := by
 obtain ⟨l, h, hcap, rfl⟩ := h
 rw [List.getElem?_map] at hd
 obtain ⟨d, hd2, rfl⟩ := Option.map_eq_some_iff.1 hd
 obtain ⟨b, off, e, hb, c0, c1, c2, c3⟩ := h.at_ hk hd2
 have hc := h.cnt (List.mem_of_getElem? hd2)
 have hr := h.kids hd2
 have hcp := hcap d (List.mem_of_getElem? hd2)
 refine ⟨b, off, d.adr, d.cap, e, hb, c0, c1, ?_, c3, ?_, fun e => ?_⟩
 ·show w.cell? _ = some (.slice d.adr d.kids.length d.cap); rw [hc]; exact c2
 ·show Rd w 1 d.adr d.kids.length (intCells d.kids); rw [hc]; exact hr
 ·have := hcp.2 e
  exact ⟨by show d.kids.length = 0; rw [hc]; omega, this⟩
theorem int_cells_one (l : List Int) : ∀ u ∈ intCells l, u.oneCell' = true := fun u hu => by
 simp only [intCells, List.mem_map] at hu
 obtain ⟨z, _, rfl⟩ := hu
 rfl
theorem mine_empty (w : World) (e : TypeId) (s : Nat) : Mine (w.alloc (.cells #[] e)) w.heap.size e s (some ⟨w.heap.size, 0, none⟩) 0 0 [] := own_empty w e s
theorem specCopy_any (A : Option Addr) (n c : Nat) (ps : List PN) (w : World) (hn : n ≤ 1048576) (hps : Npc w A n ps) (hb : Hid (PNs ps)) :
  Calls prog 27 #[.slice A n c] w (Made w ps) := by
 have HP := hid hps
 have HL := hid hps.nps.len
 obtain ⟨i0, hi0, hz0, hz1, hz2⟩ := info_parts infoNd
 have HI := hid (And.intro hi0 (And.intro hz0 (And.intro hz1 hz2)))
 obtain ⟨j0, hj0, hy0, hy1, hy2⟩ := info_parts infoInt
 have HJ := hid (And.intro hj0 (And.intro hy0 (And.intro hy1 hy2)))
 have hb0 : Below w.heap.size w (w.alloc (.cells #[] 48)) := grow_
 have hN0 : NR (w.alloc (.cells #[] 48)) w.heap.size (w.alloc (.cells #[] 48)).heap.size (some ⟨w.heap.size, 0, none⟩) 0 0 [] :=
  ⟨rfl, mine_empty w _ _, fun g e => by injection e with e; simp only at e; subst e; simp, fun d hd => (by cases hd), List.Pairwise.nil⟩
 have HN0 := hid hN0
 have HB0 := hid hb0
 clear hps hi0 hz0 hz1 hz2 hj0 hy0 hy1 hy2 hb0 hN0
 go_enter func27, ntmps27
 go_wp2
 go_loopw [3, 4] (fun o i wr => ∃ (k : Nat) (A' : Option Addr) (c' : Nat) (l : List Nd), k ≤ n ∧ i = .int .i64 k ∧ o = .slice A' k c' ∧ Hid (NR wr w.heap.size wr.heap.size A' k c' l) ∧ Hid (l.map Nd.pn = ps.take k) ∧ Hid (Below w.heap.size w wr)) (fun _ i _ => n - (intOf i).toNat)
 case atStart => exact ⟨0, _, 0, [], Nat.zero_le _, rfl, rfl, HN0.out, (rfl : ([] : List Nd).map Nd.pn = ps.take 0), HB0.out⟩
 case round =>
  clear HN0 HB0
  obtain ⟨k, A', c', l, hk, rfl, rfl, HN, HE, HB⟩ := hrel
  by_cases hkn : k < n
  ·obtain ⟨x, hx⟩ := HP.out.nps.get hkn
   obtain ⟨b, off, A2, c2, rfl, hblt, x0, x1, x2, x3, hxr, hA2⟩ := (HP.out.next HB.out).at_ hkn hx
   have HX := hid hx
   have hkm := (hb.out x (List.mem_of_getElem? hx)).2
   have HA2 := hid hA2
   have hb1 : Below wr.heap.size wr ((wr.alloc (.cells #[.int .i64 x.kind, .string x.text, .slice A2 x.kids.length c2, .bool x.blank] 48)).alloc (.cells #[] 3)) := grow_
   have HXR := hid (hxr.next hb1)
   have hme := mine_empty (wr.alloc (.cells #[.int .i64 x.kind, .string x.text, .slice A2 x.kids.length c2, .bool x.blank] 48)) 3 1
   rw [World.size_alloc] at hme
   have HME := hid hme
   have K := (Blk.new wr 48 #[.int .i64 x.kind, .string x.text, .slice A2 x.kids.length c2, .bool x.blank]).alloc (.cells #[] 3)
   have HK := hid K
   have HB1 := hid hb1
   clear hx hxr hA2 hme hb1 K
   go_upto_region 7 with (at_builtin; refine wpList_append_rd rfl (.tmp 17) (.tmp 19) _ rfl (wr.heap.size + 1) 3 j0 (.int .i64 0) 1 8 underlying37 HJ.out.1 HJ.out.2.1 HJ.out.2.2.1 HJ.out.2.2.2 rfl (by decide) (.slice (some ⟨wr.heap.size + 1, 0, none⟩) 0 0) 0 [] rfl HME.out A2 x.kids.length c2 (intCells x.kids) rfl HXR.out HA2.out (int_cells_one _) (by unfold maxLen; omega) (by omega) (by simp) ?_; intro v' w2 hown2 hg2; rw [Nat.zero_add, List.nil_append] at hown2; obtain ⟨A3, c3, rfl, m3⟩ := Mine.of hown2; rw [ownBlk] at hg2; have K2 := HK.out.grown hg2 (fun e => by injection e with e; simp at e); have k0 := K2.cell 0; have k1 := K2.cell 1; have k2 := K2.cell 2; have k3 := K2.cell 3; have kz := K2.lt; have kf := K2.frozen; simp only [List.getElem?_toArray, List.getElem?_cons_zero, List.getElem?_cons_succ] at k0 k1 k2 k3; have HK2 := hid K2; have HM3 := hid m3; have HG2 := hid hg2; clear K2 m3 hg2 hown2)
   have hW : Below wr.heap.size wr (w2.setCell ⟨wr.heap.size, 2, none⟩ (.slice A3 x.kids.length c3)) := by
    have h3 := below_turned (W := wr) HB1.out HG2.out (fun g e => by injection e with e; simp only at e; omega)
    exact h3.setCell (Nat.le_refl _) _
   have hM : Mine (w2.setCell ⟨wr.heap.size, 2, none⟩ (.slice A3 x.kids.length c3)) (wr.heap.size + 1) 3 1 A3 x.kids.length c3 (intCells x.kids) := mine_set HM3.out HK2.out (by decide) _ _
   obtain ⟨y, hy⟩ : ∃ y : Nd, y = ⟨x.kind, x.text, A3, x.kids.length, c3, x.kids, x.blank⟩ := ⟨_, rfl⟩
   have hyc : nodeCells y = [.int .i64 x.kind, .string x.text, .slice A3 x.kids.length c3, .bool x.blank] := by rw [hy]; rfl
   have HNC := hid (show ∀ j v, (nodeCells y)[j]? = some v → ((w2.setCell ⟨wr.heap.size, 2, none⟩ (.slice A3 x.kids.length c3)).alloc (.cells #[.int .i64 x.kind, .string x.text, .slice A3 x.kids.length c3, .bool x.blank] 48)).cell? ((⟨w2.heap.size, 0, none⟩ : Addr).add j) = some v by
    have h9 := nd_new (w2.setCell ⟨wr.heap.size, 2, none⟩ (.slice A3 x.kids.length c3)) y 48
    rw [hy] at h9 ⊢
    simpa [World.setCell] using h9)
   have hW1 : Below wr.heap.size wr ((w2.setCell ⟨wr.heap.size, 2, none⟩ (.slice A3 x.kids.length c3)).alloc (.cells #[.int .i64 x.kind, .string x.text, .slice A3 x.kids.length c3, .bool x.blank] 48)) := hW.alloc hW.size _
   have HROW := hid (HN.out.row.next hW1)
   have HBZ := hid (show w.heap.size ≤ ((w2.setCell ⟨wr.heap.size, 2, none⟩ (.slice A3 x.kids.length c3)).alloc (.cells #[.int .i64 x.kind, .string x.text, .slice A3 x.kids.length c3, .bool x.blank] 48)).heap.size from Nat.le_trans HB.out.size hW1.size)
   have hKR : KidR ((w2.setCell ⟨wr.heap.size, 2, none⟩ (.slice A3 x.kids.length c3)).alloc (.cells #[.int .i64 x.kind, .string x.text, .slice A3 x.kids.length c3, .bool x.blank] 48)) w.heap.size ((w2.setCell ⟨wr.heap.size, 2, none⟩ (.slice A3 x.kids.length c3)).alloc (.cells #[.int .i64 x.kind, .string x.text, .slice A3 x.kids.length c3, .bool x.blank] 48)).heap.size y := by
    have hm4 := (hM.alloc (.cells #[.int .i64 x.kind, .string x.text, .slice A3 x.kids.length c3, .bool x.blank] 48))
    rw [hy]
    exact ⟨hm4.cap, hm4.more (by have := HB.out.size; omega), fun g hg => (Mine.blk hm4 hg).2⟩
   have hfr : ∀ g, y.adr.map (·.block) = some g → wr.heap.size ≤ g := fun g hg => by
    rw [hy] at hg
    have := (Mine.blk hM hg).1
    omega
   have HP := hid (fun (v' : Value) (w3 : World) h1 h2 => HN.out.push y hW1 hKR hfr (v' := v') (w3 := w3) h1 h2)
   have HBL := hid (fun (w3 : World) h2 => Below.grown (HN.out.row) HB.out hW1 (w3 := w3) h2)
   clear hW hM hW1 hKR hfr
   go_wp2_with (at_builtin; (refine wpList_append_row _ rfl (.tmp 22) (.tmp 24) _ rfl w.heap.size 48 i0 (.agg #[.int .i64 0, .string ⟨#[]⟩, .slice none 0 0, .bool false]) 4 56 underlying26 HI.out.1 HI.out.2.1 HI.out.2.2.1 HI.out.2.2.2 rfl (by decide) (.slice A' k c') k (l.flatMap nodeCells) rfl HROW.out ⟨w2.heap.size, 0, none⟩ 1 1 (nodeCells y) rfl rfl HNC.out (nd_one _) (by unfold maxLen; omega) (by omega) HBZ.out ?_); intro v' w6 hown6 hgrow hwh; obtain ⟨A6, c6, rfl, hN6⟩ := HP.out _ _ hown6 hgrow; have hB6 := HBL.out _ hgrow)
   have HN6 := hid hN6
   have HB6 := hid hB6
   clear hN6 hB6 hown6 hgrow hwh
   go_wp2
   go_roundw
   case rel =>
    refine ⟨k + 1, A6, c6, l ++ [y], by omega, by go_num, rfl, HN6.out, ?_, HB6.out⟩
    show _ = _
    rw [List.map_append, HE.out, List.take_add_one, HX.out, hy]
    rfl
   case measure => simp [intOf]; omega
  ·obtain rfl : k = n := by omega
   have ht : ps.take k = ps := List.take_of_length_le (by have := HL.out; omega)
   rw [ht] at HE
   go_wp2
   go_ret
   exact ⟨A', k, c', l, rfl, HN.out, HE.out, HB.out⟩
abbrev RS (w0 : World) (U : Nat → Prop) : MC := ⟨false, 0, 3, fun _ _ => #[], 0, w0, U⟩
theorem RS_ok (w0 : World) (U : Nat → Prop) : (RS w0 U).Ok := ⟨fun e => (by cases e), fun _ _ _ => rfl, fun e => (by cases e), fun e => (by cases e)⟩
def PutR (R : MC) (Y : Way) (ps : List PN) (k : Nat) (AN : Option Addr) (l : List Nd) (w : World) (e : Ending) (w' : World) : Prop :=
 ∃ A3 c3 l3, e = .returned (.tuple #[.slice A3 l3.length c3, .int .i64 ((l3.length : Int) - 1)]) ∧ MkC R 0 (.bool false) A3 c3 l3 w' ∧ Ke R (AN.map (·.block)) w (A3.map (·.block)) w' ∧ l3.map Nd.pn = mkV Y ps k (l.map Nd.pn)
structure KidG (R : MC) (w : World) (row0 : Option Nat) (g : Nat) (box : Array Value) (j : Nat) (AK : Option Addr) (cK : Nat) (ks : List Int) (AL : Option Addr) (cL : Nat) (l : List Nd) (wr : World) : Prop where
 klen : ks.length = j
 mkc : MkC (R.res AK) 0 (.bool false) AL cL l wr
 ke : Ke R row0 w (AL.map (·.block)) wr
 row : Mine wr w.heap.size 3 1 AK j cK (intCells ks)
 box : Blk wr g 48 (box.setIfInBounds 2 (.slice AK j cK))
 ge : w.heap.size ≤ g
 off : some g ≠ AL.map (·.block)
section
variable {R : MC} {w : World} {row0 : Option Nat} {g : Nat} {box : Array Value} {j : Nat} {AK : Option Addr} {cK : Nat} {ks : List Int} {AL AN : Option Addr} {cL cN : Nat} {l : List Nd} {wr w' : World} {e : Ending}
theorem KidG.init (hR : R.imp = false) (hc : MkC R 0 (.bool false) AN cN l w) {wx : World} (hb : Below w.heap.size w wx) {g1 c1 : Nat} (hg : w.heap.size ≤ g) (hbox : Blk wx g 48 (box.setIfInBounds 2 (.slice (some ⟨g1, 0, none⟩) 0 c1))) (hm : Mine wx w.heap.size 3 1 (some ⟨g1, 0, none⟩) 0 c1 []) :
  KidG R w (AN.map (·.block)) g box 0 (some ⟨g1, 0, none⟩) c1 [] AN cN l wx :=
 ⟨rfl, hc.res_new hb (fun q e => Mine.blk hm e), Ke.of_below hb, hm, hbox, hg, fun e => by have := hc.row_lt e; omega⟩
theorem KidG.laid1 (hR : R.imp = false) (hc : MkC R 0 (.bool false) AN cN l w) (kd tx z bl : Value) :
  KidG R w (AN.map (·.block)) (w.heap.size + 1) #[kd, tx, z, bl] 0 (some ⟨w.heap.size, 0, none⟩) 0 [] AN cN l ((w.alloc (.cells #[] 3)).alloc (.cells #[kd, tx, .slice (some ⟨w.heap.size, 0, none⟩) 0 0, bl] 48)).drew := by
 have hb : Below w.heap.size w ((w.alloc (.cells #[] 3)).alloc (.cells #[kd, tx, .slice (some ⟨w.heap.size, 0, none⟩) 0 0, bl] 48)) := grow_
 refine KidG.init hR hc hb.drew (by omega) ?_ ?_
 ·have := Blk.new (w.alloc (.cells #[] 3)) 48 #[kd, tx, .slice (some ⟨w.heap.size, 0, none⟩) 0 0, bl]
  rw [World.size_alloc] at this
  exact this
 ·exact (mine_empty w 3 1).next (((Below.refl _ _).alloc (Nat.le_refl _) _).drew)
theorem KidG.laid2 (hR : R.imp = false) (hc : MkC R 0 (.bool false) AN cN l w) (kd tx z bl : Value) :
  KidG R w (AN.map (·.block)) w.heap.size #[kd, tx, z, bl] 0 (some ⟨w.heap.size + 1, 0, none⟩) 0 [] AN cN l ((w.alloc (.cells #[kd, tx, .slice (some ⟨w.heap.size + 1, 0, none⟩) 0 0, bl] 48)).alloc (.cells #[] 3)).drew := by
 have hb : Below w.heap.size w ((w.alloc (.cells #[kd, tx, .slice (some ⟨w.heap.size + 1, 0, none⟩) 0 0, bl] 48)).alloc (.cells #[] 3)) := grow_
 refine KidG.init hR hc hb.drew (Nat.le_refl _) ?_ ?_
 ·exact (Blk.new w 48 #[kd, tx, .slice (some ⟨w.heap.size + 1, 0, none⟩) 0 0, bl]).next (((Below.refl _ _).alloc (Nat.le_refl _) _).drew)
 ·have := mine_empty (w.alloc (.cells #[kd, tx, .slice (some ⟨w.heap.size + 1, 0, none⟩) 0 0, bl] 48)) 3 1
  rw [World.size_alloc] at this
  exact (this.more (by omega)).next (Below.refl _ _).drew
theorem KidG.next (h : KidG R w row0 g box j AK cK ks AL cL l wr) (hb : Below wr.heap.size wr w') : KidG R w row0 g box j AK cK ks AL cL l w' := ⟨h.klen, h.mkc.next hb, h.ke.below hb, h.row.next hb, h.box.next hb, h.ge, h.off⟩
theorem KidG.step (hR : R.imp = false) (h : KidG R w row0 g box j AK cK ks AL cL l wr) {A3 : Option Addr} {c3 : Nat} {l3 : List Nd} (hm : MkC (R.res AK) 0 (.bool false) A3 c3 l3 w') (hk : Ke (R.res AK) (AL.map (·.block)) wr (A3.map (·.block)) w') : KidG R w row0 g box j AK cK ks A3 c3 l3 w' := by
 have hk2 : Ke R (AL.map (·.block)) wr (A3.map (·.block)) w' := hk
 exact ⟨h.klen, hm, h.ke.trans hk2, h.mkc.keepI hk h.row, h.box.ke hk2 (fun hi => by rw [hR] at hi; cases hi) h.off, h.ge, hk2.fresh h.off h.box.lt⟩
theorem KidG.node (hR : R.imp = false) (h : KidG R w row0 g box j AK cK ks AL cL l wr) {Y : Way} {ps : List PN} {k : Nat} (hr : PutR (R.res AK) Y ps k AL l wr e w') :
  ∃ A3 c3 l3, e = .returned (.tuple #[.slice A3 l3.length c3, .int .i64 ((l3.length : Int) - 1)]) ∧ KidG R w row0 g box j AK cK ks A3 c3 l3 w' ∧ l3.map Nd.pn = mkV Y ps k (l.map Nd.pn) := by
 obtain ⟨A3, c3, l3, he, hm, hk, hp⟩ := hr
 exact ⟨A3, c3, l3, he, h.step hR hm hk, hp⟩
theorem KidG.app (hR : R.imp = false) (h : KidG R w row0 g box j AK cK ks AL cL l wr) (hw : R.w0.heap.size ≤ w.heap.size) {k : Int} {w1 w3 : World} {v' : Value} (hw1 : Below wr.heap.size wr w1)
  (hown : w3.ownsRow w.heap.size 3 1 v' (j + 1) (intCells ks ++ [.int .i64 k])) (hg : w1.grownBy w3 (Value.slice AK j cK).ownBlock) (hwh : v'.ownBlock = (Value.slice AK j cK).ownBlock ∨ v'.ownBlock = some w1.heap.size) :
  ∃ A' c', v' = .slice A' (j + 1) c' ∧ Blk w3 g 48 (box.setIfInBounds 2 (.slice AK j cK)) ∧ KidG R w row0 g box (j + 1) A' c' (ks ++ [k]) AL cL l (w3.setCell ⟨g, 2, none⟩ (.slice A' (j + 1) c')) := by
 rw [← ints_snoc] at hown
 obtain ⟨A', c', rfl, h1, m1⟩ := MkC.appended h.mkc h.row hw hw1 hown hg hwh
 have hbox : Blk w3 g 48 (box.setIfInBounds 2 (.slice AK j cK)) := (h.box.next hw1).grown hg (fun e => by
  rw [ownBlk] at e
  obtain ⟨cs', b'⟩ := mine_blk' (h.row.next hw1) e.symm
  exact blk_ne (h.box.next hw1) b' (by decide) rfl)
 have hke : Ke R row0 w (AL.map (·.block)) w3 := (h.ke.below hw1).grown hg (fun q hq => by rw [ownBlk] at hq; exact (Mine.blk h.row hq).1)
 have hsz : (w3.setCell ⟨g, 2, none⟩ (.slice A' (j + 1) c')).heap.size = w3.heap.size := by simp [World.setCell]
 have hk := Kept.of_set w3 (B := g) (hi := g + 1) (Nat.le_refl _) (by omega) 2 (.slice A' (j + 1) c')
 obtain ⟨c1, c2, c3, c6, c7⟩ := h1
 have hge := h.ge
 refine ⟨A', c', rfl, hbox, ⟨by rw [lA, h.klen]; rfl, ⟨fun hi => ?_, c2.kept hk (fun q hq => ?_), ⟨fun x hx => ⟨(c3.1 x hx).1, mine_set (c3.1 x hx).2 hbox (by decide) _ _⟩, fun q hq => by rw [hsz]; exact c3.2.1 q hq, c3.2.2⟩, c6.setCell (Nat.le_trans hw hge) _, c7⟩, ⟨by rw [hsz]; exact hke.1, hke.2.1, fun q hq ht hr => ?_⟩, mine_set m1 hbox (by decide) _ _, ?_, hge, h.off⟩⟩
 ·have hi2 : R.imp = true := hi
  rw [hR] at hi2; cases hi2
 ·have : q ≠ g := fun e => h.off (by rw [← e]; exact hq.symm)
  omega
 ·exact (hk.2.2 q (Nat.lt_of_lt_of_le hq hke.1) (.inl (by omega))).trans (hke.2.2 q hq ht hr)
 ·have := hbox.set_ 2 (.slice A' (j + 1) c')
  rwa [Array.setIfInBounds_setIfInBounds] at this
theorem KidG.last (hR : R.imp = false) (h : KidG R w row0 g box j AK cK ks AL cL l wr) (hw : R.w0.heap.size ≤ w.heap.size) (hU : ∀ q, R.U q → q < w.heap.size) {x : Nd} (hx1 : x.adr = AK) (hx2 : x.cnt = j) (hx3 : x.cap = cK) (hx4 : x.kids = ks) {w1 : World} (hw1 : Below wr.heap.size wr w1) {v' : Value} {w3 : World}
  (hown : w3.ownsRow R.w0.heap.size 48 4 v' (l.length + 1) (l.flatMap nodeCells ++ nodeCells x)) (hg : w1.grownBy w3 (Value.slice AL l.length cL).ownBlock) (hwh : v'.ownBlock = (Value.slice AL l.length cL).ownBlock ∨ v'.ownBlock = some w1.heap.size) :
  ∃ A3 c3, v' = .slice A3 (l.length + 1) c3 ∧ MkC R 0 (.bool false) A3 c3 (l ++ [x]) w3 ∧ Ke R row0 w (A3.map (·.block)) w3 := by
 have hm := h.row.more hw
 have hap : ∀ y ∈ l, ApartR y x := h.mkc.apart hx1
 obtain ⟨A3, c3, e, hc, hk⟩ := h.mkc.unres.push x ⟨⟨by rw [hx2, hx3]; exact hm.cap, fun q hq hu => by rw [hx1] at hq; have h1 := hU q hu; have h2 := (Mine.blk h.row hq).1; omega⟩, by rw [hx1, hx2, hx3, hx4]; exact hm⟩ hap hw1 hown hg hwh
 exact ⟨A3, c3, e, hc, h.ke.trans hk⟩
theorem KidG.cells (h : KidG R w row0 g box j AK cK ks AL cL l wr) : (∀ i, wr.cell? ⟨g, i, none⟩ = (box.setIfInBounds 2 (.slice AK j cK))[i]?) ∧ (∀ i, wr.frozen? ⟨g, i, none⟩ = false) ∧ g < wr.heap.size := ⟨h.box.cell, h.box.frozen, h.box.lt⟩
end
def Few (q : List PN) : Prop := PNs q ∧ q.length ≤ 300
def mrkP (ps : List PN) : Nat := (ps.map (fun p => 3 + p.kids.length)).sum
theorem mrkP_few {q : List PN} (h : Few q) : mrkP q ≤ 314572800 + 900 := by
 obtain ⟨h1, h2⟩ := h
 have h3 : mrkP q ≤ q.length * 1048579 := by
  unfold mrkP
  clear h2
  induction q with
  | nil => simp
  | cons p r ih =>
   have := ih (fun x hx => h1 x (by simp [hx]))
   have := (h1 p (by simp)).2
   simp only [List.map_cons, List.sum_cons, List.length_cons]
   omega
 omega
theorem mrkC_eq {l : List Nd} (h : ∀ d ∈ l, d.kids.length = d.cnt) : mrkC l = mrkP (l.map Nd.pn) := by
 unfold mrkC mrkP
 rw [List.map_map]
 congr 1
 apply List.map_congr_left
 intro d hd
 have := h d hd
 show 3 + d.cnt = 3 + d.kids.length
 omega
theorem few_fold {ps : List PN} (h : FineT ps) : foldedV ps = ps ∨ Few (foldedV ps) := by
 unfold foldedV
 split
 ·rename_i ht
  obtain ⟨m, hm⟩ := treeF ht
  have hl := hm.tree.len
  have hv := visV_root hm.tree.good hl hm.tree.used
  rw [show ps.length - 1 = m by omega]
  exact .inr (mkV_small (ps := ps) hm.tree.good (foldW_fits hm.tree.good) hl (by have := hm.few; omega) h.1 leaf_fold)
 ·exact .inl rfl
theorem few_spare {ps : List PN} (h : FineT ps) : sparedV ps = ps ∨ Few (sparedV ps) := by
 unfold sparedV
 split
 ·rename_i ht
  obtain ⟨m, hm⟩ := treeF ht
  have hl := hm.tree.len
  have hv := visV_root hm.tree.good hl hm.tree.used
  rw [show ps.length - 1 = m by omega]
  exact .inr (mkV_small (ps := ps) hm.tree.good (spareW_fits hm.tree.good hm.par) hl (by have := hm.few; omega) h.1 (fun k p e => by cases e))
 ·exact .inl rfl
theorem few_order {ps : List PN} (lt : ByteArray → ByteArray → Bool) (h : FineT ps) : orderedV lt ps = ps ∨ Few (orderedV lt ps) := by
 unfold orderedV
 split
 ·rename_i ht
  obtain ⟨m, hm⟩ := treeF ht
  have hl := hm.tree.len
  rw [show ps.length - 1 = m by omega]
  obtain ⟨x, hx, _⟩ := hm.root
  have hK := ordK_perm lt hm.tree hx
  have hT := oldP_tree hm.tree hx hK
  have hv := visV_root hT.good hT.len hT.used
  exact .inr (mkV_small (ps := ps) hT.good (idW_fits hT.good) hT.len (by have := hm.few; omega) (oldP_small hm.tree hx hK h.1) (fun k p e => by cases e))
 ·exact .inl rfl
theorem few_treat {ps : List PN} (lt : ByteArray → ByteArray → Bool) (s f o : Bool) (h : FineT ps) : treatV lt ps s f o = ps ∨ Few (treatV lt ps s f o) := by
 unfold treatV
 have h1 : FineT (if f = true then foldedV ps else ps) ∧ ((if f = true then foldedV ps else ps) = ps ∨ Few (if f = true then foldedV ps else ps)) := by
  split
  ·exact ⟨foldedV_fine h, few_fold h⟩
  ·exact ⟨h, .inl rfl⟩
 generalize (if f = true then foldedV ps else ps) = a at h1
 obtain ⟨h1, k1⟩ := h1
 have h2 : FineT (if s = true then sparedV a else a) ∧ ((if s = true then sparedV a else a) = ps ∨ Few (if s = true then sparedV a else a)) := by
  split
  ·refine ⟨sparedV_fine h1, ?_⟩
   rcases few_spare h1 with e | e
   ·rw [e]; exact k1
   ·exact .inr e
  ·exact ⟨h1, k1⟩
 dsimp only
 generalize (if s = true then sparedV a else a) = b at h2
 obtain ⟨h2, k2⟩ := h2
 split
 ·rcases few_order lt h2 with e | e
  ·rw [e]; exact k2
  ·exact .inr e
 ·exact k2
theorem mem_sum {f : Nd → Nat} : ∀ {l : List Nd} {d : Nd}, d ∈ l → f d ≤ (l.map f).sum := by
 intro l
 induction l with
 | nil => intro d h; cases h
 | cons x l ih =>
  intro d h
  simp only [List.map_cons, List.sum_cons]
  rcases List.mem_cons.1 h with rfl | h
  ·omega
  ·have := ih h; omega
theorem small_nds {l : List Nd} (h : (szNodeL l : Nat) ≤ 1048576) : l.length ≤ 1048576 ∧ (∀ d ∈ l, d.text.size ≤ 1048576 ∧ d.cnt ≤ 1048576) ∧ mrkC l ≤ 4194304 := by
 unfold szNodeL at h
 refine ⟨by omega, fun d hd => ?_, ?_⟩
 ·have := mem_sum (f := szNode) hd
  have e : szNode d = d.text.size + d.cnt := rfl
  constructor <;> omega
 ·have h1 : mrkC l ≤ 3 * l.length + (l.map szNode).sum := by
   unfold mrkC
   clear h
   induction l with
   | nil => simp
   | cons d l ih =>
    simp only [List.map_cons, List.sum_cons, List.length_cons]
    have e : szNode d = d.text.size + d.cnt := rfl
    omega
  omega
theorem fine_of {w : World} {A : Option Addr} {n : Nat} {l : List Nd} (hr : Nds w A n l) (h : (szNodeL l : Nat) ≤ 1048576) : FineT (l.map Nd.pn) ∧ mrkP (l.map Nd.pn) ≤ 4194304 := by
 obtain ⟨h1, h2, h3⟩ := small_nds h
 refine ⟨⟨fun p hp => ?_, by rw [List.length_map]; exact h1⟩, ?_⟩
 ·obtain ⟨d, hd, rfl⟩ := List.mem_map.1 hp
  have hc := hr.cnt hd
  exact ⟨(h2 d hd).1, show d.kids.length ≤ 1048576 by rw [hc]; exact (h2 d hd).2⟩
 ·rw [← mrkC_eq (fun d hd => hr.cnt hd)]; exact h3
theorem marks_treat {ps : List PN} (s f o : Bool) (h : FineT ps) (hm : mrkP ps ≤ 4194304) {lt : ByteArray → ByteArray → Bool} {l : List Nd} (hl : ∀ d ∈ l, d.kids.length = d.cnt) (he : l.map Nd.pn = treatV lt ps s f o) : mrkC l ≤ 400000000 := by
 rw [mrkC_eq hl, he]
 rcases few_treat lt s f o h with e | e
 ·rw [e]; omega
 ·have := mrkP_few e; omega
end Go.Proofs.YtgaajcbklkchjaaGreatDoor

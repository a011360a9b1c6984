
/-
  LawFirst put together (merge.py): TellV, LawFirst.
-/
import Derived.Test.YtpfanhheodiamaaGreatDoorTellI
namespace Go.Proofs.YtpfanhheodiamaaGreatDoor
open Go.RowKit
set_option linter.unusedVariables false
set_option linter.unusedSimpArgs false

def kidsOf : List Ev → List Int
  | [] => []
  | .sg _ _ :: es => kidsOf es
  | .kid j :: es => j :: kidsOf es
def sgCount : List Ev → Nat
  | [] => 0
  | .sg _ _ :: es => sgCount es + 1
  | .kid _ :: es => sgCount es
theorem kidsOf_app (a b : List Ev) : kidsOf (a ++ b) = kidsOf a ++ kidsOf b := by
  induction a with
  | nil => rfl
  | cons e a ih => cases e <;> simp [kidsOf, ih]
theorem sgCount_app (a b : List Ev) : sgCount (a ++ b) = sgCount a + sgCount b := by
  induction a with
  | nil => simp [sgCount]
  | cons e a ih => cases e <;> simp [sgCount, ih] <;> omega
theorem kidsOf_sepE (mk : ByteArray) (l : List Int) : kidsOf (sepE mk l) = l := by
  cases l with
  | nil => rfl
  | cons x r =>
    simp only [sepE, kidsOf]
    congr 1
    induction r with
    | nil => rfl
    | cons y r ih => rw [List.flatMap_cons, kidsOf_app, ih]; rfl
theorem sgCount_sepE (mk : ByteArray) (l : List Int) : sgCount (sepE mk l) ≤ l.length := by
  cases l with
  | nil => simp [sepE, sgCount]
  | cons x r =>
    simp only [sepE, sgCount, List.length_cons]
    have : ∀ r : List Int, sgCount (r.flatMap (fun v => [mkE mk, .kid v])) = r.length := by
      intro r
      induction r with
      | nil => rfl
      | cons y r ih =>
        rw [List.flatMap_cons, sgCount_app, ih, List.length_cons]
        show 1 + r.length = r.length + 1
        omega
    rw [this]; omega
theorem kidsOf_allE (l : List Int) : kidsOf (allE l) = l := by
  unfold allE
  induction l with
  | nil => rfl
  | cons x r ih => simp [kidsOf, ih]
theorem sgCount_allE (l : List Int) : sgCount (allE l) = 0 := by
  unfold allE
  induction l with
  | nil => rfl
  | cons x r ih => simp [sgCount, ih]
/-- What the kids of a list of events cost. -/
def costK (g : Nat → Nat) (l : List Int) : Nat := (l.map (fun j => g j.toNat)).sum
theorem costK_app (g : Nat → Nat) (a b : List Int) : costK g (a ++ b) = costK g a + costK g b := by simp [costK]
theorem runE_len {f : Nat → TS → TS} {g : Nat → Nat} (hf : ∀ k s, (f k s).1.length ≤ s.1.length + g k) : ∀ (es : List Ev) (s : TS), (runE f s es).1.length ≤ s.1.length + sgCount es + costK g (kidsOf es) := by
  intro es
  induction es with
  | nil =>
    intro s
    show s.1.length ≤ s.1.length + 0 + 0
    omega
  | cons e es ih =>
    intro s
    rw [runE_cons]
    have h := ih (stepE f s e)
    cases e with
    | sg k t =>
      have : (stepE f s (.sg k t)).1.length = s.1.length + 1 := by simp [stepE, putS]
      rw [this] at h
      simp only [sgCount, kidsOf]
      omega
    | kid j =>
      have h2 : (stepE f s (.kid j)).1.length ≤ s.1.length + g j.toNat := hf _ _
      simp only [sgCount, kidsOf]
      have h3 : costK g (j :: kidsOf es) = g j.toNat + costK g (kidsOf es) := by simp [costK]
      omega
/-- How many nodes are told with node k. -/
def visF (ps : List PN) : Nat → Nat → Nat
  | 0, _ => 0
  | f + 1, k => match ps[k]? with | none => 0 | some p => 1 + costK (visF ps f) p.kids
/-- A node of a right shape tells its kids once each, and not many signs of its own. -/
def Shaped (p : PN) : Prop := kidsOf (evs p) = p.kids ∧ sgCount (evs p) ≤ 40
theorem getD_lit (l : List Int) (i : Nat) (x : Int) (h : l[i]? = some x) : l.getD i 0 = x := by rw [List.getD_eq_getElem?_getD, h]; rfl
theorem take_last {l : List Int} (h : 1 ≤ l.length) : l.take (l.length - 1) ++ [l.getD (l.length - 1) 0] = l := by
  obtain ⟨x, hx⟩ : ∃ x, l[l.length - 1]? = some x := ⟨_, List.getElem?_eq_getElem (by omega)⟩
  rw [getD_lit _ _ _ hx]
  have := List.take_add_one (l := l) (i := l.length - 1)
  rw [show l.length - 1 + 1 = l.length by omega, List.take_length, hx] at this
  exact this.symm
theorem head_drop {l : List Int} (h : 1 ≤ l.length) : l.getD 0 0 :: l.drop 1 = l := by
  match l, h with
  | x :: r, _ => rfl
theorem shaped_of {p : PN} (hk : 1 ≤ p.kind ∧ p.kind ≤ 22) (hlo : cntLo p.kind ≤ (p.kids.length : Int)) (hhi : (p.kids.length : Int) ≤ cntHi p.kind) : Shaped p := by
  obtain ⟨kind, text, l, z⟩ := p
  dsimp only at hk hlo hhi
  have h2 : kind = 1 ∨ kind = 2 ∨ kind = 3 ∨ kind = 4 ∨ kind = 5 ∨ kind = 6 ∨ kind = 7 ∨ kind = 8 ∨ kind = 9 ∨ kind = 10 ∨ kind = 11 ∨ kind = 12 ∨ kind = 13 ∨ kind = 14 ∨ kind = 15 ∨ kind = 16 ∨ kind = 17 ∨ kind = 18 ∨ kind = 19 ∨ kind = 20 ∨ kind = 21 ∨ kind = 22 := by omega
  have nil : ∀ {m : Nat}, (l.length : Int) ≤ 0 → l = [] := fun h => List.eq_nil_of_length_eq_zero (by omega)
  have sep := fun mk => sgCount_sepE mk l
  have sepD := fun mk => sgCount_sepE mk (l.drop 1)
  have sepT := fun mk => sgCount_sepE mk (l.take (l.length - 1))
  have hT : (l.take (l.length - 1)).length ≤ l.length := by rw [List.length_take]; omega
  have hD : (l.drop 1).length ≤ l.length := by rw [List.length_drop]; omega
  rcases h2 with rfl | rfl | rfl | rfl | rfl | rfl | rfl | rfl | rfl | rfl | rfl | rfl | rfl | rfl | rfl | rfl | rfl | rfl | rfl | rfl | rfl | rfl
  · have h : (l.length : Int) ≤ 0 := hhi
    rw [nil (m := 0) h]; exact ⟨rfl, show 1 ≤ 40 by decide⟩
  · have h : (l.length : Int) ≤ 0 := hhi
    rw [nil (m := 0) h]; exact ⟨rfl, show 1 ≤ 40 by decide⟩
  · have h : (l.length : Int) ≤ 0 := hhi
    rw [nil (m := 0) h]; exact ⟨rfl, show 1 ≤ 40 by decide⟩
  · have h : (l.length : Int) ≤ 12 := hhi
    have e : evs ⟨4, text, l, z⟩ = mkE ⟨#[91]⟩ :: (sepE ⟨#[44]⟩ l ++ [mkE ⟨#[93]⟩]) := rfl
    unfold Shaped
    rw [e]
    simp only [kidsOf, mkE, sgCount, kidsOf_app, sgCount_app, kidsOf_sepE, List.append_nil]
    have := sep ⟨#[44]⟩
    exact ⟨trivial, by omega⟩
  · have h : (l.length : Int) ≤ 12 := hhi
    have h1 : (1 : Int) ≤ (l.length : Int) := hlo
    have e : evs ⟨5, text, l, z⟩ = Ev.kid (l.getD 0 0) :: mkE ⟨#[40]⟩ :: (sepE ⟨#[44]⟩ (l.drop 1) ++ [mkE ⟨#[41]⟩]) := rfl
    unfold Shaped
    rw [e]
    simp only [kidsOf, mkE, sgCount, kidsOf_app, sgCount_app, kidsOf_sepE, List.append_nil]
    have := sepD ⟨#[44]⟩
    exact ⟨head_drop (by omega), by omega⟩
  · have h : (l.length : Int) ≤ 1 := hhi
    have h1 : (1 : Int) ≤ (l.length : Int) := hlo
    match l, (show l.length = 1 by omega) with
    | [a], _ => exact ⟨rfl, show 2 ≤ 40 by decide⟩
  · have h : (l.length : Int) ≤ 12 := hhi
    have e : evs ⟨7, text, l, z⟩ = sepE text l := rfl
    unfold Shaped
    rw [e, kidsOf_sepE]
    have := sep text
    exact ⟨rfl, by omega⟩
  · have h : (l.length : Int) ≤ 3 := hhi
    have h1 : (3 : Int) ≤ (l.length : Int) := hlo
    match l, (show l.length = 3 by omega) with
    | [a, b, c], _ => exact ⟨rfl, show 2 ≤ 40 by decide⟩
  · have h : (l.length : Int) ≤ 12 := hhi
    have h1 : (1 : Int) ≤ (l.length : Int) := hlo
    have e : evs ⟨9, text, l, z⟩ = mkE ⟨#[40]⟩ :: (sepE ⟨#[44]⟩ (l.take (l.length - 1)) ++ [mkE ⟨#[41]⟩, mkE ⟨#[61, 62]⟩, Ev.kid (l.getD (l.length - 1) 0)]) := rfl
    unfold Shaped
    rw [e]
    simp only [kidsOf, mkE, sgCount, kidsOf_app, sgCount_app, kidsOf_sepE]
    have := sepT ⟨#[44]⟩
    exact ⟨take_last (by omega), by omega⟩
  · have h : (l.length : Int) ≤ 12 := hhi
    have e : evs ⟨10, text, l, z⟩ = sepE ⟨#[46, 46]⟩ l := rfl
    unfold Shaped
    rw [e, kidsOf_sepE]
    have := sep ⟨#[46, 46]⟩
    exact ⟨rfl, by omega⟩
  · have h : (l.length : Int) ≤ 1 := hhi
    have h1 : (1 : Int) ≤ (l.length : Int) := hlo
    match l, (show l.length = 1 by omega) with
    | [a], _ => exact ⟨rfl, show 2 ≤ 40 by decide⟩
  · have h : (l.length : Int) ≤ 1 := hhi
    by_cases h0 : l.length = 0
    · have : l = [] := List.eq_nil_of_length_eq_zero h0
      subst this; exact ⟨rfl, show 3 ≤ 40 by decide⟩
    · match l, (show l.length = 1 by omega) with
      | [a], _ => exact ⟨rfl, show 4 ≤ 40 by decide⟩
  · have h : (l.length : Int) ≤ 1 := hhi
    have h1 : (1 : Int) ≤ (l.length : Int) := hlo
    match l, (show l.length = 1 by omega) with
    | [a], _ => exact ⟨rfl, show 3 ≤ 40 by decide⟩
  · have e : evs ⟨14, text, l, z⟩ = allE l ++ [mkE ⟨#[59]⟩] := rfl
    unfold Shaped
    rw [e]
    simp only [kidsOf, mkE, sgCount, kidsOf_app, sgCount_app, kidsOf_allE, sgCount_allE, List.append_nil]
    exact ⟨trivial, by omega⟩
  · have e : evs ⟨15, text, l, z⟩ = Ev.sg 1 ⟨#[114, 101, 116, 117, 114, 110]⟩ :: (allE l ++ [mkE ⟨#[59]⟩]) := rfl
    unfold Shaped
    rw [e]
    simp only [kidsOf, mkE, sgCount, kidsOf_app, sgCount_app, kidsOf_allE, sgCount_allE, List.append_nil]
    exact ⟨trivial, by omega⟩
  · have h : (l.length : Int) ≤ 3 := hhi
    have h1 : (2 : Int) ≤ (l.length : Int) := hlo
    by_cases h2 : l.length = 2
    · match l, h2 with
      | [a, b], _ => exact ⟨rfl, show 3 ≤ 40 by decide⟩
    · match l, (show l.length = 3 by omega) with
      | [a, b, c], _ => exact ⟨rfl, show 4 ≤ 40 by decide⟩
  · have h : (l.length : Int) ≤ 2 := hhi
    have h1 : (2 : Int) ≤ (l.length : Int) := hlo
    match l, (show l.length = 2 by omega) with
    | [a, b], _ => exact ⟨rfl, show 3 ≤ 40 by decide⟩
  · have e : evs ⟨18, text, l, z⟩ = mkE ⟨#[123]⟩ :: (allE l ++ [mkE ⟨#[125]⟩]) := rfl
    unfold Shaped
    rw [e]
    simp only [kidsOf, mkE, sgCount, kidsOf_app, sgCount_app, kidsOf_allE, sgCount_allE, List.append_nil]
    exact ⟨trivial, by omega⟩
  · have h : (l.length : Int) ≤ 0 := hhi
    rw [nil (m := 0) h]; exact ⟨rfl, show 1 ≤ 40 by decide⟩
  · have h : (l.length : Int) ≤ 12 := hhi
    have h1 : (1 : Int) ≤ (l.length : Int) := hlo
    have e : evs ⟨20, text, l, z⟩ = Ev.sg 1 text :: mkE ⟨#[40]⟩ :: (sepE ⟨#[44]⟩ (l.take (l.length - 1)) ++ [mkE ⟨#[41]⟩, Ev.kid (l.getD (l.length - 1) 0)]) := rfl
    unfold Shaped
    rw [e]
    simp only [kidsOf, mkE, sgCount, kidsOf_app, sgCount_app, kidsOf_sepE]
    have := sepT ⟨#[44]⟩
    exact ⟨take_last (by omega), by omega⟩
  · have e : evs ⟨21, text, l, z⟩ = Ev.sg 1 ⟨#[99, 108, 97, 115, 115]⟩ :: Ev.sg 1 text :: mkE ⟨#[123]⟩ :: (allE l ++ [mkE ⟨#[125]⟩]) := rfl
    unfold Shaped
    rw [e]
    simp only [kidsOf, mkE, sgCount, kidsOf_app, sgCount_app, kidsOf_allE, sgCount_allE, List.append_nil]
    exact ⟨trivial, by omega⟩
  · have e : evs ⟨22, text, l, z⟩ = allE l := rfl
    unfold Shaped
    rw [e, kidsOf_allE, sgCount_allE]
    exact ⟨rfl, by omega⟩
theorem tellF_len {ps : List PN} (hs : ∀ (k : Nat) (p : PN), ps[k]? = some p → Shaped p) : ∀ f k s, (tellF ps f k s).1.length ≤ s.1.length + 40 * visF ps f k := by
  intro f
  induction f with
  | zero => intro k s; simp [tellF, visF]
  | succ f ih =>
    intro k s
    unfold visF
    cases hx : ps[k]? with
    | none => unfold tellF; rw [hx]; simp
    | some p =>
      rw [tellF_step hx]
      obtain ⟨h1, h2⟩ := hs k p hx
      have h3 := runE_len (f := tellF ps f) (g := fun k => 40 * visF ps f k) ih (evs p) (s.1, s.2.set k (s.1.length : Int))
      rw [h1] at h3
      have h4 : costK (fun k => 40 * visF ps f k) p.kids = 40 * costK (visF ps f) p.kids := by
        unfold costK
        generalize p.kids = l
        induction l with
        | nil => rfl
        | cons x r ih => simp only [List.map_cons, List.sum_cons, ih]; omega
      rw [h4] at h3
      simp only at h3 ⊢
      omega
/-- Enough fuel is enough. -/
theorem visF_more {ps : List PN} (hg : Good ps) : ∀ (f k : Nat), k < f → visF ps f k = visF ps (k + 1) k := by
  intro f
  induction f using Nat.strongRecOn with
  | ind f ih =>
    intro k hk
    obtain ⟨f', rfl⟩ : ∃ f', f = f' + 1 := ⟨f - 1, by omega⟩
    cases hx : ps[k]? with
    | none => simp [visF, hx]
    | some p =>
      have hp := (hg k p hx).2
      simp only [visF, hx]
      congr 1
      unfold costK
      congr 1
      apply List.map_congr_left
      intro v hv
      have hvk := hp v hv
      rw [ih f' (by omega) v.toNat (by omega)]
      by_cases e : k = f'
      · subst e
        rw [ih k (by omega) v.toNat (by omega)]
      · rw [ih k (by omega) v.toNat (by omega)]
def visV (ps : List PN) (k : Nat) : Nat := visF ps (k + 1) k
theorem visV_eq {ps : List PN} (hg : Good ps) {k : Nat} {p : PN} (hx : ps[k]? = some p) : visV ps k = 1 + costK (visV ps) p.kids := by
  have : visV ps k = 1 + costK (visF ps k) p.kids := by
    show visF ps (k + 1) k = _
    simp only [visF, hx]
  rw [this]
  congr 1
  unfold costK
  congr 1
  apply List.map_congr_left
  intro v hv
  have := (hg k p hx).2 v hv
  exact visF_more hg k v.toNat (by omega)
def sumV (ps : List PN) (m : Nat) : Nat := ((List.range m).map (visV ps)).sum
theorem sumV_succ (ps : List PN) (m : Nat) : sumV ps (m + 1) = sumV ps m + visV ps m := by unfold sumV; rw [List.range_succ]; simp
theorem sumV_kids {ps : List PN} (hg : Good ps) : ∀ m, m ≤ ps.length → sumV ps m = m + costK (visV ps) (kidsTo ps m) := by
  intro m
  induction m with
  | zero => intro _; simp [sumV, costK, kidsTo]
  | succ m ih =>
    intro hm
    obtain ⟨p, hx⟩ : ∃ p, ps[m]? = some p := ⟨_, List.getElem?_eq_getElem (by omega)⟩
    rw [sumV_succ, ih (by omega), kidsTo_step hx, costK_app, visV_eq hg hx]
    omega
theorem kidsTo_mem {ps : List PN} (hg : Good ps) : ∀ m v, v ∈ kidsTo ps m → 0 ≤ v ∧ v + 1 < (m : Int) + 0 ∨ 0 ≤ v ∧ v < (m : Int) - 1 := by
  intro m
  induction m with
  | zero => intro v hv; simp [kidsTo] at hv
  | succ m ih =>
    intro v hv
    cases hx : ps[m]? with
    | none =>
      have : kidsTo ps (m + 1) = kidsTo ps m := by unfold kidsTo; rw [List.take_add_one, hx]; simp
      rw [this] at hv
      have := ih v hv
      omega
    | some p =>
      rw [kidsTo_step hx] at hv
      rcases List.mem_append.1 hv with hv | hv
      · have := ih v hv; omega
      · have := (hg m p hx).2 v hv; omega
theorem range_count (m q : Nat) : ((List.range m).map (fun (j : Nat) => (j : Int))).count (q : Int) = if q < m then 1 else 0 := by
  induction m with
  | zero => simp
  | succ m ih =>
    rw [List.range_succ, List.map_append, List.count_append, ih]
    simp only [List.map_cons, List.map_nil, List.count_singleton]
    by_cases h : q = m
    · subst h; simp
    · have : ((m : Int) == (q : Int)) = false := by rw [beq_eq_false_iff_ne]; omega
      rw [this]
      simp only [Bool.false_eq_true, if_false, Nat.add_zero]
      by_cases h2 : q < m
      · rw [if_pos h2, if_pos (by omega)]
      · rw [if_neg h2, if_neg (by omega)]
theorem perm_sum {l r : List Nat} (h : l.Perm r) : l.sum = r.sum := by
  induction h with
  | nil => rfl
  | cons x _ ih => simp [ih]
  | swap x y l => simp only [List.sum_cons]; omega
  | trans _ _ ih1 ih2 => rw [ih1, ih2]
theorem kids_perm {ps : List PN} (hg : Good ps) {m : Nat} (hu : usedTo ps (m + 1) m) : (kidsTo ps (m + 1)).Perm ((List.range m).map (fun (j : Nat) => (j : Int))) := by
  rw [List.perm_iff_count]
  intro a
  by_cases ha : 0 ≤ a ∧ a < (m : Int)
  · obtain ⟨q, rfl⟩ := Int.eq_ofNat_of_zero_le ha.1
    have h1 := hu q (by omega)
    rw [h1]
    rw [range_count, if_pos (by omega)]
  · have h1 : (kidsTo ps (m + 1)).count a = 0 := by
      rw [List.count_eq_zero]
      intro hm
      have := kidsTo_mem hg (m + 1) a hm
      omega
    have h2 : ((List.range m).map (fun (j : Nat) => (j : Int))).count a = 0 := by
      rw [List.count_eq_zero]
      intro hm
      obtain ⟨j, hj, rfl⟩ := List.mem_map.1 hm
      rw [List.mem_range] at hj
      omega
    rw [h1, h2]
theorem visV_root {ps : List PN} (hg : Good ps) {m : Nat} (hl : ps.length = m + 1) (hu : usedTo ps (m + 1) m) : visV ps m = m + 1 := by
  have h1 := sumV_kids hg (m + 1) (by omega)
  have h2 : costK (visV ps) (kidsTo ps (m + 1)) = sumV ps m := by
    unfold costK sumV
    rw [perm_sum ((kids_perm hg hu).map (fun j : Int => visV ps j.toNat)), List.map_map]
    rfl
  rw [h2, sumV_succ] at h1
  omega
theorem tree_facts {ps : List PN} (h : treeB ps = true) : ∃ m, ps.length = m + 1 ∧ m + 1 ≤ 300 ∧ (∀ j, j < m + 1 → nodeB ps j = true) ∧ ∀ st, (tellF ps (m + 1) m ([], st)).1.length ≤ 1000000 := by
  unfold treeB at h
  simp only [Bool.and_eq_true] at h
  obtain ⟨h1, h2, h3, h4⟩ := h
  have h1' := of_decide_eq_true h1
  obtain ⟨m, hm⟩ : ∃ m, ps.length = m + 1 := ⟨ps.length - 1, by omega⟩
  have hd : ¬ deepV ps (ps.length - 1) = 0 := by
    intro e; rw [e] at h3; cases h3
  have hg := good_of hd
  have hall : ∀ j, j < m + 1 → nodeB ps j = true := fun j hj => deep_all hd j (by omega)
  have hu : usedTo ps (m + 1) m := by
    intro i hi
    unfold usedB at h4
    rw [List.all_eq_true, hm] at h4
    have := h4 i (List.mem_range.2 (by omega))
    simpa using this
  have hsh : ∀ (k : Nat) (p : PN), ps[k]? = some p → Shaped p := fun k p hp => by
    have hk := (List.getElem?_eq_some_iff.1 hp).1
    obtain ⟨a, b, c⟩ := node_shape (hall k (by omega)) hp
    exact shaped_of a b c
  refine ⟨m, hm, by omega, hall, fun st => ?_⟩
  have hl := tellF_len hsh (m + 1) m ([], st)
  have hv : visF ps (m + 1) m = m + 1 := visV_root hg hm hu
  rw [hv] at hl
  simp only [List.length_nil] at hl
  omega
/-- What a tree tells. -/
def toldS (ps : List PN) : TS := tellF ps ps.length (ps.length - 1) ([], List.replicate ps.length 0)
/-- How many signs stand ahead of node k; -1 where there is no tree or no such node. -/
def firstV (ps : List PN) (k : Int) : Int := if treeB ps = true ∧ 0 ≤ k ∧ k < (ps.length : Int) then (toldS ps).2.getD k.toNat 0 else -1
theorem TL.init (ty : TypeId) (hty : ty ≠ 73) (A : Option Addr) (n c : Nat) (w : World) : TL ty (w.heap.size + 1) w.heap.size A n c w ([], List.replicate n 0) ((w.alloc (.cells (madeCells #[.int .i64 0] n) 3)).alloc (.cells #[.slice A n c, .slice none 0 0, .slice (some ⟨w.heap.size, 0, none⟩) n n] ty)) := by
  have hb := Blk.new (w.alloc (.cells (madeCells #[.int .i64 0] n) 3)) ty #[.slice A n c, .slice none 0 0, .slice (some ⟨w.heap.size, 0, none⟩) n n]
  rw [World.size_alloc] at hb
  exact ⟨none, 0, hb, Mine.mk_nil _ _ _ _, (Own.zeros n).alloc _, by simp, by omega, by omega, Nat.le_refl _, fun g hg => by simp at hg, (by repeat' (first | (with_reducible exact Below.refl _ _) | (with_reducible assumption) | (with_reducible refine below_drewN ?_ _) | (with_reducible refine Below.drew ?_) | (with_reducible refine Below.alloc ?_ ?_ _) | (with_reducible refine Below.setCell ?_ ?_ _) | go_size))⟩
set_option maxRecDepth 100000 in
set_option maxHeartbeats 3200000 in
theorem implTell_any (A : Option Addr) (n c : Nat) (ps : List PN) (w : World) (hn : n ≤ 1048576) (hps : Nps w A n ps) (htree : treeB ps = true) :
    Calls Tryz.prog 25 #[.slice A n c] w fun e w' => e = .returned (.pointer (some ⟨w.heap.size + 1, 0, none⟩)) ∧ TL 52 (w.heap.size + 1) w.heap.size A n c w (toldS ps) w' := by
  obtain ⟨m, hm, hm300, hall, hlen⟩ := tree_facts htree
  have hl := hps.len
  obtain rfl : n = m + 1 := by omega
  have HND := Lib.hid (implNode_all (w.heap.size + 1) w.heap.size A (m + 1) c w ps hps hall (m + 1) m ([], List.replicate (m + 1) 0) _ (by omega) (by omega) (TL.init 52 (by decide) A (m + 1) c w) (hlen _))
  have hts : toldS ps = tellF ps (m + 1) m ([], List.replicate (m + 1) 0) := by unfold toldS; rw [hm, Nat.add_sub_cancel]
  rw [hts]
  obtain ⟨i0, hi, hz0, hz1, hz2⟩ := info_parts infoInt
  have hmk := fun W => run_make_rowN (P := Tryz.prog) 38 3 i0 _ Tryz.underlying38 hi hz0 .i64 .i64 (m + 1) (m + 1) (Nat.le_refl _) (by rw [hz2]; omega) (by omega) W
  rw [hz1, Nat.mul_one] at hmk
  simp only [Value.cells] at hmk
  have e9 : ((m + 1 : Nat) : Int) = (m : Int) + 1 := by omega
  have e8 : (m : Int) + 1 - 1 = (m : Int) := by omega
  rw [e9] at hmk
  generalize tellF ps (m + 1) m ([], List.replicate (m + 1) 0) = fin at HND ⊢
  clear hi hz0 hz1 hz2 hall hlen hts hps
  go_enter Tryz.func25, Tryz.ntmps25
  go_wp2_with fail
  refine HND.out.mono ?_
  rintro e w2 ⟨rfl, ht, hk⟩
  clear hmk
  go_wp2
  go_ret
  exact ⟨rfl, ht⟩
set_option maxRecDepth 100000 in
set_option maxHeartbeats 3200000 in
theorem implFirstSign_any (A : Option Addr) (n c : Nat) (ps : List PN) (k : Int) (w : World) (hn : n ≤ 1048576) (hps : Nps w A n ps) (hb : Hid (PNs ps)) :
    Calls Tryz.prog 9 #[.slice A n c, .int .i64 k] w fun e w' => e = .returned (.int .i64 (firstV ps k)) ∧ Below w.heap.size w w' := by
  have hl := hps.len
  by_cases hk : 0 ≤ k ∧ k < (n : Int)
  · obtain ⟨q, rfl⟩ := Int.eq_ofNat_of_zero_le hk.1
    have hqn : q < n := by omega
    have HN := Lib.hid (fun W => isNode_is (n := n) (show inB (q : Int) 0 ((n : Int) - 1) = true from decide_eq_true (by omega)) A c W)
    have HT := Lib.hid (fun (v : Bool) (h : treeB ps = v) => show Calls Tryz.prog 24 #[.slice A n c] w fun e w' => e = .returned (.bool v) ∧ Below w.heap.size w w' by rw [← h]; exact implTreeOk_any A n c ps w hn hps hb)
    cases htr : treeB ps with
    | false =>
      have hf : firstV ps (q : Int) = -1 := by unfold firstV; rw [if_neg (by rw [htr]; simp)]
      rw [hf]
      have HT2 := Lib.hid (HT.out _ htr)
      clear HT htr hf
      go_enter Tryz.func9, Tryz.ntmps9
      go_wp2_with fail
      refine (HN.out _).mono ?_
      rintro e w1 ⟨rfl, rfl⟩
      go_wp2_with fail
      refine (HT2.out).mono ?_
      rintro e w2 ⟨rfl, h2⟩
      go_wp2
      go_ret
      exact ⟨rfl, h2⟩
    | true =>
      have hf : firstV ps (q : Int) = (toldS ps).2.getD q 0 := by unfold firstV; rw [if_pos ⟨htr, hk.1, by rw [hl]; exact hk.2⟩, Int.toNat_natCast]
      rw [hf]
      have HT2 := Lib.hid (HT.out _ htr)
      have HTE := Lib.hid (fun (W : World) (hW : Below w.heap.size w W) => implTell_any A n c ps W hn (hps.next hW) htr)
      clear HT htr hf
      generalize toldS ps = fin at HTE ⊢
      go_enter Tryz.func9, Tryz.ntmps9
      go_wp2_with fail
      refine (HN.out _).mono ?_
      rintro e w1 ⟨rfl, rfl⟩
      go_wp2_with fail
      refine (HT2.out).mono ?_
      rintro e w2 ⟨rfl, h2⟩
      go_wp2_with fail
      refine (HTE.out _ h2).mono ?_
      rintro e w3 ⟨rfl, ht⟩
      have hbw := below_next h2 ht.below
      have hlen := ht.len
      obtain ⟨AS, cS, hbk, _, ho, _⟩ := ht
      obtain ⟨x, hx⟩ : ∃ x, fin.2[q]? = some x := ⟨_, List.getElem?_eq_getElem (by omega)⟩
      have hgd : fin.2.getD q 0 = x := by rw [List.getD_eq_getElem?_getD, hx]; rfl
      have HGD := Lib.hid hgd
      obtain ⟨b6, off6, e6, hblt6, cq⟩ := int_at (ho.rd (size := 1) (n := n) (by simp [intCells, hlen])) hqn hx
      injection e6 with e6
      injection e6 with e61 e62
      subst e61; subst e62
      simp only [Nat.zero_add] at cq
      have t2 := hbk.cell 2
      simp only [List.getElem?_toArray, List.getElem?_cons_zero, List.getElem?_cons_succ] at t2
      have tz := hbk.lt
      have gq : (q : Int) < n := by omega
      clear HTE HN HT2 hbk ho hlen hgd hx
      go_wp2
      go_ret
      exact ⟨ret_int HGD.out.symm, hbw⟩
  · have HN := Lib.hid (fun W => isNode_is (n := n) (show inB k 0 ((n : Int) - 1) = false from decide_eq_false (by omega)) A c W)
    have hf : firstV ps k = -1 := by unfold firstV; rw [if_neg (by rw [hl]; exact fun h => hk h.2)]
    rw [hf]
    go_enter Tryz.func9, Tryz.ntmps9
    go_wp2_with fail
    refine (HN.out _).mono ?_
    rintro e w1 ⟨rfl, rfl⟩
    go_wp2
    go_ret
    exact ⟨rfl, (by repeat' (first | (with_reducible exact Below.refl _ _) | (with_reducible assumption) | (with_reducible refine below_drewN ?_ _) | (with_reducible refine Below.drew ?_) | (with_reducible refine Below.alloc ?_ ?_ _) | (with_reducible refine Below.setCell ?_ ?_ _) | go_size))⟩
set_option maxRecDepth 100000 in
set_option maxHeartbeats 3200000 in
theorem specFirstSign_any (A : Option Addr) (n c : Nat) (ps : List PN) (k : Int) (w : World) (hn : n ≤ 1048576) (hps : Nps w A n ps) (hb : Hid (PNs ps)) :
    Calls Tryz.prog 7 #[.slice A n c, .int .i64 k] w fun e w' => e = .returned (.int .i64 (firstV ps k)) ∧ Below w.heap.size w w' := by
  have hl := hps.len
  have HT := Lib.hid (fun (v : Bool) (h : treeB ps = v) => show Calls Tryz.prog 19 #[.slice A n c] w fun e w' => e = .returned (.bool v) ∧ Below w.heap.size w w' by rw [← h]; exact specTreeOk_any A n c ps w hn hps hb)
  cases htr : treeB ps with
  | false =>
    have hf : firstV ps k = -1 := by unfold firstV; rw [if_neg (by rw [htr]; simp)]
    rw [hf]
    have HT2 := Lib.hid (HT.out _ htr)
    clear HT htr hf
    go_enter Tryz.func7, Tryz.ntmps7
    go_wp2_with fail
    refine (HT2.out).mono ?_
    rintro e w2 ⟨rfl, h2⟩
    go_wp2
    go_ret
    exact ⟨rfl, h2⟩
  | true =>
    have HT2 := Lib.hid (HT.out _ htr)
    by_cases hk : 0 ≤ k ∧ k < (n : Int)
    · obtain ⟨q, rfl⟩ := Int.eq_ofNat_of_zero_le hk.1
      have hqn : q < n := by omega
      have hf : firstV ps (q : Int) = (toldS ps).2.getD q 0 := by unfold firstV; rw [if_pos ⟨htr, hk.1, by rw [hl]; exact hk.2⟩, Int.toNat_natCast]
      rw [hf]
      obtain ⟨m, hm, hm300, hall, hlen0⟩ := tree_facts htr
      obtain rfl : n = m + 1 := by omega
      have HI := Lib.hid (fun W => l01In_is' (show inB (q : Int) 0 (m : Int) = true from decide_eq_true (by omega)) W)
      have HND := Lib.hid (fun (W : World) (hW : Below w.heap.size w W) => specOne_all (W.heap.size + 1) W.heap.size A (m + 1) c W ps (hps.next hW) hall (m + 1) m ([], List.replicate (m + 1) 0) _ (by omega) (by omega) (TL.init 46 (by decide) A (m + 1) c W) (hlen0 _))
      have hts : toldS ps = tellF ps (m + 1) m ([], List.replicate (m + 1) 0) := by unfold toldS; rw [hm, Nat.add_sub_cancel]
      rw [hts]
      obtain ⟨i0, hi, hz0, hz1, hz2⟩ := info_parts infoInt
      have hmk := fun W => run_make_rowN (P := Tryz.prog) 38 3 i0 _ Tryz.underlying38 hi hz0 .i64 .i64 (m + 1) (m + 1) (Nat.le_refl _) (by rw [hz2]; omega) (by omega) W
      rw [hz1, Nat.mul_one] at hmk
      simp only [Value.cells] at hmk
      have e9 : ((m + 1 : Nat) : Int) = (m : Int) + 1 := by omega
      have e8 : (m : Int) + 1 - 1 = (m : Int) := by omega
      rw [e9] at hmk
      generalize tellF ps (m + 1) m ([], List.replicate (m + 1) 0) = fin at HND ⊢
      have gq : (q : Int) < (m : Int) + 1 := by omega
      clear hi hz0 hz1 hz2 hall hlen0 hts hf HT htr hps hk hm hl hb hn
      go_enter Tryz.func7, Tryz.ntmps7
      go_wp2_with fail
      refine (HT2.out).mono ?_
      rintro e w2 ⟨rfl, h2⟩
      go_wp2_with fail
      refine (HI.out _).mono ?_
      rintro e w1 ⟨rfl, rfl⟩
      go_wp2_with fail
      refine (HND.out w2 h2).mono ?_
      rintro e w3 ⟨rfl, ht, hkp⟩
      clear hmk
      have hbw := below_next h2 ht.below
      have hlen := ht.len
      obtain ⟨AS, cS, hbk, _, ho, _⟩ := ht
      obtain ⟨x, hx⟩ : ∃ x, fin.2[q]? = some x := ⟨_, List.getElem?_eq_getElem (by omega)⟩
      have hgd : fin.2.getD q 0 = x := by rw [List.getD_eq_getElem?_getD, hx]; rfl
      have HGD := Lib.hid hgd
      obtain ⟨b6, off6, e6, hblt6, cq⟩ := int_at (ho.rd (size := 1) (n := m + 1) (by simp [intCells, hlen])) hqn hx
      injection e6 with e6
      injection e6 with e61 e62
      subst e61; subst e62
      simp only [Nat.zero_add] at cq
      have t2 := hbk.cell 2
      simp only [List.getElem?_toArray, List.getElem?_cons_zero, List.getElem?_cons_succ] at t2
      have tz := hbk.lt
      clear HND HI HT2 hbk ho hlen hgd hx hkp
      go_wp2
      go_ret
      exact ⟨ret_int HGD.out.symm, hbw⟩
    · have HI := Lib.hid (fun W => l01In_is' (show inB k 0 ((n : Int) - 1) = false from decide_eq_false (by omega)) W)
      have hf : firstV ps k = -1 := by unfold firstV; rw [if_neg (by rw [hl]; exact fun h => hk h.2)]
      rw [hf]
      clear HT htr hf
      go_enter Tryz.func7, Tryz.ntmps7
      go_wp2_with fail
      refine (HT2.out).mono ?_
      rintro e w2 ⟨rfl, h2⟩
      go_wp2_with fail
      refine (HI.out _).mono ?_
      rintro e w1 ⟨rfl, rfl⟩
      go_wp2
      go_ret
      exact ⟨rfl, h2⟩
theorem nodes_small {l : List Nd} (h : (szNodeL l : Nat) ≤ 1048576) : l.length ≤ 1048576 ∧ ∀ d ∈ l, d.text.size ≤ 1048576 ∧ d.cnt ≤ 1048576 := by
  unfold szNodeL at h
  refine ⟨by omega, fun d hd => ?_⟩
  have := mem_le_sum szNode hd
  have e : szNode d = d.text.size + d.cnt := rfl
  constructor <;> omega
theorem pns_of {w : World} {A : Option Addr} {n : Nat} {l : List Nd} (hr : Nds w A n l) (h : ∀ d ∈ l, d.text.size ≤ 1048576 ∧ d.cnt ≤ 1048576) : PNs (l.map Nd.pn) := fun p hp => by
  obtain ⟨d, hd, rfl⟩ := List.mem_map.1 hp
  have hc := hr.cnt hd
  exact ⟨(h d hd).1, show d.kids.length ≤ 1048576 by rw [hc]; exact (h d hd).2⟩
set_option maxRecDepth 100000 in
set_option maxHeartbeats 3200000 in
theorem lawFirst (A : Option Addr) (n c : Nat) (l : List Nd) (k : Int) (w : World) (hh : n ≤ maxLen ∧ Nds w A n l ∧ ∀ d ∈ l, OkNode d) :
    Calls Tryz.prog 3 #[.slice A n c, .int .i64 k] w fun e w' => e = .returned (.bool true) ∧ Below w.heap.size w w' := by
  obtain ⟨hn, hr, hok⟩ := hh
  have hl := hr.len
  by_cases hz : (szNodeL l : Nat) ≤ 1048576
  · obtain ⟨hn1, hsm⟩ := nodes_small hz
    have hn2 : n ≤ 1048576 := by omega
    have HPN := Lib.hid (pns_of hr hsm)
    have HSM : Hid (∀ d ∈ l, d.cnt ≤ 1048576) := (show ∀ d ∈ l, _ from fun d hd => (hsm d hd).2)
    have HK : Hid (∀ p ∈ l.map Nd.pn, p.kids.length ≤ 4194304) := (show ∀ p ∈ l.map Nd.pn, _ from fun p hp => by have := (HPN.out p hp).2; omega)
    have HR := Lib.hid hr
    have HZ := Lib.hid (fun W (hW : Below w.heap.size w W) => szNodeS_ok A n c l 1048576 W (by omega) hl (hr.next hW) (by omega))
    have hpos : ¬ ((1048576 : Int) - (szNodeL l : Nat) < 0) := by omega
    have HT := Lib.hid (fun W (hW : Below w.heap.size w W) => toNodeS_any A n c l W hn2 (hr.next hW) HSM)
    have HS := Lib.hid (fun W B c2 hW => specFirstSign_any B n c2 (l.map Nd.pn) k W hn2 hW HPN)
    have HI := Lib.hid (fun W B c2 hW => implFirstSign_any B n c2 (l.map Nd.pn) k W hn2 hW HPN)
    have HE := Lib.hid (fun W B C c2 c3 hB hC => eqNodeS_same B C n c2 c3 (l.map Nd.pn) W (by omega) hB hC HK)
    generalize firstV (l.map Nd.pn) k = V at HS HI
    generalize l.map Nd.pn = ps at HT HS HI HE
    generalize szNodeL l = Z at HZ hpos
    clear hr hok hsm hz hn1 hl HR HPN HK HSM hn
    go_enter Tryz.func3, Tryz.ntmps3
    go_wp2_with fail
    refine (HZ.out _ (Below.refl _ _)).mono ?_
    rintro e w1 ⟨rfl, h1⟩
    go_wp2_with fail
    refine (HT.out _ h1).mono ?_
    rintro e w2 ⟨l2, rfl, _, _, hp2, h2⟩
    have hb2 := below_next h1 h2
    go_wp2_with fail
    refine (HS.out _ _ _ hp2).mono ?_
    rintro e w3 ⟨rfl, h3⟩
    have hb3 := below_next hb2 h3
    clear hp2
    go_wp2_with fail
    refine (HT.out _ hb3).mono ?_
    rintro e w4 ⟨l4, rfl, _, _, hp4, h4⟩
    have hb4 := below_next hb3 h4
    go_wp2_with fail
    refine (HI.out _ _ _ hp4).mono ?_
    rintro e w5 ⟨rfl, h5⟩
    have hb5 := below_next hb4 h5
    have hp5 := hp4.next h5
    go_wp2_with fail
    refine (HT.out _ hb5).mono ?_
    rintro e w6 ⟨l6, rfl, _, _, hp6, h6⟩
    have hb6 := below_next hb5 h6
    have hp56 := hp5.next h6
    go_wp2_with fail
    refine (HE.out _ _ _ _ _ hp56 hp6).mono ?_
    rintro e w7 ⟨rfl, h7⟩
    go_wp2
    go_ret
    exact ⟨rfl, below_next hb6 h7⟩
  · have HZ := Lib.hid (szNodeS_big A n c l 1048576 w (by omega) (by omega) hn hl hr hok (by omega))
    clear hr hok hn
    go_enter Tryz.func3, Tryz.ntmps3
    go_wp2_with fail
    refine HZ.out.mono ?_
    rintro e w1 ⟨rfl, h1⟩
    go_wp2
    go_ret
    exact ⟨rfl, h1⟩
end Go.Proofs.YtpfanhheodiamaaGreatDoor

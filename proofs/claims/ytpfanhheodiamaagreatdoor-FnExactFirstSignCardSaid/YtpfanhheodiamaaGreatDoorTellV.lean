
/-
  Plain law: the signs of a tree are not too many (each node is told once).
-/
import Derived.Test.YtpfanhheodiamaaGreatDoorTellI
namespace Go.Proofs.YtpfanhheodiamaaGreatDoor
open Go.RowKit
set_option linter.unusedVariables false
set_option linter.unusedSimpArgs false

def kidsOf : List Ev → List Int
  | [] => []
  | .sg _ _ :: es => kidsOf es
  | .kid j :: es => j :: kidsOf es
def sgCount : List Ev → Nat
  | [] => 0
  | .sg _ _ :: es => sgCount es + 1
  | .kid _ :: es => sgCount es
theorem kidsOf_app (a b : List Ev) : kidsOf (a ++ b) = kidsOf a ++ kidsOf b := by
  induction a with
  | nil => rfl
  | cons e a ih => cases e <;> simp [kidsOf, ih]
theorem sgCount_app (a b : List Ev) : sgCount (a ++ b) = sgCount a + sgCount b := by
  induction a with
  | nil => simp [sgCount]
  | cons e a ih => cases e <;> simp [sgCount, ih] <;> omega
theorem kidsOf_sepE (mk : ByteArray) (l : List Int) : kidsOf (sepE mk l) = l := by
  cases l with
  | nil => rfl
  | cons x r =>
    simp only [sepE, kidsOf]
    congr 1
    induction r with
    | nil => rfl
    | cons y r ih => rw [List.flatMap_cons, kidsOf_app, ih]; rfl
theorem sgCount_sepE (mk : ByteArray) (l : List Int) : sgCount (sepE mk l) ≤ l.length := by
  cases l with
  | nil => simp [sepE, sgCount]
  | cons x r =>
    simp only [sepE, sgCount, List.length_cons]
    have : ∀ r : List Int, sgCount (r.flatMap (fun v => [mkE mk, .kid v])) = r.length := by
      intro r
      induction r with
      | nil => rfl
      | cons y r ih =>
        rw [List.flatMap_cons, sgCount_app, ih, List.length_cons]
        show 1 + r.length = r.length + 1
        omega
    rw [this]; omega
theorem kidsOf_allE (l : List Int) : kidsOf (allE l) = l := by
  unfold allE
  induction l with
  | nil => rfl
  | cons x r ih => simp [kidsOf, ih]
theorem sgCount_allE (l : List Int) : sgCount (allE l) = 0 := by
  unfold allE
  induction l with
  | nil => rfl
  | cons x r ih => simp [sgCount, ih]
/-- What the kids of a list of events cost. -/
def costK (g : Nat → Nat) (l : List Int) : Nat := (l.map (fun j => g j.toNat)).sum
theorem costK_app (g : Nat → Nat) (a b : List Int) : costK g (a ++ b) = costK g a + costK g b := by simp [costK]
theorem runE_len {f : Nat → TS → TS} {g : Nat → Nat} (hf : ∀ k s, (f k s).1.length ≤ s.1.length + g k) : ∀ (es : List Ev) (s : TS), (runE f s es).1.length ≤ s.1.length + sgCount es + costK g (kidsOf es) := by
  intro es
  induction es with
  | nil =>
    intro s
    show s.1.length ≤ s.1.length + 0 + 0
    omega
  | cons e es ih =>
    intro s
    rw [runE_cons]
    have h := ih (stepE f s e)
    cases e with
    | sg k t =>
      have : (stepE f s (.sg k t)).1.length = s.1.length + 1 := by simp [stepE, putS]
      rw [this] at h
      simp only [sgCount, kidsOf]
      omega
    | kid j =>
      have h2 : (stepE f s (.kid j)).1.length ≤ s.1.length + g j.toNat := hf _ _
      simp only [sgCount, kidsOf]
      have h3 : costK g (j :: kidsOf es) = g j.toNat + costK g (kidsOf es) := by simp [costK]
      omega
/-- How many nodes are told with node k. -/
def visF (ps : List PN) : Nat → Nat → Nat
  | 0, _ => 0
  | f + 1, k => match ps[k]? with | none => 0 | some p => 1 + costK (visF ps f) p.kids
/-- A node of a right shape tells its kids once each, and not many signs of its own. -/
def Shaped (p : PN) : Prop := kidsOf (evs p) = p.kids ∧ sgCount (evs p) ≤ 40
theorem getD_lit (l : List Int) (i : Nat) (x : Int) (h : l[i]? = some x) : l.getD i 0 = x := by rw [List.getD_eq_getElem?_getD, h]; rfl
theorem take_last {l : List Int} (h : 1 ≤ l.length) : l.take (l.length - 1) ++ [l.getD (l.length - 1) 0] = l := by
  obtain ⟨x, hx⟩ : ∃ x, l[l.length - 1]? = some x := ⟨_, List.getElem?_eq_getElem (by omega)⟩
  rw [getD_lit _ _ _ hx]
  have := List.take_add_one (l := l) (i := l.length - 1)
  rw [show l.length - 1 + 1 = l.length by omega, List.take_length, hx] at this
  exact this.symm
theorem head_drop {l : List Int} (h : 1 ≤ l.length) : l.getD 0 0 :: l.drop 1 = l := by
  match l, h with
  | x :: r, _ => rfl
theorem shaped_of {p : PN} (hk : 1 ≤ p.kind ∧ p.kind ≤ 22) (hlo : cntLo p.kind ≤ (p.kids.length : Int)) (hhi : (p.kids.length : Int) ≤ cntHi p.kind) : Shaped p := by
  obtain ⟨kind, text, l, z⟩ := p
  dsimp only at hk hlo hhi
  have h2 : kind = 1 ∨ kind = 2 ∨ kind = 3 ∨ kind = 4 ∨ kind = 5 ∨ kind = 6 ∨ kind = 7 ∨ kind = 8 ∨ kind = 9 ∨ kind = 10 ∨ kind = 11 ∨ kind = 12 ∨ kind = 13 ∨ kind = 14 ∨ kind = 15 ∨ kind = 16 ∨ kind = 17 ∨ kind = 18 ∨ kind = 19 ∨ kind = 20 ∨ kind = 21 ∨ kind = 22 := by omega
  have nil : ∀ {m : Nat}, (l.length : Int) ≤ 0 → l = [] := fun h => List.eq_nil_of_length_eq_zero (by omega)
  have sep := fun mk => sgCount_sepE mk l
  have sepD := fun mk => sgCount_sepE mk (l.drop 1)
  have sepT := fun mk => sgCount_sepE mk (l.take (l.length - 1))
  have hT : (l.take (l.length - 1)).length ≤ l.length := by rw [List.length_take]; omega
  have hD : (l.drop 1).length ≤ l.length := by rw [List.length_drop]; omega
  rcases h2 with rfl | rfl | rfl | rfl | rfl | rfl | rfl | rfl | rfl | rfl | rfl | rfl | rfl | rfl | rfl | rfl | rfl | rfl | rfl | rfl | rfl | rfl
  · have h : (l.length : Int) ≤ 0 := hhi
    rw [nil (m := 0) h]; exact ⟨rfl, show 1 ≤ 40 by decide⟩
  · have h : (l.length : Int) ≤ 0 := hhi
    rw [nil (m := 0) h]; exact ⟨rfl, show 1 ≤ 40 by decide⟩
  · have h : (l.length : Int) ≤ 0 := hhi
    rw [nil (m := 0) h]; exact ⟨rfl, show 1 ≤ 40 by decide⟩
  · have h : (l.length : Int) ≤ 12 := hhi
    have e : evs ⟨4, text, l, z⟩ = mkE ⟨#[91]⟩ :: (sepE ⟨#[44]⟩ l ++ [mkE ⟨#[93]⟩]) := rfl
    unfold Shaped
    rw [e]
    simp only [kidsOf, mkE, sgCount, kidsOf_app, sgCount_app, kidsOf_sepE, List.append_nil]
    have := sep ⟨#[44]⟩
    exact ⟨trivial, by omega⟩
  · have h : (l.length : Int) ≤ 12 := hhi
    have h1 : (1 : Int) ≤ (l.length : Int) := hlo
    have e : evs ⟨5, text, l, z⟩ = Ev.kid (l.getD 0 0) :: mkE ⟨#[40]⟩ :: (sepE ⟨#[44]⟩ (l.drop 1) ++ [mkE ⟨#[41]⟩]) := rfl
    unfold Shaped
    rw [e]
    simp only [kidsOf, mkE, sgCount, kidsOf_app, sgCount_app, kidsOf_sepE, List.append_nil]
    have := sepD ⟨#[44]⟩
    exact ⟨head_drop (by omega), by omega⟩
  · have h : (l.length : Int) ≤ 1 := hhi
    have h1 : (1 : Int) ≤ (l.length : Int) := hlo
    match l, (show l.length = 1 by omega) with
    | [a], _ => exact ⟨rfl, show 2 ≤ 40 by decide⟩
  · have h : (l.length : Int) ≤ 12 := hhi
    have e : evs ⟨7, text, l, z⟩ = sepE text l := rfl
    unfold Shaped
    rw [e, kidsOf_sepE]
    have := sep text
    exact ⟨rfl, by omega⟩
  · have h : (l.length : Int) ≤ 3 := hhi
    have h1 : (3 : Int) ≤ (l.length : Int) := hlo
    match l, (show l.length = 3 by omega) with
    | [a, b, c], _ => exact ⟨rfl, show 2 ≤ 40 by decide⟩
  · have h : (l.length : Int) ≤ 12 := hhi
    have h1 : (1 : Int) ≤ (l.length : Int) := hlo
    have e : evs ⟨9, text, l, z⟩ = mkE ⟨#[40]⟩ :: (sepE ⟨#[44]⟩ (l.take (l.length - 1)) ++ [mkE ⟨#[41]⟩, mkE ⟨#[61, 62]⟩, Ev.kid (l.getD (l.length - 1) 0)]) := rfl
    unfold Shaped
    rw [e]
    simp only [kidsOf, mkE, sgCount, kidsOf_app, sgCount_app, kidsOf_sepE]
    have := sepT ⟨#[44]⟩
    exact ⟨take_last (by omega), by omega⟩
  · have h : (l.length : Int) ≤ 12 := hhi
    have e : evs ⟨10, text, l, z⟩ = sepE ⟨#[46, 46]⟩ l := rfl
    unfold Shaped
    rw [e, kidsOf_sepE]
    have := sep ⟨#[46, 46]⟩
    exact ⟨rfl, by omega⟩
  · have h : (l.length : Int) ≤ 1 := hhi
    have h1 : (1 : Int) ≤ (l.length : Int) := hlo
    match l, (show l.length = 1 by omega) with
    | [a], _ => exact ⟨rfl, show 2 ≤ 40 by decide⟩
  · have h : (l.length : Int) ≤ 1 := hhi
    by_cases h0 : l.length = 0
    · have : l = [] := List.eq_nil_of_length_eq_zero h0
      subst this; exact ⟨rfl, show 3 ≤ 40 by decide⟩
    · match l, (show l.length = 1 by omega) with
      | [a], _ => exact ⟨rfl, show 4 ≤ 40 by decide⟩
  · have h : (l.length : Int) ≤ 1 := hhi
    have h1 : (1 : Int) ≤ (l.length : Int) := hlo
    match l, (show l.length = 1 by omega) with
    | [a], _ => exact ⟨rfl, show 3 ≤ 40 by decide⟩
  · have e : evs ⟨14, text, l, z⟩ = allE l ++ [mkE ⟨#[59]⟩] := rfl
    unfold Shaped
    rw [e]
    simp only [kidsOf, mkE, sgCount, kidsOf_app, sgCount_app, kidsOf_allE, sgCount_allE, List.append_nil]
    exact ⟨trivial, by omega⟩
  · have e : evs ⟨15, text, l, z⟩ = Ev.sg 1 ⟨#[114, 101, 116, 117, 114, 110]⟩ :: (allE l ++ [mkE ⟨#[59]⟩]) := rfl
    unfold Shaped
    rw [e]
    simp only [kidsOf, mkE, sgCount, kidsOf_app, sgCount_app, kidsOf_allE, sgCount_allE, List.append_nil]
    exact ⟨trivial, by omega⟩
  · have h : (l.length : Int) ≤ 3 := hhi
    have h1 : (2 : Int) ≤ (l.length : Int) := hlo
    by_cases h2 : l.length = 2
    · match l, h2 with
      | [a, b], _ => exact ⟨rfl, show 3 ≤ 40 by decide⟩
    · match l, (show l.length = 3 by omega) with
      | [a, b, c], _ => exact ⟨rfl, show 4 ≤ 40 by decide⟩
  · have h : (l.length : Int) ≤ 2 := hhi
    have h1 : (2 : Int) ≤ (l.length : Int) := hlo
    match l, (show l.length = 2 by omega) with
    | [a, b], _ => exact ⟨rfl, show 3 ≤ 40 by decide⟩
  · have e : evs ⟨18, text, l, z⟩ = mkE ⟨#[123]⟩ :: (allE l ++ [mkE ⟨#[125]⟩]) := rfl
    unfold Shaped
    rw [e]
    simp only [kidsOf, mkE, sgCount, kidsOf_app, sgCount_app, kidsOf_allE, sgCount_allE, List.append_nil]
    exact ⟨trivial, by omega⟩
  · have h : (l.length : Int) ≤ 0 := hhi
    rw [nil (m := 0) h]; exact ⟨rfl, show 1 ≤ 40 by decide⟩
  · have h : (l.length : Int) ≤ 12 := hhi
    have h1 : (1 : Int) ≤ (l.length : Int) := hlo
    have e : evs ⟨20, text, l, z⟩ = Ev.sg 1 text :: mkE ⟨#[40]⟩ :: (sepE ⟨#[44]⟩ (l.take (l.length - 1)) ++ [mkE ⟨#[41]⟩, Ev.kid (l.getD (l.length - 1) 0)]) := rfl
    unfold Shaped
    rw [e]
    simp only [kidsOf, mkE, sgCount, kidsOf_app, sgCount_app, kidsOf_sepE]
    have := sepT ⟨#[44]⟩
    exact ⟨take_last (by omega), by omega⟩
  · have e : evs ⟨21, text, l, z⟩ = Ev.sg 1 ⟨#[99, 108, 97, 115, 115]⟩ :: Ev.sg 1 text :: mkE ⟨#[123]⟩ :: (allE l ++ [mkE ⟨#[125]⟩]) := rfl
    unfold Shaped
    rw [e]
    simp only [kidsOf, mkE, sgCount, kidsOf_app, sgCount_app, kidsOf_allE, sgCount_allE, List.append_nil]
    exact ⟨trivial, by omega⟩
  · have e : evs ⟨22, text, l, z⟩ = allE l := rfl
    unfold Shaped
    rw [e, kidsOf_allE, sgCount_allE]
    exact ⟨rfl, by omega⟩
theorem tellF_len {ps : List PN} (hs : ∀ (k : Nat) (p : PN), ps[k]? = some p → Shaped p) : ∀ f k s, (tellF ps f k s).1.length ≤ s.1.length + 40 * visF ps f k := by
  intro f
  induction f with
  | zero => intro k s; simp [tellF, visF]
  | succ f ih =>
    intro k s
    unfold visF
    cases hx : ps[k]? with
    | none => unfold tellF; rw [hx]; simp
    | some p =>
      rw [tellF_step hx]
      obtain ⟨h1, h2⟩ := hs k p hx
      have h3 := runE_len (f := tellF ps f) (g := fun k => 40 * visF ps f k) ih (evs p) (s.1, s.2.set k (s.1.length : Int))
      rw [h1] at h3
      have h4 : costK (fun k => 40 * visF ps f k) p.kids = 40 * costK (visF ps f) p.kids := by
        unfold costK
        generalize p.kids = l
        induction l with
        | nil => rfl
        | cons x r ih => simp only [List.map_cons, List.sum_cons, ih]; omega
      rw [h4] at h3
      simp only at h3 ⊢
      omega
/-- Enough fuel is enough. -/
theorem visF_more {ps : List PN} (hg : Good ps) : ∀ (f k : Nat), k < f → visF ps f k = visF ps (k + 1) k := by
  intro f
  induction f using Nat.strongRecOn with
  | ind f ih =>
    intro k hk
    obtain ⟨f', rfl⟩ : ∃ f', f = f' + 1 := ⟨f - 1, by omega⟩
    cases hx : ps[k]? with
    | none => simp [visF, hx]
    | some p =>
      have hp := (hg k p hx).2
      simp only [visF, hx]
      congr 1
      unfold costK
      congr 1
      apply List.map_congr_left
      intro v hv
      have hvk := hp v hv
      rw [ih f' (by omega) v.toNat (by omega)]
      by_cases e : k = f'
      · subst e
        rw [ih k (by omega) v.toNat (by omega)]
      · rw [ih k (by omega) v.toNat (by omega)]
def visV (ps : List PN) (k : Nat) : Nat := visF ps (k + 1) k
theorem visV_eq {ps : List PN} (hg : Good ps) {k : Nat} {p : PN} (hx : ps[k]? = some p) : visV ps k = 1 + costK (visV ps) p.kids := by
  have : visV ps k = 1 + costK (visF ps k) p.kids := by
    show visF ps (k + 1) k = _
    simp only [visF, hx]
  rw [this]
  congr 1
  unfold costK
  congr 1
  apply List.map_congr_left
  intro v hv
  have := (hg k p hx).2 v hv
  exact visF_more hg k v.toNat (by omega)
def sumV (ps : List PN) (m : Nat) : Nat := ((List.range m).map (visV ps)).sum
theorem sumV_succ (ps : List PN) (m : Nat) : sumV ps (m + 1) = sumV ps m + visV ps m := by unfold sumV; rw [List.range_succ]; simp
theorem sumV_kids {ps : List PN} (hg : Good ps) : ∀ m, m ≤ ps.length → sumV ps m = m + costK (visV ps) (kidsTo ps m) := by
  intro m
  induction m with
  | zero => intro _; simp [sumV, costK, kidsTo]
  | succ m ih =>
    intro hm
    obtain ⟨p, hx⟩ : ∃ p, ps[m]? = some p := ⟨_, List.getElem?_eq_getElem (by omega)⟩
    rw [sumV_succ, ih (by omega), kidsTo_step hx, costK_app, visV_eq hg hx]
    omega
theorem kidsTo_mem {ps : List PN} (hg : Good ps) : ∀ m v, v ∈ kidsTo ps m → 0 ≤ v ∧ v + 1 < (m : Int) + 0 ∨ 0 ≤ v ∧ v < (m : Int) - 1 := by
  intro m
  induction m with
  | zero => intro v hv; simp [kidsTo] at hv
  | succ m ih =>
    intro v hv
    cases hx : ps[m]? with
    | none =>
      have : kidsTo ps (m + 1) = kidsTo ps m := by unfold kidsTo; rw [List.take_add_one, hx]; simp
      rw [this] at hv
      have := ih v hv
      omega
    | some p =>
      rw [kidsTo_step hx] at hv
      rcases List.mem_append.1 hv with hv | hv
      · have := ih v hv; omega
      · have := (hg m p hx).2 v hv; omega
theorem range_count (m q : Nat) : ((List.range m).map (fun (j : Nat) => (j : Int))).count (q : Int) = if q < m then 1 else 0 := by
  induction m with
  | zero => simp
  | succ m ih =>
    rw [List.range_succ, List.map_append, List.count_append, ih]
    simp only [List.map_cons, List.map_nil, List.count_singleton]
    by_cases h : q = m
    · subst h; simp
    · have : ((m : Int) == (q : Int)) = false := by rw [beq_eq_false_iff_ne]; omega
      rw [this]
      simp only [Bool.false_eq_true, if_false, Nat.add_zero]
      by_cases h2 : q < m
      · rw [if_pos h2, if_pos (by omega)]
      · rw [if_neg h2, if_neg (by omega)]
theorem perm_sum {l r : List Nat} (h : l.Perm r) : l.sum = r.sum := by
  induction h with
  | nil => rfl
  | cons x _ ih => simp [ih]
  | swap x y l => simp only [List.sum_cons]; omega
  | trans _ _ ih1 ih2 => rw [ih1, ih2]
theorem kids_perm {ps : List PN} (hg : Good ps) {m : Nat} (hu : usedTo ps (m + 1) m) : (kidsTo ps (m + 1)).Perm ((List.range m).map (fun (j : Nat) => (j : Int))) := by
  rw [List.perm_iff_count]
  intro a
  by_cases ha : 0 ≤ a ∧ a < (m : Int)
  · obtain ⟨q, rfl⟩ := Int.eq_ofNat_of_zero_le ha.1
    have h1 := hu q (by omega)
    rw [h1]
    rw [range_count, if_pos (by omega)]
  · have h1 : (kidsTo ps (m + 1)).count a = 0 := by
      rw [List.count_eq_zero]
      intro hm
      have := kidsTo_mem hg (m + 1) a hm
      omega
    have h2 : ((List.range m).map (fun (j : Nat) => (j : Int))).count a = 0 := by
      rw [List.count_eq_zero]
      intro hm
      obtain ⟨j, hj, rfl⟩ := List.mem_map.1 hm
      rw [List.mem_range] at hj
      omega
    rw [h1, h2]
theorem visV_root {ps : List PN} (hg : Good ps) {m : Nat} (hl : ps.length = m + 1) (hu : usedTo ps (m + 1) m) : visV ps m = m + 1 := by
  have h1 := sumV_kids hg (m + 1) (by omega)
  have h2 : costK (visV ps) (kidsTo ps (m + 1)) = sumV ps m := by
    unfold costK sumV
    rw [perm_sum ((kids_perm hg hu).map (fun j : Int => visV ps j.toNat)), List.map_map]
    rfl
  rw [h2, sumV_succ] at h1
  omega
end Go.Proofs.YtpfanhheodiamaaGreatDoor

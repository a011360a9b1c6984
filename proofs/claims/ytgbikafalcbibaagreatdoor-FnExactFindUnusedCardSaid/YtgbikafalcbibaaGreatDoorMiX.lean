/-
  Put together by program (shake.py): FhA, FiA, FiB, FiC, FiD.
-/
import Derived.Test.YtgbikafalcbibaaGreatDoorMiU
import Derived.Test.YtgbikafalcbibaaGreatDoorMiJ
import Derived.Lib.SlicesS
import Derived.Test.YtgbikafalcbibaaGreatDoorMiV
set_option maxRecDepth 100000
set_option maxHeartbeats 25600000
set_option linter.unusedVariables false
set_option linter.unusedSimpArgs false
open Go.Lib (hid)
open Go.Proofs.Tryz
namespace Go.Proofs.YtgbikafalcbibaaGreatDoor
open Go.RowKit
theorem tree_one {ps : List PN} (h : treeB ps = true) : ∃ m, ps.length = m + 1 ∧ m + 1 ≤ 300 ∧ Good ps ∧ usedTo ps (m + 1) m := by
 unfold treeB at h
 simp only [Bool.and_eq_true] at h
 obtain ⟨h1, h2, h3, h4⟩ := h
 have h1' := of_decide_eq_true h1
 obtain ⟨m, hm⟩ : ∃ m, ps.length = m + 1 := ⟨ps.length - 1, by omega⟩
 have hd : ¬ deepV ps (ps.length - 1) = 0 := by
  intro e; rw [e] at h3; cases h3
 refine ⟨m, hm, by omega, good_of hd, fun i hi => ?_⟩
 unfold usedB at h4
 rw [List.all_eq_true, hm] at h4
 have := h4 i (List.mem_range.2 (by omega))
 simpa using this
theorem mem_kidsTo {ps : List PN} {v : Int} : ∀ {M : Nat}, v ∈ kidsTo ps M → ∃ k p, k < M ∧ ps[k]? = some p ∧ v ∈ p.kids := by
 intro M
 induction M with
 | zero => intro h; simp [kidsTo] at h
 | succ M ih =>
  intro h
  by_cases hM : M < ps.length
  ·obtain ⟨p, hp⟩ : ∃ p, ps[M]? = some p := ⟨_, List.getElem?_eq_getElem hM⟩
   rw [kidsTo_step hp, List.mem_append] at h
   rcases h with h | h
   ·obtain ⟨k, q, h1, h2⟩ := ih h
    exact ⟨k, q, by omega, h2⟩
   ·exact ⟨M, p, by omega, hp, h⟩
  ·have e : kidsTo ps (M + 1) = kidsTo ps M := by
    unfold kidsTo; rw [List.take_of_length_le (by omega), List.take_of_length_le (by omega)]
   rw [e] at h
   obtain ⟨k, q, h1, h2⟩ := ih h
   exact ⟨k, q, by omega, h2⟩
theorem kidsTo_mem' {ps : List PN} {v : Int} {k : Nat} {p : PN} (hp : ps[k]? = some p) (hv : v ∈ p.kids) {M : Nat} (hk : k < M) : v ∈ kidsTo ps M := by
 unfold kidsTo
 rw [List.mem_flatMap]
 refine ⟨p, ?_, hv⟩
 have hl := (List.getElem?_eq_some_iff.1 hp)
 obtain ⟨hkl, rfl⟩ := hl
 rw [List.mem_take_iff_getElem]
 exact ⟨k, by omega, rfl⟩
theorem count_mono {ps : List PN} (v : Int) {a b : Nat} (h : a ≤ b) : (kidsTo ps a).count v ≤ (kidsTo ps b).count v := by
 unfold kidsTo
 have e : ps.take b = ps.take a ++ (ps.take b).drop a := by
  conv => lhs; rw [← List.take_append_drop a (ps.take b)]
  rw [List.take_take, Nat.min_eq_left h]
 rw [e, List.flatMap_append, List.count_append]
 omega
theorem one_parent {ps : List PN} {m : Nat} (hu : usedTo ps (m + 1) m) {i k k' : Nat} {p p' : PN} (hi : i < m) (hk : ps[k]? = some p) (hk' : ps[k']? = some p') (hv : (i : Int) ∈ p.kids) (hv' : (i : Int) ∈ p'.kids) (hl : k < m + 1) (hl' : k' < m + 1) : k = k' := by
 have key : ∀ {k k' : Nat} {p p' : PN}, ps[k]? = some p → ps[k']? = some p' → (i : Int) ∈ p.kids → (i : Int) ∈ p'.kids → k' < m + 1 → ¬ k < k' := by
  intro k k' p p' hk hk' hv hv' hl' hlt
  have h1 := count_mono (ps := ps) (i : Int) (show k' + 1 ≤ m + 1 by omega)
  rw [kidsTo_step hk', List.count_append, hu i hi] at h1
  have h2 := List.count_pos_iff.2 (kidsTo_mem' hk hv hlt)
  have h3 := List.count_pos_iff.2 hv'
  omega
 have h1 := key hk hk' hv hv' hl'
 have h2 := key hk' hk hv' hv hl
 omega
theorem a_parent {ps : List PN} {m : Nat} (hu : usedTo ps (m + 1) m) {i : Nat} (hi : i < m) : ∃ k p, k < m + 1 ∧ ps[k]? = some p ∧ (i : Int) ∈ p.kids :=
 mem_kidsTo (List.count_pos_iff.1 (by rw [hu i hi]; omega))
inductive Und (ps : List PN) : Nat → Nat → Prop
 | refl (k : Nat) : Und ps k k
 | kid {k v j : Nat} {p : PN} (hp : ps[k]? = some p) (hv : (v : Int) ∈ p.kids) (h : Und ps v j) : Und ps k j
theorem Und.snoc {ps : List PN} {a b v : Nat} {p : PN} (h : Und ps a b) (hp : ps[b]? = some p) (hv : (v : Int) ∈ p.kids) : Und ps a v := by
 induction h with
 | refl k => exact .kid hp hv (.refl _)
 | kid hp' hv' _ ih => exact .kid hp' hv' (ih hp)
theorem Und.le {ps : List PN} (hg : Good ps) {a b : Nat} (h : Und ps a b) : b ≤ a := by
 induction h with
 | refl k => exact Nat.le_refl _
 | kid hp hv _ ih =>
  have := (hg _ _ hp).2 _ hv
  omega
def markB_ (B : List Bool) (l : List Int) : List Bool := l.foldl (fun b v => b.set v.toNat true) B
theorem markB_spec : ∀ (l : List Int) (B : List Bool), (∀ v ∈ l, 0 ≤ v) → (markB_ B l).length = B.length ∧ ∀ j, j < B.length → (markB_ B l).getD j false = (decide ((j : Int) ∈ l) || B.getD j false) := by
 intro l
 induction l with
 | nil => intro B _; exact ⟨rfl, fun j hj => by simp [markB_]⟩
 | cons v l ih =>
  intro B hv
  obtain ⟨h1, h2⟩ := ih (B.set v.toNat true) (fun u hu => hv u (List.mem_cons_of_mem _ hu))
  have hv0 := hv v (by simp)
  have e : markB_ B (v :: l) = markB_ (B.set v.toNat true) l := rfl
  rw [e]
  refine ⟨by rw [h1, List.length_set], fun j hj => ?_⟩
  rw [h2 j (by rw [List.length_set]; exact hj)]
  by_cases hjv : (j : Int) = v
  ·have e2 : v.toNat = j := by omega
   rw [e2, List.getD_eq_getElem?_getD, List.getElem?_set_self hj]
   simp [hjv]
  ·rw [List.getD_eq_getElem?_getD, List.getElem?_set_ne (by omega), ← List.getD_eq_getElem?_getD]
   simp [hjv]
def uTo (ps : List PN) (k : Nat) : Nat → List Bool
 | 0 => (List.replicate (k + 1) false).set k true
 | j + 1 => if (uTo ps k j).getD (k - j) false = true then (match ps[k - j]? with | none => uTo ps k j | some p => markB_ (uTo ps k j) p.kids) else uTo ps k j
def uV (ps : List PN) (k : Nat) : List Bool := uTo ps k (k + 1)
def UInv (ps : List PN) (k : Nat) (B : List Bool) (lo : Nat) : Prop :=
 B.length = k + 1 ∧ B.getD k false = true ∧ (∀ j, B.getD j false = true → Und ps k j) ∧ ∀ i p, lo ≤ i → B.getD i false = true → ps[i]? = some p → ∀ v ∈ p.kids, B.getD v.toNat false = true
theorem getD_lt {B : List Bool} {j : Nat} (h : B.getD j false = true) : j < B.length := by
 rcases Nat.lt_or_ge j B.length with h2 | h2
 ·exact h2
 ·rw [List.getD_eq_getElem?_getD, List.getElem?_eq_none h2] at h; cases h
theorem uTo_inv {ps : List PN} (hg : Good ps) {k : Nat} (hk : k < ps.length) : ∀ j, j ≤ k + 1 → UInv ps k (uTo ps k j) (k + 1 - j) := by
 intro j
 induction j with
 | zero =>
  intro _
  refine ⟨by simp [uTo], ?_, fun i hi => ?_, fun i p hi hb hp => ?_⟩
  ·rw [uTo, List.getD_eq_getElem?_getD, List.getElem?_set_self (by simp)]; rfl
  ·by_cases h : i = k
   ·rw [h]; exact .refl _
   ·rw [uTo, List.getD_eq_getElem?_getD, List.getElem?_set_ne (by omega), List.getElem?_replicate] at hi
    split at hi <;> cases hi
  ·have := getD_lt hb
   simp [uTo] at this
   omega
 | succ j ih =>
  intro hj
  obtain ⟨h1, h2, h3, h4⟩ := ih (by omega)
  rw [uTo]
  by_cases hm : (uTo ps k j).getD (k - j) false = true
  ·rw [if_pos hm]
   obtain ⟨p, hp⟩ : ∃ p, ps[k - j]? = some p := ⟨_, gE (by omega)⟩
   rw [hp]
   dsimp only
   have hgk := (hg _ p hp).2
   obtain ⟨s1, s2⟩ := markB_spec p.kids (uTo ps k j) (fun v hv => (hgk v hv).1)
   have hmono : ∀ i, (uTo ps k j).getD i false = true → (markB_ (uTo ps k j) p.kids).getD i false = true := fun i hi => by
    rw [s2 i (getD_lt hi), hi, Bool.or_true]
   refine ⟨by rw [s1, h1], hmono k h2, fun i hi => ?_, fun i p' hi hb hp' v hv => ?_⟩
   ·have hlt := getD_lt hi
    rw [s1] at hlt
    rw [s2 i hlt, Bool.or_eq_true] at hi
    rcases hi with hi | hi
    ·exact (h3 _ hm).snoc hp (of_decide_eq_true hi)
    ·exact h3 i hi
   ·have hlt := getD_lt hb
    rw [s1] at hlt
    have hgv := (hg i p' hp').2 v hv
    obtain ⟨z, rfl⟩ := Int.eq_ofNat_of_zero_le hgv.1
    rw [Int.toNat_natCast]
    by_cases hik : i = k - j
    ·subst hik
     rw [hp] at hp'
     obtain rfl := Option.some.inj hp'
     rw [s2 z (by omega)]
     simp [hv]
    ·rw [s2 i hlt, Bool.or_eq_true] at hb
     rcases hb with hb | hb
     ·have := hgk _ (of_decide_eq_true hb); omega
     ·have := h4 i p' (by omega) hb hp' (z : Int) hv
      rw [Int.toNat_natCast] at this
      exact hmono z this
  ·rw [if_neg hm]
   refine ⟨h1, h2, h3, fun i p hi hb hp v hv => ?_⟩
   by_cases hik : i = k - j
   ·subst hik; exact absurd hb hm
   ·exact h4 i p (by omega) hb hp v hv
theorem uV_iff {ps : List PN} (hg : Good ps) {k : Nat} (hk : k < ps.length) (j : Nat) : (uV ps k).getD j false = true ↔ Und ps k j := by
 obtain ⟨h1, h2, h3, h4⟩ := uTo_inv hg hk (k + 1) (Nat.le_refl _)
 refine ⟨fun h => h3 j h, fun h => ?_⟩
 have key : ∀ {a b : Nat}, Und ps a b → (uV ps k).getD a false = true → (uV ps k).getD b false = true := by
  intro a b hu
  induction hu with
  | refl a => intro h; exact h
  | kid hp hv _ ih =>
   intro h
   apply ih
   have := h4 _ _ (by omega) h hp _ hv
   rwa [Int.toNat_natCast] at this
 exact key h h2
theorem uV_len {ps : List PN} (hg : Good ps) {k : Nat} (hk : k < ps.length) : (uV ps k).length = k + 1 := (uTo_inv hg hk (k + 1) (Nat.le_refl _)).1
def l22F (ps : List PN) : Nat → Nat → List Bool → List Bool
 | 0, _, B => B
 | f + 1, k, B => if B.getD k false = true then B else (match ps[k]? with | none => B | some p => p.kids.foldl (fun b v => l22F ps f v.toNat b) (B.set k true))
theorem l22F_len (ps : List PN) : ∀ (f k : Nat) (B : List Bool), (l22F ps f k B).length = B.length := by
 intro f
 induction f with
 | zero => intro k B; rfl
 | succ f ih =>
  intro k B
  unfold l22F
  split
  ·rfl
  ·split
   ·rfl
   ·have key : ∀ (l : List Int) (o : List Bool), (l.foldl (fun b v => l22F ps f v.toNat b) o).length = o.length := by
     intro l
     induction l with
     | nil => intro o; rfl
     | cons v l ih2 => intro o; rw [List.foldl_cons, ih2, ih]
    rw [key, List.length_set]
theorem l22F_spec {ps : List PN} (hg : Good ps) : ∀ (f k : Nat) (B : List Bool), k < f → k < ps.length → k < B.length →
  (∀ j, B.getD j false = true → (l22F ps f k B).getD j false = true) ∧ (l22F ps f k B).getD k false = true ∧ (∀ j, (l22F ps f k B).getD j false = true → B.getD j false = true ∨ Und ps k j) ∧
  ∀ i p, (l22F ps f k B).getD i false = true → ¬ B.getD i false = true → ps[i]? = some p → ∀ v ∈ p.kids, (l22F ps f k B).getD v.toNat false = true := by
 intro f
 induction f with
 | zero => intro k B h; omega
 | succ f ih =>
  intro k B hkf hkl hkB
  unfold l22F
  by_cases hm : B.getD k false = true
  ·rw [if_pos hm]
   exact ⟨fun j h => h, hm, fun j h => .inl h, fun i p h1 h2 => absurd h1 h2⟩
  ·rw [if_neg hm]
   obtain ⟨p, hp⟩ : ∃ p, ps[k]? = some p := ⟨_, List.getElem?_eq_getElem hkl⟩
   rw [hp]
   dsimp only
   have hgk := (hg k p hp).2
   have key : ∀ (l : List Int) (o : List Bool), (∀ v ∈ l, v ∈ p.kids) → o.length = B.length →
     (∀ j, o.getD j false = true → (l.foldl (fun b v => l22F ps f v.toNat b) o).getD j false = true) ∧ (∀ v ∈ l, (l.foldl (fun b v => l22F ps f v.toNat b) o).getD v.toNat false = true) ∧
     (∀ j, (l.foldl (fun b v => l22F ps f v.toNat b) o).getD j false = true → o.getD j false = true ∨ Und ps k j) ∧
     ∀ i q, (l.foldl (fun b v => l22F ps f v.toNat b) o).getD i false = true → ¬ o.getD i false = true → ps[i]? = some q → ∀ v ∈ q.kids, (l.foldl (fun b v => l22F ps f v.toNat b) o).getD v.toNat false = true := by
    intro l
    induction l with
    | nil => intro o _ _; exact ⟨fun j h => h, fun v hv => (by cases hv), fun j h => .inl h, fun i q h1 h2 => absurd h1 h2⟩
    | cons v l ihl =>
     intro o hs ho
     have hv := hs v (by simp)
     have hvb := hgk v hv
     obtain ⟨z, rfl⟩ := Int.eq_ofNat_of_zero_le hvb.1
     obtain ⟨i1, i2, i3, i4⟩ := ih z o (by omega) (by omega) (by omega)
     obtain ⟨j1, j2, j3, j4⟩ := ihl (l22F ps f z o) (fun u hu => hs u (List.mem_cons_of_mem _ hu)) (by rw [l22F_len]; exact ho)
     rw [List.foldl_cons, Int.toNat_natCast]
     refine ⟨fun j h => j1 j (i1 j h), fun u hu => ?_, fun j h => ?_, fun i q h1 h2 hq u hu => ?_⟩
     ·rcases List.mem_cons.1 hu with rfl | hu
      ·rw [Int.toNat_natCast]; exact j1 z i2
      ·exact j2 u hu
     ·rcases j3 j h with h | h
      ·rcases i3 j h with h | h
       ·exact .inl h
       ·exact .inr (.kid hp hv h)
      ·exact .inr h
     ·by_cases h3 : (l22F ps f z o).getD i false = true
      ·exact j1 _ (i4 i q h3 h2 hq u hu)
      ·exact j4 i q h1 h3 hq u hu
   obtain ⟨k1, k2, k3, k4⟩ := key p.kids (B.set k true) (fun v h => h) (by rw [List.length_set])
   have hset : ∀ j, (B.set k true).getD j false = (decide (j = k) || B.getD j false) := fun j => by
    by_cases hjk : j = k
    ·subst hjk
     rw [List.getD_eq_getElem?_getD, List.getElem?_set_self hkB]; simp
    ·rw [List.getD_eq_getElem?_getD, List.getElem?_set_ne (by omega), ← List.getD_eq_getElem?_getD]; simp [hjk]
   refine ⟨fun j h => k1 j (by rw [hset, h, Bool.or_true]), k1 k (by rw [hset]; simp), fun j h => ?_, fun i q h1 h2 hq v hv => ?_⟩
   ·rcases k3 j h with h | h
    ·rw [hset, Bool.or_eq_true] at h
     rcases h with h | h
     ·rw [of_decide_eq_true h]; exact .inr (.refl _)
     ·exact .inl h
    ·exact .inr h
   ·by_cases hik : i = k
    ·subst hik
     rw [hp] at hq
     obtain rfl := Option.some.inj hq
     exact k2 v hv
    ·exact k4 i q h1 (by rw [hset]; simp [hik]; simpa using h2) hq v hv
theorem l22F_iff {ps : List PN} (hg : Good ps) {k : Nat} (hk : k < ps.length) (j : Nat) : (l22F ps (k + 1) k (List.replicate ps.length false)).getD j false = true ↔ Und ps k j := by
 have h0 : ∀ j, ¬ (List.replicate ps.length false).getD j false = true := fun j h => by
  rw [List.getD_eq_getElem?_getD, List.getElem?_replicate] at h
  split at h <;> cases h
 obtain ⟨h1, h2, h3, h4⟩ := l22F_spec hg (k + 1) k (List.replicate ps.length false) (by omega) hk (by simpa using hk)
 refine ⟨fun h => (h3 j h).resolve_left (h0 j), fun h => ?_⟩
 have key : ∀ {a b : Nat}, Und ps a b → (l22F ps (k + 1) k (List.replicate ps.length false)).getD a false = true → (l22F ps (k + 1) k (List.replicate ps.length false)).getD b false = true := by
  intro a b hu
  induction hu with
  | refl a => intro h; exact h
  | kid hp hv _ ih =>
   intro h
   apply ih
   have := h4 _ _ h (h0 _) hp _ hv
   rwa [Int.toNat_natCast] at this
 exact key h h2
def trueTo (B : List Bool) : Nat → List Int
 | 0 => []
 | i + 1 => trueTo B i ++ (if B.getD i false = true then [(i : Int)] else [])
theorem trueTo_len (B : List Bool) : ∀ i, (trueTo B i).length ≤ i := by
 intro i
 induction i with
 | zero => simp [trueTo]
 | succ i ih => rw [trueTo, lA]; split <;> simp <;> omega
theorem trueTo_mem {B : List Bool} {v : Int} : ∀ {i : Nat}, v ∈ trueTo B i → ∃ j : Nat, v = (j : Int) ∧ j < i ∧ B.getD j false = true := by
 intro i
 induction i with
 | zero => intro h; simp [trueTo] at h
 | succ i ih =>
  intro h
  rw [trueTo, List.mem_append] at h
  rcases h with h | h
  ·obtain ⟨j, h1, h2, h3⟩ := ih h; exact ⟨j, h1, by omega, h3⟩
  ·split at h
   ·next hb => rw [List.mem_singleton] at h; exact ⟨i, h, by omega, hb⟩
   ·cases h
theorem trueTo_same {A B : List Bool} : ∀ {i : Nat}, (∀ j, j < i → (A.getD j false = true ↔ B.getD j false = true)) → trueTo A i = trueTo B i := by
 intro i
 induction i with
 | zero => intro _; rfl
 | succ i ih =>
  intro h
  rw [trueTo, trueTo, ih (fun j hj => h j (by omega))]
  have := h i (by omega)
  by_cases hb : B.getD i false = true
  ·rw [if_pos hb, if_pos (this.2 hb)]
  ·rw [if_neg hb, if_neg (fun h2 => hb (this.1 h2))]
theorem trueTo_more {B : List Bool} {a : Nat} : ∀ {b : Nat}, a ≤ b → (∀ j, a ≤ j → ¬ B.getD j false = true) → trueTo B b = trueTo B a := by
 intro b
 induction b with
 | zero => intro h _; obtain rfl : a = 0 := (by omega); rfl
 | succ b ih =>
  intro h hn
  rcases Nat.lt_or_ge b a with h2 | h2
  ·obtain rfl : a = b + 1 := (by omega); rfl
  ·rw [trueTo, ih h2 hn, if_neg (hn b h2), List.append_nil]
def undL (ps : List PN) (k : Nat) : List Int := trueTo (uV ps k) (k + 1)
theorem undL_spec {ps : List PN} (hg : Good ps) {k : Nat} (hk : k < ps.length) : trueTo (l22F ps (k + 1) k (List.replicate ps.length false)) ps.length = undL ps k := by
 unfold undL
 rw [trueTo_more (a := k + 1) (by omega) (fun j hj h => by have := ((l22F_iff hg hk j).1 h).le hg; omega)]
 exact trueTo_same (fun j _ => by rw [l22F_iff hg hk, uV_iff hg hk])
def boolCells (l : List Bool) : List Value := l.map Value.bool
theorem infoBool : (prog.info? 4).map (fun i => (i.zero, i.size, i.bytes)) = some (some (.bool false), 1, 1) := by kernel_rfl
theorem bool_at {w : World} {g n k : Nat} {l : List Bool} (h : Own w g 4 n (boolCells l)) (hk : k < l.length) : w.cell? ⟨g, k, none⟩ = some (.bool (l.getD k false)) := by
 obtain ⟨b, off, e, _, hc⟩ := (h.rd (size := 1) (n := l.length) (by simp [boolCells])).at_ (by omega)
 injection e with e
 injection e with e1 e2
 subst e1; subst e2
 have := hc k (.bool (l.getD k false)) (by unfold boolCells; rw [List.getElem?_map, List.getD_eq_getElem?_getD, List.getElem?_eq_getElem hk]; rfl)
 rwa [Nat.zero_add] at this
theorem bools_put {w : World} {g n k : Nat} {o : List Bool} {x : Bool} (h : Own w g 4 n (boolCells o)) (hk : k < o.length) : Own (w.setCell ⟨g, k, none⟩ (.bool x)) g 4 n (boolCells (o.set k x)) := by
 have := h.put (i := k) (by simp [boolCells]; exact hk) (.bool x)
 unfold boolCells at this ⊢
 rw [List.map_set]
 exact this
theorem Own.falses {w : World} {e : TypeId} (n : Nat) : Own (w.alloc (.cells (madeCells #[.bool false] n) e)) w.heap.size e n (boolCells (List.replicate n false)) :=
 ⟨[], by
  have h := Blk.new w e (madeCells #[.bool false] n)
  have e1 : (boolCells (List.replicate n false) ++ []).toArray = madeCells #[.bool false] n := by
   apply Array.ext'
   rw [toList_madeCells_one]
   simp [boolCells]
  rw [e1]; exact h, by simp [boolCells]⟩
def MarkC (w0 : World) (A : Option Addr) (n c g : Nat) (ps : List PN) (f : Nat) : Prop :=
 ∀ (k : Nat) (o : List Bool) (W : World), k < f → k < n → o.length = n → Below w0.heap.size w0 W → Own W g 4 n (boolCells o) →
  Calls prog 88 #[.slice A n c, .int .i64 k, .slice (some ⟨g, 0, none⟩) n n] W fun e w' => e = .returned (.tuple #[]) ∧ Below w0.heap.size w0 w' ∧ Own w' g 4 n (boolCells (l22F ps f k o))
theorem l22Mark_step (w0 : World) (A : Option Addr) (n c g : Nat) (ps : List PN) (hps : Nps w0 A n ps) (hg : Good ps) (hgg : w0.heap.size ≤ g) (hn : n ≤ 1048576) (f : Nat) (hC : MarkC w0 A n c g ps f) : MarkC w0 A n c g ps (f + 1) := by
 intro k o W hkf hkn ho hb how
 obtain ⟨p, hp⟩ := hps.get hkn
 have hkn' : (k : Int) < (n : Int) := by omega
 have c0 := bool_at how (show k < o.length by omega)
 have huf := how.frozen
 have huz := how.lt
 rcases bft (o.getD k false) with hm | hm
 ·have HE := hid (show l22F ps (f + 1) k o = o by unfold l22F; rw [if_pos hm])
  rw [hm] at c0
  rw [HE.out]
  have HB := hid hb
  have HO := hid how
  clear hps hg hC hp hm HE hb how
  go_enter func88, ntmps88
  go_wp2
  refine bodyPost_ret (results_none rfl _ _ _) rfl ?_
  exact ⟨rfl, HB.out, HO.out⟩
 ·rw [hm] at c0
  obtain ⟨hk12, hkv⟩ := hg k p hp
  obtain ⟨ks, hks⟩ : ∃ ks, p.kids = ks := ⟨_, rfl⟩
  obtain ⟨ml, hml⟩ : ∃ ml, ks.length = ml := ⟨_, rfl⟩
  obtain ⟨G, hG⟩ : ∃ G, (fun i => (ks.take i).foldl (fun b v => l22F ps f v.toNat b) (o.set k true)) = G := ⟨_, rfl⟩
  have HE := hid (show l22F ps (f + 1) k o = G ml by
   conv => lhs; unfold l22F
   rw [if_neg (by rw [hm]; decide), hp, ← hG]
   dsimp only
   rw [hks, ← hml, List.take_length])
  have HG0 := hid (show G 0 = o.set k true by rw [← hG]; rfl)
  have HGS := hid (show ∀ (i : Nat) (v : Int), ks[i]? = some v → G (i + 1) = l22F ps f v.toNat (G i) from fun i v hv => by
   rw [← hG]
   dsimp only
   rw [List.take_add_one, hv, Option.toList_some, List.foldl_append]
   rfl)
  have HGL := hid (show ∀ i, (G i).length = n from fun i => by
   rw [← hG]
   have key : ∀ (l : List Int) (o : List Bool), (l.foldl (fun b v => l22F ps f v.toNat b) o).length = o.length := by
    intro l
    induction l with
    | nil => intro o; rfl
    | cons v l ih2 => intro o; rw [List.foldl_cons, ih2, l22F_len]
   dsimp only
   rw [key, List.length_set, ho])
  rw [hks] at hkv hk12
  have HKV := hid hkv
  have HC := hid hC
  have HKS := hid hks
  have HML := hid hml
  have hml12 : ml ≤ 12 := by omega
  have HO1 := hid (bools_put (x := true) how (show k < o.length by omega))
  rw [HE.out]
  have HB1 := hid (hb.setCell (show w0.heap.size ≤ (⟨g, k, none⟩ : Addr).block from hgg) (.bool true))
  obtain ⟨b, off, A', c', rfl, hblt0, _, _, y2, _, _, hkr⟩ := hps.atc hkn hp
  rw [hks, hml] at y2 hkr
  have HKR := hid hkr
  have HX2 := hid (fun (W : World) (h : Below w0.heap.size w0 W) => ((bcell h).1 _ _ hblt0).trans y2)
  have HBL := hid (fun (W : World) (h : Below w0.heap.size w0 W) => show b < W.heap.size by have := h.size; omega)
  clear hps hg hC hp hks hml hG hb how hkv HE hm y2 hkr hblt0
  go_enter func88, ntmps88
  go_upto_region 2 with fail
  clear c0 huf huz
  generalize W.setCell ⟨g, k, none⟩ (.bool true) = W1 at HB1 HO1 ⊢
  go_wp2
  go_loopw [6] (fun i wr => ∃ j : Nat, j ≤ ml ∧ i = .int .i64 j ∧ Hid (Below w0.heap.size w0 wr) ∧ Hid (Own wr g 4 n (boolCells (G j)))) (fun i _ => ml - (intOf i).toNat)
  case atStart => exact ⟨0, Nat.zero_le _, rfl, HB1, by rw [HG0.out]; exact HO1⟩
  case round =>
   clear HB1 HO1
   obtain ⟨j, hj, rfl, HBr, HOr⟩ := hrel
   have x2 := HX2.out _ HBr.out
   have hblt := HBL.out _ HBr.out
   by_cases hjm : j < ml
   ·obtain ⟨v, hv⟩ : ∃ v, ks[j]? = some v := ⟨_, gE (by rw [HML.out]; exact hjm)⟩
    have hvb := HKV.out v (List.mem_of_getElem? hv)
    obtain ⟨q, rfl⟩ := Int.eq_ofNat_of_zero_le hvb.1
    obtain ⟨b7, off7, rfl, hblt7, c7⟩ := int_at (HKR.out.below HBr.out) hjm hv
    have hjm' : (j : Int) < (ml : Int) := by omega
    have HS1 := hid (HGS.out j _ hv)
    rw [Int.toNat_natCast] at HS1
    have HF := hid (HC.out q (G j) wr (by omega) (by omega) (HGL.out j) HBr.out HOr.out)
    rw [← HS1.out] at HF
    clear hv hvb
    go_wp2_with fail
    refine HF.out.mono ?_
    rintro e w2 ⟨rfl, hb2, ho2⟩
    have HB2 := hid hb2
    have HO2 := hid ho2
    clear hb2 ho2 x2 hblt c7 hblt7 HF
    go_wp2
    go_roundw
    case rel => exact ⟨j + 1, by omega, by go_num, HB2, HO2⟩
    case measure => simp [intOf]; omega
   ·obtain rfl : j = ml := by omega
    go_wp2
    go_end0
    exact ⟨rfl, HBr.out, HOr.out⟩
theorem l22Mark_all (w0 : World) (A : Option Addr) (n c g : Nat) (ps : List PN) (hps : Nps w0 A n ps) (hg : Good ps) (hgg : w0.heap.size ≤ g) (hn : n ≤ 1048576) : ∀ f, MarkC w0 A n c g ps f := by
 intro f
 induction f with
 | zero => intro k o W h; omega
 | succ f ih => exact l22Mark_step w0 A n c g ps hps hg hgg hn f ih
theorem deep_pos {ps : List PN} (h : treeB ps = true) {k : Nat} (hk : k < ps.length) : (deepZ ps (k : Int) == 0) = false := by
 have ht := h
 unfold treeB at ht
 simp only [Bool.and_eq_true] at ht
 obtain ⟨_, _, h3, _⟩ := ht
 have hd : ¬ deepV ps (ps.length - 1) = 0 := by intro e; rw [e] at h3; cases h3
 rw [beq_eq_false_iff_ne]
 unfold deepZ
 rw [if_pos ⟨by omega, by omega⟩, Int.toNat_natCast]
 cases hl : deepsO ps (k + 1) with
 | none => exact absurd (deepV_none hl (show k + 1 ≤ (ps.length - 1) + 1 by omega)) hd
 | some l =>
  obtain ⟨h1, h2⟩ := deepsO_ok hl
  obtain ⟨x, hx⟩ : ∃ x, l[k]? = some x := ⟨_, gE (by omega)⟩
  rw [deepV_some hl hx]
  have := h2 x (List.mem_of_getElem? hx)
  omega
theorem Own.grown' {w w' : World} {g cap : Nat} {t : TypeId} {xs : List Value} {r : Option Nat} (h : Own w g t cap xs) (hg : w.grownBy w' r) (hr : ∀ q, r = some q → ∃ t' cs, Blk w q t' cs ∧ t' ≠ t) : Own w' g t cap xs := by
 obtain ⟨rest, hb, hs⟩ := h
 refine ⟨rest, hb.grown hg (fun e => ?_), hs⟩
 obtain ⟨t', cs, hb', hne⟩ := hr g e.symm
 exact blk_ne hb hb' (Ne.symm hne) rfl
theorem specUnder_any (A : Option Addr) (n c : Nat) (ps : List PN) (k : Nat) (w : World) (hps : Nps w A n ps) (hb : Hid (PNs ps)) (htr : treeB ps = true) (hk : k < n) :
  Calls prog 57 #[.slice A n c, .int .i64 k] w (IntsM w (undL ps k)) := by
 obtain ⟨i0, hi, hz0, hz1, hz2⟩ := info_parts infoInt
 have HII := hid (And.intro hi (And.intro hz0 (And.intro hz1 hz2)))
 obtain ⟨j0, hj, hy0, hy1, hy2⟩ := info_parts infoBool
 obtain ⟨m, hm, hm3, hg, hu⟩ := tree_one htr
 have hl := hps.len
 have hn : n ≤ 300 := by omega
 have HD := hid (fun (v : Int) (hv : deepZ ps (k : Int) = v) (W : World) (hW : Below w.heap.size w W) => show Calls prog 79 #[.slice A n c, .int .i64 k] W fun e w' => e = .returned (.int .i64 v) ∧ Below W.heap.size W w' by rw [← hv]; exact specDeepOf_any A n c ps k W (by omega) (hps.next hW) hb)
 obtain ⟨v, hv⟩ : ∃ v, deepZ ps (k : Int) = v := ⟨_, rfl⟩
 have hv0 := deep_pos htr (show k < ps.length by omega)
 rw [hv] at hv0
 have HD2 := hid (HD.out v hv)
 have HMk := hid (fun (W : World) (hW : Below w.heap.size w W) => l22Mark_all W A n c W.heap.size ps (hps.next hW) hg (Nat.le_refl _) (by omega) (k + 1) k (List.replicate n false) (W.alloc (.cells (madeCells #[.bool false] n) 4)) (by omega) hk (by simp) ((Below.refl _ _).alloc (Nat.le_refl _) _) (Own.falses n))
 have hmk := fun W => run_make_rowN (P := prog) 81 4 j0 _ underlying81 hj hy0 .i64 .i64 n n (Nat.le_refl _) (by rw [hy2]; omega) (by omega) W
 rw [hy1, Nat.mul_one] at hmk
 simp only [Value.cells] at hmk
 have hS := undL_spec hg (show k < ps.length by omega)
 rw [hl] at hS
 have hSl := l22F_len ps (k + 1) k (List.replicate n false)
 obtain ⟨S, hSS⟩ : ∃ S, l22F ps (k + 1) k (List.replicate n false) = S := ⟨_, rfl⟩
 rw [hSS] at HMk hS hSl
 rw [List.length_replicate] at hSl
 obtain ⟨F, hF⟩ : ∃ F, trueTo S = F := ⟨_, rfl⟩
 have HFS := hid (show ∀ i, F (i + 1) = F i ++ (if S.getD i false = true then [(i : Int)] else []) from fun i => by rw [← hF]; rfl)
 have HFL := hid (show ∀ i, (F i).length ≤ i from fun i => by rw [← hF]; exact trueTo_len S i)
 have HF0 := hid (show F 0 = [] by rw [← hF]; rfl)
 rw [hF] at hS
 rw [← hS]
 have HSL := hid hSl
 unfold IntsM
 clear hi hz0 hz1 hz2 hj hy0 hy1 hy2 hm hm3 hg hu hl HD hv hps hb htr hSS hF hS hSl
 go_enter func57, ntmps57
 go_wp2_with fail
 refine (HD2.out _ grow_).mono ?_
 rintro e w1 ⟨rfl, h1⟩
 have HO1 := hid (show Mine w1 w.heap.size 3 1 (some ⟨w.heap.size, 0, none⟩) 0 0 [] from Mine.next (own_empty w 3 1) h1)
 have HB1 := hid (below_next1 (Below.refl _ _) h1)
 clear h1 HD2
 go_wp2_with fail
 refine (HMk.out _ HB1.out).mono ?_
 rintro e w2 ⟨rfl, h2, ho2⟩
 have HO2 := hid (HO1.out.next h2)
 have HR2 := hid ho2
 have HB2 := hid (below_next HB1.out h2)
 clear h2 ho2 hmk HMk HO1
 go_wp2
 go_loopw [5, 7] (fun o x wr => ∃ (i : Nat) (A : Option Addr) (c : Nat), i ≤ n ∧ x = .int .i64 i ∧ o = .slice A (F i).length c ∧ Hid (Mine wr w.heap.size 3 1 A (F i).length c (intCells (F i))) ∧ Hid (Own wr w1.heap.size 4 n (boolCells S)) ∧ Hid (Below w.heap.size w wr)) (fun _ x _ => n - (intOf x).toNat)
 case atStart =>
  refine ⟨0, some ⟨w.heap.size, 0, none⟩, 0, Nat.zero_le _, rfl, ?_, ?_, HR2, HB2⟩
  all_goals rw [HF0.out]
  ·rfl
  ·exact HO2
 case round =>
  clear HO2 HR2 HB2
  obtain ⟨i, A3, c3, hi, rfl, rfl, HO, HR, HB⟩ := hrel
  have hfl := HFL.out i
  have hst := hid (HFS.out i)
  obtain ⟨xs, hxs⟩ : ∃ xs, F i = xs := ⟨_, rfl⟩
  rw [hxs] at HO hfl hst
  rw [hxs]
  obtain ⟨n1, hn1⟩ : ∃ n1, xs.length = n1 := ⟨_, rfl⟩
  have Hn1 := hid hn1
  rw [hn1] at HO hfl ⊢
  have HXS := hid hxs
  clear hn1 hxs
  have hbz := HB.out.size
  by_cases hin : i < n
  ·have c0 := bool_at HR.out (show i < S.length by rw [HSL.out]; exact hin)
   have cz := HR.out.lt
   have hi1 : (i : Int) < (n : Int) := by omega
   rcases bft (S.getD i false) with hb | hb
   ·rw [hb] at c0
    rw [if_pos hb] at hst
    clear hb
    go_wp2_with (at_builtin; (refine wpList_append_own _ rfl (.tmp 31) (.tmp 33) _ rfl w.heap.size 3 i0 (.int .i64 0) 1 8 underlying34 HII.out.1 HII.out.2.1 HII.out.2.2.1 HII.out.2.2.2 rfl (by decide) _ _ _ rfl (Mine.alloc HO.out _) ⟨wr.heap.size, 0, none⟩ 1 1 [.int .i64 i] rfl rfl (int_new _ _ _) (int_one _) (by unfold maxLen; omega) (by omega) (by simp; omega) ?_); intro v' w3 hown3 hg3 hnil3)
    have hr : ∀ q, (Value.slice A3 n1 c3).ownBlock = some q → w.heap.size ≤ q ∧ ∃ cs, Blk (wr.alloc (.cells #[.int .i64 i] 3)) q 3 cs := fun q e => by
     rw [ownBlk] at e
     exact ⟨(Mine.blk HO.out e).1, mine_blk' (Mine.alloc HO.out (.cells #[.int .i64 i] 3)) e⟩
    have HR3 := hid ((HR.out.alloc (.cells #[.int .i64 i] 3)).grown' hg3 (fun q e => by obtain ⟨_, cs, hk⟩ := hr q e; exact ⟨_, cs, hk, by decide⟩))
    have HB3 := hid ((HB.out.alloc hbz (.cells #[.int .i64 i] 3)).grown hg3 (HB.out.alloc hbz (.cells #[.int .i64 i] 3)).size (fun q e => (hr q e).1))
    obtain ⟨A5, c5, rfl, m5⟩ := Mine.of hown3
    rw [← ints_snoc] at m5
    have HO3 := hid m5
    clear hown3 hg3 hnil3 hr m5 HO HR HB c0 cz
    go_wp2
    go_roundw
    case rel => exact ⟨i + 1, A5, c5, by omega, by go_num, by rw [hst.out, lA, Hn1.out]; rfl, by rw [hst.out, lA, Hn1.out]; exact HO3, HR3, HB3⟩
    case measure => simp [intOf]; omega
   ·rw [hb] at c0
    rw [if_neg (by rw [hb]; decide), List.append_nil] at hst
    clear hb
    go_wp2
    go_roundw
    case rel => exact ⟨i + 1, A3, c3, by omega, by go_num, by rw [hst.out, Hn1.out], by rw [hst.out, Hn1.out]; exact HO, HR, HB⟩
    case measure => simp [intOf]; omega
  ·obtain rfl : i = n := by omega
   go_wp2
   go_ret
   rw [HXS.out, Hn1.out]
   exact ⟨A3, c3, rfl, HO.out, HB.out⟩
theorem uTo_len (ps : List PN) (k : Nat) : ∀ j, (uTo ps k j).length = k + 1 := by
 have hs : ∀ (l : List Int) (B : List Bool), (markB_ B l).length = B.length := by
  intro l
  induction l with
  | nil => intro B; rfl
  | cons v l ih => intro B; show (markB_ (B.set v.toNat true) l).length = _; rw [ih, List.length_set]
 intro j
 induction j with
 | zero => simp [uTo]
 | succ j ih =>
  rw [uTo]
  split
  ·split
   ·exact ih
   ·rw [hs, ih]
  ·exact ih
theorem underOf_any (A : Option Addr) (n c : Nat) (ps : List PN) (k : Nat) (w : World) (hps : Nps w A n ps) (hg : Good ps) (hn : n ≤ 1048576) (hk : k < n) :
  Calls prog 91 #[.slice A n c, .int .i64 k] w fun e w' => e = .returned (.slice (some ⟨w.heap.size, 0, none⟩) (k + 1) (k + 1)) ∧ Own w' w.heap.size 4 (k + 1) (boolCells (uV ps k)) ∧ Below w.heap.size w w' := by
 obtain ⟨j0, hj, hy0, hy1, hy2⟩ := info_parts infoBool
 have hmk := fun W => run_make_rowN (P := prog) 81 4 j0 _ underlying81 hj hy0 .i64 .i64 (k + 1) (k + 1) (Nat.le_refl _) (by rw [hy2]; omega) (by omega) W
 rw [hy1, Nat.mul_one] at hmk
 simp only [Value.cells] at hmk
 have e9 : ((k + 1 : Nat) : Int) = (k : Int) + 1 := by omega
 rw [e9] at hmk
 have HV := hid (show uV ps k = uTo ps k (k + 1) from rfl)
 have HS := hid (show ∀ q, q < k + 1 → uTo ps k (k + 1 - q) = if (uTo ps k (k + 1 - (q + 1))).getD q false = true then (match ps[q]? with | none => uTo ps k (k + 1 - (q + 1)) | some p => markB_ (uTo ps k (k + 1 - (q + 1))) p.kids) else uTo ps k (k + 1 - (q + 1)) from fun q hq => by
  have e : k + 1 - q = (k + 1 - (q + 1)) + 1 := by omega
  have e2 : k - (k + 1 - (q + 1)) = q := by omega
  rw [e]
  conv => lhs; rw [uTo]
  rw [e2]
  try rfl)
 have HLn := hid (uTo_len ps k)
 have HG := hid hg
 have HPS := hid hps
 rw [HV.out]
 have HZ := hid (Own.falses (w := w) (e := 4) (k + 1))
 have HZ0 := hid (show uTo ps k 0 = (List.replicate (k + 1) false).set k true from rfl)
 obtain ⟨u0, hu0⟩ := HZ.out.there (show k < k + 1 by omega)
 have huf := HZ.out.frozen
 have huz := HZ.out.lt
 have HZ1 := hid (bools_put (x := true) HZ.out (show k < (List.replicate (k + 1) false).length by simp))
 rw [← HZ0.out] at HZ1
 have HB1 := hid (((Below.refl w.heap.size w).alloc (Nat.le_refl _) (.cells (madeCells #[.bool false] (k + 1)) 4)).setCell (show w.heap.size ≤ (⟨w.heap.size, k, none⟩ : Addr).block from Nat.le_refl _) (.bool true))
 clear hj hy0 hy1 hy2 hg hps HV HZ HZ0
 go_enter func91, ntmps91
 go_upto_region 3 with fail
 clear hmk u0 hu0 huf huz
 rw [World.setCell_alloc_new] at HB1 HZ1
 generalize w.alloc (.cells ((madeCells #[.bool false] (k + 1)).setIfInBounds k (.bool true)) 4) = W1 at HB1 HZ1 ⊢
 go_wp2
 go_loopw [6] (fun i wr => ∃ (q : Nat) (x : Int), q ≤ k + 1 ∧ x = (q : Int) - 1 ∧ i = .int .i64 x ∧ Hid (Own wr w.heap.size 4 (k + 1) (boolCells (uTo ps k (k + 1 - q)))) ∧ Below w.heap.size w wr) (fun i _ => (intOf i + 1).toNat)
 case atStart => exact ⟨k + 1, (k : Int), Nat.le_refl _, by omega, by go_num, by rw [Nat.sub_self]; exact HZ1, HB1.out⟩
 case round =>
  clear HZ1 HB1
  obtain ⟨q, x, hq, hx, rfl, HO, hb⟩ := hrel
  rcases Nat.eq_zero_or_pos q with rfl | hq0
  ·have hx1 : ¬ (0 : Int) ≤ x := by omega
   have HO' := HO
   rw [Nat.sub_zero] at HO'
   clear hx HO
   go_wp2
   go_ret
   exact ⟨rfl, HO'.out, hb⟩
  ·obtain ⟨z, rfl⟩ : ∃ z, q = z + 1 := ⟨q - 1, by omega⟩
   obtain rfl : x = (z : Int) := by omega
   have HSz := hid (HS.out z (by omega))
   obtain ⟨p, hp⟩ := HPS.out.get (show z < n by omega)
   have hBl := HLn.out (k + 1 - (z + 1))
   obtain ⟨B, hB⟩ : ∃ B, uTo ps k (k + 1 - (z + 1)) = B := ⟨_, rfl⟩
   rw [hB] at HO HSz hBl
   rw [hp] at HSz
   dsimp only at HSz
   obtain ⟨hk12, hkv⟩ := HG.out z p hp
   obtain ⟨ks, hks⟩ : ∃ ks, p.kids = ks := ⟨_, rfl⟩
   obtain ⟨ml, hml⟩ : ∃ ml, ks.length = ml := ⟨_, rfl⟩
   rw [hks] at HSz hk12 hkv
   have hml12 : ml ≤ 12 := by omega
   obtain ⟨b, off, A', c', rfl, hblt0, _, _, y2, _, _, hkr⟩ := HPS.out.atc (show z < n by omega) hp
   rw [hks, hml] at y2 hkr
   have x2 := ((bcell hb).1 _ _ hblt0).trans y2
   have hblt : b < wr.heap.size := by have := hb.size; omega
   have c0 := bool_at HO.out (show z < B.length by omega)
   have cz := HO.out.lt
   have hz0 : (0 : Int) ≤ (z : Int) := by omega
   have hz1 : (z : Int) < (k : Int) + 1 := by omega
   have hz2 : (z : Int) < (n : Int) := by omega
   have HKR := hid hkr
   have HML := hid hml
   have HKV := hid hkv
   clear hx hp hks hml hB hkr y2 hkv
   rcases bft (B.getD z false) with hm | hm
   ·rw [hm] at c0
    rw [if_pos hm] at HSz
    obtain ⟨G, hG⟩ : ∃ G, (fun i => markB_ B (ks.take i)) = G := ⟨_, rfl⟩
    have HE := hid (show uTo ps k (k + 1 - z) = G ml by rw [HSz.out, ← hG]; dsimp only; rw [← HML.out, List.take_length])
    have HG0 := hid (show G 0 = B by rw [← hG]; rfl)
    have HGS := hid (show ∀ (i : Nat) (v : Int), ks[i]? = some v → G (i + 1) = (G i).set v.toNat true from fun i v hv => by
     rw [← hG]
     dsimp only
     unfold markB_
     rw [List.take_add_one, hv, Option.toList_some, List.foldl_append]
     rfl)
    have HGL := hid (show ∀ i, (G i).length = k + 1 from fun i => by
     rw [← hG]
     have key : ∀ (l : List Int) (o : List Bool), (markB_ o l).length = o.length := by
      intro l
      induction l with
      | nil => intro o; rfl
      | cons v l ih2 => intro o; show (markB_ (o.set v.toNat true) l).length = _; rw [ih2, List.length_set]
     dsimp only
     rw [key, hBl])
    clear hm hG HSz
    go_upto_region 8 with fail
    clear c0 cz
    go_wp2
    go_loopw [31] (fun i wr => ∃ j : Nat, j ≤ ml ∧ i = .int .i64 j ∧ Hid (Own wr w.heap.size 4 (k + 1) (boolCells (G j))) ∧ Below w.heap.size w wr) (fun i _ => ml - (intOf i).toNat)
    case atStart => exact ⟨0, Nat.zero_le _, rfl, by rw [HG0.out]; exact HO, hb⟩
    case round =>
     clear HO hb x2 hblt
     obtain ⟨j, hj, rfl, HO2, hb2⟩ := hrel
     by_cases hjm : j < ml
     ·obtain ⟨v, hv⟩ : ∃ v, ks[j]? = some v := ⟨_, gE (by rw [HML.out]; exact hjm)⟩
      have hvb := HKV.out v (List.mem_of_getElem? hv)
      obtain ⟨y, rfl⟩ := Int.eq_ofNat_of_zero_le hvb.1
      obtain ⟨b9, off9, rfl, hblt9, c9⟩ := int_at (HKR.out.below hb2) hjm hv
      have hjm' : (j : Int) < (ml : Int) := by omega
      have hy1 : (y : Int) < (k : Int) + 1 := by omega
      have HGj := hid (HGS.out j _ hv)
      rw [Int.toNat_natCast] at HGj
      have HO3 := hid (bools_put (x := true) HO2.out (show y < (G j).length by rw [HGL.out]; omega))
      rw [← HGj.out] at HO3
      obtain ⟨u0, hu0⟩ := HO2.out.there (show y < k + 1 by omega)
      have huf := HO2.out.frozen
      have huz := HO2.out.lt
      have hb3 := hid (hb2.setCell (show w.heap.size ≤ (⟨w.heap.size, y, none⟩ : Addr).block from Nat.le_refl _) (.bool true))
      clear hv hvb
      go_wp2
      go_roundw
      case rel => exact ⟨j + 1, by omega, by go_num, HO3, hb3.out⟩
      case measure => simp [intOf]; omega
     ·obtain rfl : j = ml := by omega
      rw [← HE.out] at HO2
      go_wp2
      exact ⟨⟨z, (z : Int) - 1, by omega, rfl, rfl, HO2, hb2⟩, by simp [intOf]⟩
   ·rw [hm] at c0
    rw [if_neg (by rw [hm]; decide)] at HSz
    clear hm
    go_wp2
    go_roundw
    case rel => exact ⟨z, (z : Int) - 1, by omega, rfl, by go_num, by rw [HSz.out]; exact HO, hb⟩
    case measure => simp [intOf]
theorem implUnder_any (A : Option Addr) (n c : Nat) (ps : List PN) (k : Nat) (w : World) (hps : Nps w A n ps) (hb : Hid (PNs ps)) (htr : treeB ps = true) (hk : k < n) :
  Calls prog 60 #[.slice A n c, .int .i64 k] w (IntsM w (undL ps k)) := by
 obtain ⟨i0, hi, hz0, hz1, hz2⟩ := info_parts infoInt
 have HII := hid (And.intro hi (And.intro hz0 (And.intro hz1 hz2)))
 obtain ⟨m, hm, hm3, hg, hu⟩ := tree_one htr
 have hl := hps.len
 have hn : n ≤ 300 := by omega
 have HD := hid (fun (v : Int) (hv : deepZ ps (k : Int) = v) (W : World) (hW : Below w.heap.size w W) => show Calls prog 90 #[.slice A n c, .int .i64 k] W fun e w' => e = .returned (.int .i64 v) ∧ Below W.heap.size W w' by rw [← hv]; exact implDeepOf_any A n c ps k W (by omega) (hps.next hW) hb)
 obtain ⟨v, hv⟩ : ∃ v, deepZ ps (k : Int) = v := ⟨_, rfl⟩
 have hv0 := deep_pos htr (show k < ps.length by omega)
 rw [hv] at hv0
 have HD2 := hid (HD.out v hv)
 have HMk := hid (fun (W : World) (hW : Below w.heap.size w W) => underOf_any A n c ps k W (hps.next hW) hg (by omega) hk)
 have hSl := uV_len hg (show k < ps.length by omega)
 have hS : trueTo (uV ps k) (k + 1) = undL ps k := rfl
 obtain ⟨S, hSS⟩ : ∃ S, uV ps k = S := ⟨_, rfl⟩
 rw [hSS] at HMk hS hSl
 obtain ⟨F, hF⟩ : ∃ F, trueTo S = F := ⟨_, rfl⟩
 have HFS := hid (show ∀ i, F (i + 1) = F i ++ (if S.getD i false = true then [(i : Int)] else []) from fun i => by rw [← hF]; rfl)
 have HFL := hid (show ∀ i, (F i).length ≤ i from fun i => by rw [← hF]; exact trueTo_len S i)
 have HF0 := hid (show F 0 = [] by rw [← hF]; rfl)
 rw [hF] at hS
 rw [← hS]
 have HSL := hid hSl
 unfold IntsM
 have hkn : k + 1 ≤ 300 := by omega
 clear hi hz0 hz1 hz2 hm hm3 hg hu hl HD hv hps hb htr hSS hF hS hSl
 go_enter func60, ntmps60
 go_wp2_with fail
 refine (HD2.out _ grow_).mono ?_
 rintro e w1 ⟨rfl, h1⟩
 have HB1 := hid h1
 clear h1 HD2
 go_wp2_with fail
 refine (HMk.out _ HB1.out).mono ?_
 rintro e w2 ⟨rfl, ho2, h2⟩
 have HO2 := hid (show Mine w2 w.heap.size 3 1 none 0 0 [] from Mine.mk_nil _ _ _ _)
 have HR2 := hid ho2
 have HB2 := hid (below_next HB1.out h2)
 clear h2 ho2 HMk HB1
 go_wp2
 go_loopw [5, 16] (fun o x wr => ∃ (i : Nat) (A : Option Addr) (c : Nat), i ≤ k + 1 ∧ x = .int .i64 i ∧ o = .slice A (F i).length c ∧ Hid (Mine wr w.heap.size 3 1 A (F i).length c (intCells (F i))) ∧ Hid (Own wr w1.heap.size 4 (k + 1) (boolCells S)) ∧ Hid (Below w.heap.size w wr)) (fun _ x _ => k + 1 - (intOf x).toNat)
 case atStart =>
  refine ⟨0, none, 0, Nat.zero_le _, rfl, ?_, ?_, HR2, HB2⟩
  all_goals rw [HF0.out]
  ·rfl
  ·exact HO2
 case round =>
  clear HO2 HR2 HB2
  obtain ⟨i, A3, c3, hi, rfl, rfl, HO, HR, HB⟩ := hrel
  have hfl := HFL.out i
  have hst := hid (HFS.out i)
  obtain ⟨xs, hxs⟩ : ∃ xs, F i = xs := ⟨_, rfl⟩
  rw [hxs] at HO hfl hst
  rw [hxs]
  obtain ⟨n1, hn1⟩ : ∃ n1, xs.length = n1 := ⟨_, rfl⟩
  have Hn1 := hid hn1
  rw [hn1] at HO hfl ⊢
  have HXS := hid hxs
  clear hn1 hxs
  have hbz := HB.out.size
  by_cases hin : i < k + 1
  ·have c0 := bool_at HR.out (show i < S.length by rw [HSL.out]; exact hin)
   have cz := HR.out.lt
   have hi1 : (i : Int) < (k : Int) + 1 := by omega
   rcases bft (S.getD i false) with hb | hb
   ·rw [hb] at c0
    rw [if_pos hb] at hst
    clear hb
    go_wp2_with (at_builtin; (refine wpList_append_own _ rfl (.tmp 22) (.tmp 24) _ rfl w.heap.size 3 i0 (.int .i64 0) 1 8 underlying34 HII.out.1 HII.out.2.1 HII.out.2.2.1 HII.out.2.2.2 rfl (by decide) _ _ _ rfl (Mine.alloc HO.out _) ⟨wr.heap.size, 0, none⟩ 1 1 [.int .i64 i] rfl rfl (int_new _ _ _) (int_one _) (by unfold maxLen; omega) (by omega) (by simp; omega) ?_); intro v' w3 hown3 hg3 hnil3)
    have hr : ∀ q, (Value.slice A3 n1 c3).ownBlock = some q → w.heap.size ≤ q ∧ ∃ cs, Blk (wr.alloc (.cells #[.int .i64 i] 3)) q 3 cs := fun q e => by
     rw [ownBlk] at e
     exact ⟨(Mine.blk HO.out e).1, mine_blk' (Mine.alloc HO.out (.cells #[.int .i64 i] 3)) e⟩
    have HR3 := hid ((HR.out.alloc (.cells #[.int .i64 i] 3)).grown' hg3 (fun q e => by obtain ⟨_, cs, hk⟩ := hr q e; exact ⟨_, cs, hk, by decide⟩))
    have HB3 := hid ((HB.out.alloc hbz (.cells #[.int .i64 i] 3)).grown hg3 (HB.out.alloc hbz (.cells #[.int .i64 i] 3)).size (fun q e => (hr q e).1))
    obtain ⟨A5, c5, rfl, m5⟩ := Mine.of hown3
    rw [← ints_snoc] at m5
    have HO3 := hid m5
    clear hown3 hg3 hnil3 hr m5 HO HR HB c0 cz
    go_wp2
    go_roundw
    case rel => exact ⟨i + 1, A5, c5, by omega, by go_num, by rw [hst.out, lA, Hn1.out]; rfl, by rw [hst.out, lA, Hn1.out]; exact HO3, HR3, HB3⟩
    case measure => simp [intOf]; omega
   ·rw [hb] at c0
    rw [if_neg (by rw [hb]; decide), List.append_nil] at hst
    clear hb
    go_wp2
    go_roundw
    case rel => exact ⟨i + 1, A3, c3, by omega, by go_num, by rw [hst.out, Hn1.out], by rw [hst.out, Hn1.out]; exact HO, HR, HB⟩
    case measure => simp [intOf]; omega
  ·obtain rfl : i = k + 1 := by omega
   go_wp2
   go_ret
   rw [HXS.out, Hn1.out]
   exact ⟨A3, c3, rfl, HO.out, HB.out⟩
end Go.Proofs.YtgbikafalcbibaaGreatDoor

/-
  Put together by program (shake.py): FiL.
-/
import Derived.Test.YtgbikafalcbibaaGreatDoorMiYD
import Derived.Test.YtgbikafalcbibaaGreatDoorMiV
set_option maxRecDepth 100000
set_option maxHeartbeats 25600000
set_option linter.unusedVariables false
set_option linter.unusedSimpArgs false
namespace Go.Proofs.YtgbikafalcbibaaGreatDoor
open Go.RowKit
theorem kf20 {kind : Int} {l : List Int} (h : kfB kind l = true) (hm : (20 : Int) ∈ l) : kind = 21 ∨ kind = 22 := by
 have ha : ∀ (p : Int → Bool), p 20 = false → l.all p = true → False := fun p hp ha => by
  have := List.all_eq_true.1 ha _ hm; rw [hp] at this; cases this
 have hd : ∀ (p q : Int → Bool), p 20 = false → q 20 = false → headB p l = true → (l.drop 1).all q = true → False := fun p q hp hq h1 h2 => by
  cases l with
  | nil => cases hm
  | cons x l =>
   rcases List.mem_cons.1 hm with rfl | hm
   ·have h3 : p 20 = true := h1
    rw [hp] at h3; cases h3
   ·have := List.all_eq_true.1 h2 _ (by simpa using hm); rw [hq] at this; cases this
 have hl : ∀ (p : Int → Bool), p 20 = false → lastB p l = true → False := fun p hp h1 => by
  obtain ⟨m, hml⟩ : ∃ m, l.length = m + 1 := ⟨l.length - 1, by have := List.length_pos_of_mem hm; omega⟩
  obtain ⟨x, hx⟩ : ∃ x, l[m]? = some x := ⟨_, gE (by omega)⟩
  rw [lastB_some hml hx, Bool.and_eq_true] at h1
  obtain ⟨j, hj, e⟩ := List.mem_iff_getElem.1 hm
  by_cases hjm : j = m
  ·subst hjm
   rw [List.getElem?_eq_getElem hj, e] at hx
   obtain rfl := Option.some.inj hx
   rw [hp] at h1; cases h1.1
  ·have h3 : (20 : Int) ∈ l.take m := List.mem_take_iff_getElem.2 ⟨j, by omega, e⟩
   have := List.all_eq_true.1 h1.2 _ h3
   revert this; decide
 refine Decidable.byContradiction fun hne => ?_
 have hz : l.length ≠ 0 := fun e => by rw [List.length_eq_zero_iff.1 e] at hm; cases hm
 unfold kfB at h
 by_cases c0 : kind = 1 ∨ kind = 2 ∨ kind = 3 ∨ kind = 19
 ·rw [if_pos c0] at h; exact hz (of_decide_eq_true h)
 rw [if_neg c0] at h
 by_cases c1 : kind = 4
 ·rw [if_pos c1] at h; exact ha _ (by decide) h
 rw [if_neg c1] at h
 by_cases c2 : kind = 5
 ·rw [if_pos c2] at h; rw [Bool.and_eq_true] at h; exact ha _ (by decide) h.2
 rw [if_neg c2] at h
 by_cases c3 : kind = 7
 ·rw [if_pos c3] at h; rw [Bool.and_eq_true] at h; exact ha _ (by decide) h.2
 rw [if_neg c3] at h
 by_cases c4 : kind = 8
 ·rw [if_pos c4] at h; rw [Bool.and_eq_true] at h; exact ha _ (by decide) h.2
 rw [if_neg c4] at h
 by_cases c5 : kind = 6 ∨ kind = 11 ∨ kind = 13 ∨ kind = 14
 ·rw [if_pos c5] at h; rw [Bool.and_eq_true] at h; exact ha _ (by decide) h.2
 rw [if_neg c5] at h
 by_cases c6 : kind = 12 ∨ kind = 15
 ·rw [if_pos c6] at h; rw [Bool.and_eq_true] at h; exact ha _ (by decide) h.2
 rw [if_neg c6] at h
 by_cases c7 : kind = 9
 ·rw [if_pos c7] at h; exact hl _ (by decide) h
 rw [if_neg c7] at h
 by_cases c8 : kind = 10
 ·rw [if_pos c8] at h; rw [Bool.and_eq_true, Bool.and_eq_true] at h; exact hd _ _ (by decide) (by decide) h.1.2 h.2
 rw [if_neg c8] at h
 by_cases c9 : kind = 16
 ·rw [if_pos c9] at h; rw [Bool.and_eq_true, Bool.and_eq_true] at h; exact hd _ _ (by decide) (by decide) h.1.2 h.2
 rw [if_neg c9] at h
 by_cases c10 : kind = 17
 ·rw [if_pos c10] at h; rw [Bool.and_eq_true, Bool.and_eq_true] at h; exact hd _ _ (by decide) (by decide) h.1.2 h.2
 rw [if_neg c10] at h
 by_cases c11 : kind = 18
 ·rw [if_pos c11] at h; exact ha _ (by decide) h
 rw [if_neg c11] at h
 by_cases c12 : kind = 20
 ·rw [if_pos c12] at h; exact hl _ (by decide) h
 rw [if_neg c12] at h
 rw [if_neg (fun e => hne (.inl e)), if_neg (fun e => hne (.inr e))] at h
 cases h
def memStep (ps : List PN) (b : List Bool) (v : Int) : List Bool := b.set v.toNat (kindAt ps v != 19)
def memTo (ps : List PN) : Nat → List Bool
 | 0 => List.replicate ps.length false
 | i + 1 => match ps[i]? with | none => memTo ps i | some p => if (p.kind == 22 || p.kind == 21) = true then p.kids.foldl (memStep ps) (memTo ps i) else memTo ps i
theorem memStep_len (ps : List PN) : ∀ (l : List Int) (b : List Bool), (l.foldl (memStep ps) b).length = b.length := by
 intro l
 induction l with
 | nil => intro b; rfl
 | cons v l ih => intro b; rw [List.foldl_cons, ih]; unfold memStep; rw [List.length_set]
theorem memTo_len (ps : List PN) : ∀ i, (memTo ps i).length = ps.length := by
 intro i
 induction i with
 | zero => simp [memTo]
 | succ i ih =>
  rw [memTo]
  split
  ·exact ih
  ·split
   ·rw [memStep_len, ih]
   ·exact ih
theorem memStep_yes {ps : List PN} {j : Nat} (hk : (kindAt ps (j : Int) == 19) = false) : ∀ (l : List Int) (b : List Bool), (∀ v ∈ l, 0 ≤ v) → j < b.length → (b.getD j false = true ∨ (j : Int) ∈ l) → (l.foldl (memStep ps) b).getD j false = true := by
 intro l
 induction l with
 | nil =>
      intro b _ _ h; rcases h with h | h
      ·exact h
      ·cases h
 | cons v l ih =>
  intro b hv hj h
  rw [List.foldl_cons]
  refine ih _ (fun u hu => hv u (List.mem_cons_of_mem _ hu)) (by unfold memStep; rw [List.length_set]; exact hj) ?_
  have hv0 := hv v (by simp)
  by_cases hjv : (j : Int) = v
  ·refine .inl ?_
   unfold memStep
   have e : v.toNat = j := by omega
   rw [e, ← hjv, List.getD_eq_getElem?_getD, List.getElem?_set_self hj]
   show (kindAt ps (j : Int) != 19) = true
   unfold bne; rw [hk]; rfl
  ·rcases h with h | h
   ·refine .inl ?_
    unfold memStep
    rw [List.getD_eq_getElem?_getD, List.getElem?_set_ne (by omega), ← List.getD_eq_getElem?_getD]; exact h
   ·rcases List.mem_cons.1 h with h | h
    ·exact absurd h hjv
    ·exact .inr h
theorem mem_method {ps : List PN} (htr : treeB ps = true) {j : Nat} {q : PN} (hq : ps[j]? = some q) (h20 : q.kind = 20) : (memTo ps ps.length).getD j false = true := by
 obtain ⟨m, hm, hm3, hg, hu⟩ := tree_one htr
 have hjl := (List.getElem?_eq_some_iff.1 hq).1
 have ht := htr
 unfold treeB at ht
 simp only [Bool.and_eq_true] at ht
 obtain ⟨_, h22, h3, _⟩ := ht
 have hd : ¬ deepV ps (ps.length - 1) = 0 := by intro e; rw [e] at h3; cases h3
 have hkj : kindAt ps (j : Int) = 20 := by rw [kindAt_some hq, h20]
 have hjm : j < m := by
  rcases Nat.lt_or_ge j m with h | h
  ·exact h
  ·obtain rfl : j = m := by omega
   have e : ((ps.length : Int) - 1) = (j : Int) := by omega
   rw [e, hkj] at h22
   exact absurd h22 (by decide)
 obtain ⟨k, p, hk, hp, hv⟩ := a_parent hu hjm
 have hb := deep_all hd k (by omega)
 have hkf : kfB p.kind (kindsOf ps p.kids) = true := by
  unfold nodeB at hb
  rw [hp] at hb
  simp only [Bool.and_eq_true] at hb
  exact hb.2.1
 have hpk := kf20 hkf (by unfold kindsOf; exact List.mem_map.2 ⟨_, hv, hkj⟩)
 have hpb : (p.kind == 22 || p.kind == 21) = true := by rcases hpk with h | h <;> rw [h] <;> decide
 have h19 : (kindAt ps (j : Int) == 19) = false := by rw [hkj]; decide
 have key : ∀ i, k + 1 ≤ i → i ≤ ps.length → (memTo ps i).getD j false = true := by
  intro i
  induction i with
  | zero => intro h; omega
  | succ i ih =>
   intro hi hil
   obtain ⟨p', hp'⟩ : ∃ p', ps[i]? = some p' := ⟨_, gE (by omega)⟩
   rw [memTo, hp']
   dsimp only
   by_cases hik : i = k
   ·subst hik
    rw [hp] at hp'
    obtain rfl := Option.some.inj hp'
    rw [if_pos hpb]
    exact memStep_yes h19 _ _ (fun v hv => ((hg _ _ hp).2 v hv).1) (by rw [memTo_len]; exact hjl) (.inr hv)
   ·have h := ih (by omega) (by omega)
    split
    ·exact memStep_yes h19 _ _ (fun v hv => ((hg _ _ hp').2 v hv).1) (by rw [memTo_len]; exact hjl) (.inl h)
    ·exact h
 exact key _ (by omega) (Nat.le_refl _)
def unStep (t : ByteArray) (ps : List PN) (v : Int) : List FindingD := match ps[v.toNat]? with | none => [] | some p => if (p.kind == 20) = true then (unusedP ps v.toNat).map (fun s => ((2 : Int), lineN t (firstV ps v.toNat), s)) else []
def unusedTo (t : ByteArray) (ps : List PN) : Nat → List FindingD
 | 0 => []
 | k + 1 => unusedTo t ps k ++ unStep t ps (k : Int)
def findUnused (t : ByteArray) : List FindingD := match readP t with | none => [] | some ps => unusedTo t ps ps.length
theorem unStep_len (t : ByteArray) (ps : List PN) (k : Nat) : (unStep t ps (k : Int)).length ≤ k + 1 := by
 unfold unStep
 split
 ·simp
 ·split
  ·rw [List.length_map, Int.toNat_natCast]
   exact Nat.le_trans (List.length_filter_le _ _) (letsP_len ps k)
  ·simp
theorem unusedTo_len (t : ByteArray) (ps : List PN) : ∀ k, k ≤ 300 → (unusedTo t ps k).length ≤ k * 301 := by
 intro k
 induction k with
 | zero => intro _; simp [unusedTo]
 | succ k ih =>
  intro hk
  have h1 := unStep_len t ps k
  have h2 := ih (by omega)
  rw [unusedTo, lA]
  omega
theorem unStep_20 {t : ByteArray} {ps : List PN} {k : Nat} {p : PN} (hp : ps[k]? = some p) (h : (p.kind == 20) = true) : unStep t ps (k : Int) = (unusedP ps k).map (fun s => ((2 : Int), lineN t (firstV ps k), s)) := by
 unfold unStep; rw [Int.toNat_natCast, hp]; dsimp only; rw [if_pos h]
theorem unStep_no {t : ByteArray} {ps : List PN} {k : Nat} {p : PN} (hp : ps[k]? = some p) (h : (p.kind == 20) = false) : unStep t ps (k : Int) = [] := by
 unfold unStep; rw [Int.toNat_natCast, hp]; dsimp only; rw [h]; rfl
theorem members_flat {t : ByteArray} {ps : List PN} (htr : treeB ps = true) : (trueTo (memTo ps ps.length) ps.length).flatMap (unStep t ps) = unusedTo t ps ps.length := by
 have key : ∀ i, i ≤ ps.length → (trueTo (memTo ps ps.length) i).flatMap (unStep t ps) = unusedTo t ps i := by
  intro i
  induction i with
  | zero => intro _; rfl
  | succ i ih =>
   intro hi
   obtain ⟨p, hp⟩ : ∃ p, ps[i]? = some p := ⟨_, gE (by omega)⟩
   rw [trueTo, unusedTo, List.flatMap_append, ih (by omega)]
   congr 1
   by_cases hb : (memTo ps ps.length).getD i false = true
   ·rw [if_pos hb]; simp
   ·rw [if_neg hb]
    cases h20 : (p.kind == 20) with
    | true => exact absurd (mem_method htr hp (by simpa using h20)) hb
    | false => rw [unStep_no hp h20]; rfl
 exact key _ (Nat.le_refl _)
theorem findUnused_len (t : ByteArray) : (findUnused t).length ≤ 90300 := by
 unfold findUnused
 split
 ·simp
 ·next ps h =>
  have h3 := (readP_some h).2.1
  have h1 := unusedTo_len t ps ps.length h3
  have := Nat.mul_le_mul_right 301 h3
  omega
end Go.Proofs.YtgbikafalcbibaaGreatDoor

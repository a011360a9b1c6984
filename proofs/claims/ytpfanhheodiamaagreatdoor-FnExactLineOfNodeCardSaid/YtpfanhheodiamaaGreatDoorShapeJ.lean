
/-
  Plain laws: the program's and the reference's ways to ask whether a node is right say the same. Written by program (gen_shapej.py).
-/
import Derived.Test.YtpfanhheodiamaaGreatDoorShapeI
namespace Go.Proofs.YtpfanhheodiamaaGreatDoor
open Go.RowKit
set_option linter.unusedVariables false
set_option linter.unusedSimpArgs false

theorem allIB_and (p q : Nat → Int → Bool) (l : List Int) : (allIB p l && allIB q l) = allIB (fun i v => p i v && q i v) l := by
  cases h : allIB (fun i v => p i v && q i v) l with
  | true =>
    have h1 : allIB p l = true := allIB_yes (fun j x hx => by have := allIB_at h hx; simp only [Bool.and_eq_true] at this; exact this.1)
    have h2 : allIB q l = true := allIB_yes (fun j x hx => by have := allIB_at h hx; simp only [Bool.and_eq_true] at this; exact this.2)
    rw [h1, h2]; rfl
  | false =>
    cases h1 : allIB p l with
    | false => rfl
    | true =>
      cases h2 : allIB q l with
      | false => rfl
      | true =>
        rw [allIB_yes (fun j x hx => by simp only [Bool.and_eq_true]; exact ⟨allIB_at h1 hx, allIB_at h2 hx⟩)] at h
        cases h
theorem allIB_nil (p : Nat → Int → Bool) : allIB p [] = true := rfl
theorem bool_iff {a b : Bool} (h : a = true ↔ b = true) : a = b := by
  cases a <;> cases b <;> simp at h ⊢
theorem allIB_iff {p : Nat → Int → Bool} {l : List Int} : allIB p l = true ↔ ∀ j x, l[j]? = some x → p j x = true := ⟨fun h j x hx => allIB_at h hx, allIB_yes⟩
section
variable {ps : List PN} {kids : List Int}
theorem kinds_len (ps : List PN) (kids : List Int) : (kindsOf ps kids).length = kids.length := by unfold kindsOf; rw [List.length_map]
theorem kinds_all (p : Int → Bool) : (kindsOf ps kids).all p = allIB (fun i v => p (kindAt ps v)) kids := by
  apply bool_iff
  rw [allIB_iff, List.all_eq_true]
  unfold kindsOf
  constructor
  · intro h j x hx
    exact h _ (List.mem_map.2 ⟨x, List.mem_of_getElem? hx, rfl⟩)
  · intro h y hy
    obtain ⟨x, hx, rfl⟩ := List.mem_map.1 hy
    obtain ⟨j, hj⟩ := List.mem_iff_getElem?.1 hx
    exact h j x hj
theorem kinds_get (ps : List PN) (kids : List Int) (j : Nat) : (kindsOf ps kids)[j]? = (kids[j]?).map (kindAt ps) := by unfold kindsOf; rw [List.getElem?_map]
theorem all_get {l : List Int} {p : Int → Bool} : l.all p = true ↔ ∀ (j : Nat) x, l[j]? = some x → p x = true := by
  rw [List.all_eq_true]
  constructor
  · intro h j x hx; exact h x (List.mem_of_getElem? hx)
  · intro h x hx
    obtain ⟨j, hj⟩ := List.mem_iff_getElem?.1 hx
    exact h j x hj
theorem kinds_head (p q : Int → Bool) (h : 1 ≤ kids.length) : (headB p (kindsOf ps kids) && ((kindsOf ps kids).drop 1).all q) = allIB (fun i v => if 0 < i then q (kindAt ps v) else p (kindAt ps v)) kids := by
  match kids, h with
  | x :: r, _ =>
    have e0 : headB p (kindsOf ps (x :: r)) = p (kindAt ps x) := rfl
    rw [e0]
    apply bool_iff
    rw [allIB_iff, Bool.and_eq_true, all_get]
    constructor
    · rintro ⟨h1, h2⟩ j v hv
      cases j with
      | zero => simp at hv; subst hv; simpa using h1
      | succ j =>
        simp only [Nat.zero_lt_succ, if_true]
        refine h2 j _ ?_
        rw [List.getElem?_drop, kinds_get, Nat.add_comm 1 j, hv]; rfl
    · intro h
      refine ⟨by simpa using h 0 x rfl, fun j v hv => ?_⟩
      rw [List.getElem?_drop, kinds_get, Nat.add_comm 1 j] at hv
      obtain ⟨u, hu, rfl⟩ := Option.map_eq_some_iff.1 hv
      have := h (j + 1) u hu
      simpa using this
theorem kinds_last (p : Int → Bool) (h : 1 ≤ kids.length) : lastB p (kindsOf ps kids) = allIB (fun i v => if i + 1 < kids.length then isK 1 (kindAt ps v) else p (kindAt ps v)) kids := by
  obtain ⟨m, hm⟩ : ∃ m, kids.length = m + 1 := ⟨kids.length - 1, by omega⟩
  obtain ⟨x, hx⟩ : ∃ x, kids[m]? = some x := ⟨_, List.getElem?_eq_getElem (by omega)⟩
  rw [lastB_some (m := m) (x := kindAt ps x) (by rw [kinds_len]; exact hm) (by rw [kinds_get, hx]; rfl)]
  apply bool_iff
  rw [allIB_iff, Bool.and_eq_true, all_get]
  constructor
  · rintro ⟨h1, h2⟩ j v hv
    have hjl := (List.getElem?_eq_some_iff.1 hv).1
    by_cases hj : j + 1 < kids.length
    · rw [if_pos hj]
      refine h2 j _ ?_
      rw [List.getElem?_take, if_pos (by omega), kinds_get, hv]; rfl
    · rw [if_neg hj]
      obtain rfl : j = m := by omega
      rw [hx] at hv
      obtain rfl := Option.some.inj hv
      exact h1
  · intro h
    refine ⟨?_, fun j v hv => ?_⟩
    · have := h m x hx
      rwa [if_neg (by omega)] at this
    · rw [List.getElem?_take] at hv
      split at hv
      · rename_i hjm
        rw [kinds_get] at hv
        obtain ⟨u, hu, rfl⟩ := Option.map_eq_some_iff.1 hv
        have := h j u hu
        rwa [if_pos (by omega)] at this
      · cases hv
end
/-- What a kid's kind must be at its place. -/
def kfF (kind : Int) (n i : Nat) (y : Int) : Bool :=
  if kind = 9 then (if i + 1 < n then isK 1 y else valueK y)
  else if kind = 20 then (if i + 1 < n then isK 1 y else isK 18 y)
  else if kind = 10 then (if 0 < i then isK 5 y else valueK y)
  else if kind = 16 ∨ kind = 17 then (if 0 < i then isK 18 y else valueK y)
  else if kind = 18 then stmtK y
  else if kind = 21 then memberK y
  else if kind = 22 then topK y
  else valueK y
section
variable {ps : List PN} {kids : List Int}
theorem form_1 (hn : kids.length ≤ 12) : kfB 1 (kindsOf ps kids) = (inB (kids.length : Int) (cntLo 1) (cntHi 1) && allIB (fun i v => kfF 1 kids.length i (kindAt ps v)) kids) := by
  have e2 : inB (kids.length : Int) (cntLo 1) (cntHi 1) = decide (kids.length = 0) := by
    show decide ((0 : Int) ≤ kids.length ∧ (kids.length : Int) ≤ 0) = decide (kids.length = 0)
    exact decide_eq_decide.2 (by omega)
  rw [e2, show kfB 1 (kindsOf ps kids) = decide ((kindsOf ps kids).length = 0) from rfl, kinds_len]
  by_cases h : kids.length = 0
  · have : kids = [] := List.eq_nil_of_length_eq_zero h
    subst this; rfl
  · rw [decide_eq_false h, Bool.false_and]
theorem form_2 (hn : kids.length ≤ 12) : kfB 2 (kindsOf ps kids) = (inB (kids.length : Int) (cntLo 2) (cntHi 2) && allIB (fun i v => kfF 2 kids.length i (kindAt ps v)) kids) := by
  have e2 : inB (kids.length : Int) (cntLo 2) (cntHi 2) = decide (kids.length = 0) := by
    show decide ((0 : Int) ≤ kids.length ∧ (kids.length : Int) ≤ 0) = decide (kids.length = 0)
    exact decide_eq_decide.2 (by omega)
  rw [e2, show kfB 2 (kindsOf ps kids) = decide ((kindsOf ps kids).length = 0) from rfl, kinds_len]
  by_cases h : kids.length = 0
  · have : kids = [] := List.eq_nil_of_length_eq_zero h
    subst this; rfl
  · rw [decide_eq_false h, Bool.false_and]
theorem form_3 (hn : kids.length ≤ 12) : kfB 3 (kindsOf ps kids) = (inB (kids.length : Int) (cntLo 3) (cntHi 3) && allIB (fun i v => kfF 3 kids.length i (kindAt ps v)) kids) := by
  have e2 : inB (kids.length : Int) (cntLo 3) (cntHi 3) = decide (kids.length = 0) := by
    show decide ((0 : Int) ≤ kids.length ∧ (kids.length : Int) ≤ 0) = decide (kids.length = 0)
    exact decide_eq_decide.2 (by omega)
  rw [e2, show kfB 3 (kindsOf ps kids) = decide ((kindsOf ps kids).length = 0) from rfl, kinds_len]
  by_cases h : kids.length = 0
  · have : kids = [] := List.eq_nil_of_length_eq_zero h
    subst this; rfl
  · rw [decide_eq_false h, Bool.false_and]
theorem form_4 (hn : kids.length ≤ 12) : kfB 4 (kindsOf ps kids) = (inB (kids.length : Int) (cntLo 4) (cntHi 4) && allIB (fun i v => kfF 4 kids.length i (kindAt ps v)) kids) := by
  have e2 : inB (kids.length : Int) (cntLo 4) (cntHi 4) = decide (True) := by
    show decide ((0 : Int) ≤ kids.length ∧ (kids.length : Int) ≤ 12) = decide (True)
    exact decide_eq_decide.2 ⟨fun _ => trivial, fun _ => by omega⟩
  rw [e2, show kfB 4 (kindsOf ps kids) = (kindsOf ps kids).all valueK from rfl, kinds_all, decide_true, Bool.true_and]
  rfl
theorem form_5 (hn : kids.length ≤ 12) : kfB 5 (kindsOf ps kids) = (inB (kids.length : Int) (cntLo 5) (cntHi 5) && allIB (fun i v => kfF 5 kids.length i (kindAt ps v)) kids) := by
  have e2 : inB (kids.length : Int) (cntLo 5) (cntHi 5) = decide (1 ≤ kids.length) := by
    show decide ((1 : Int) ≤ kids.length ∧ (kids.length : Int) ≤ 12) = decide (1 ≤ kids.length)
    exact decide_eq_decide.2 (by omega)
  rw [e2, show kfB 5 (kindsOf ps kids) = (decide (1 ≤ (kindsOf ps kids).length) && (kindsOf ps kids).all valueK) from rfl, kinds_len, kinds_all]
  rfl
theorem form_6 (hn : kids.length ≤ 12) : kfB 6 (kindsOf ps kids) = (inB (kids.length : Int) (cntLo 6) (cntHi 6) && allIB (fun i v => kfF 6 kids.length i (kindAt ps v)) kids) := by
  have e2 : inB (kids.length : Int) (cntLo 6) (cntHi 6) = decide (kids.length = 1) := by
    show decide ((1 : Int) ≤ kids.length ∧ (kids.length : Int) ≤ 1) = decide (kids.length = 1)
    exact decide_eq_decide.2 (by omega)
  rw [e2, show kfB 6 (kindsOf ps kids) = (decide ((kindsOf ps kids).length = 1) && (kindsOf ps kids).all valueK) from rfl, kinds_len, kinds_all]
  rfl
theorem form_7 (hn : kids.length ≤ 12) : kfB 7 (kindsOf ps kids) = (inB (kids.length : Int) (cntLo 7) (cntHi 7) && allIB (fun i v => kfF 7 kids.length i (kindAt ps v)) kids) := by
  have e2 : inB (kids.length : Int) (cntLo 7) (cntHi 7) = decide (2 ≤ kids.length) := by
    show decide ((2 : Int) ≤ kids.length ∧ (kids.length : Int) ≤ 12) = decide (2 ≤ kids.length)
    exact decide_eq_decide.2 (by omega)
  rw [e2, show kfB 7 (kindsOf ps kids) = (decide (2 ≤ (kindsOf ps kids).length) && (kindsOf ps kids).all valueK) from rfl, kinds_len, kinds_all]
  rfl
theorem form_8 (hn : kids.length ≤ 12) : kfB 8 (kindsOf ps kids) = (inB (kids.length : Int) (cntLo 8) (cntHi 8) && allIB (fun i v => kfF 8 kids.length i (kindAt ps v)) kids) := by
  have e2 : inB (kids.length : Int) (cntLo 8) (cntHi 8) = decide (kids.length = 3) := by
    show decide ((3 : Int) ≤ kids.length ∧ (kids.length : Int) ≤ 3) = decide (kids.length = 3)
    exact decide_eq_decide.2 (by omega)
  rw [e2, show kfB 8 (kindsOf ps kids) = (decide ((kindsOf ps kids).length = 3) && (kindsOf ps kids).all valueK) from rfl, kinds_len, kinds_all]
  rfl
theorem form_9 (hn : kids.length ≤ 12) : kfB 9 (kindsOf ps kids) = (inB (kids.length : Int) (cntLo 9) (cntHi 9) && allIB (fun i v => kfF 9 kids.length i (kindAt ps v)) kids) := by
  have e2 : inB (kids.length : Int) (cntLo 9) (cntHi 9) = decide (1 ≤ kids.length) := by
    show decide ((1 : Int) ≤ kids.length ∧ (kids.length : Int) ≤ 12) = decide (1 ≤ kids.length)
    exact decide_eq_decide.2 (by omega)
  rw [e2, show kfB 9 (kindsOf ps kids) = lastB valueK (kindsOf ps kids) from rfl]
  by_cases h : 1 ≤ kids.length
  · rw [kinds_last _ h, decide_eq_true h, Bool.true_and]
    rfl
  · have : kids = [] := List.eq_nil_of_length_eq_zero (by omega)
    subst this; rfl
theorem form_10 (hn : kids.length ≤ 12) : kfB 10 (kindsOf ps kids) = (inB (kids.length : Int) (cntLo 10) (cntHi 10) && allIB (fun i v => kfF 10 kids.length i (kindAt ps v)) kids) := by
  have e2 : inB (kids.length : Int) (cntLo 10) (cntHi 10) = decide (2 ≤ kids.length) := by
    show decide ((2 : Int) ≤ kids.length ∧ (kids.length : Int) ≤ 12) = decide (2 ≤ kids.length)
    exact decide_eq_decide.2 (by omega)
  rw [e2, show kfB 10 (kindsOf ps kids) = (decide (2 ≤ (kindsOf ps kids).length) && headB valueK (kindsOf ps kids) && ((kindsOf ps kids).drop 1).all (isK 5)) from rfl, kinds_len, Bool.and_assoc]
  by_cases h : 1 ≤ kids.length
  · rw [kinds_head _ _ h]
    rfl
  · rw [decide_eq_false (by omega), Bool.false_and, Bool.false_and]
theorem form_11 (hn : kids.length ≤ 12) : kfB 11 (kindsOf ps kids) = (inB (kids.length : Int) (cntLo 11) (cntHi 11) && allIB (fun i v => kfF 11 kids.length i (kindAt ps v)) kids) := by
  have e2 : inB (kids.length : Int) (cntLo 11) (cntHi 11) = decide (kids.length = 1) := by
    show decide ((1 : Int) ≤ kids.length ∧ (kids.length : Int) ≤ 1) = decide (kids.length = 1)
    exact decide_eq_decide.2 (by omega)
  rw [e2, show kfB 11 (kindsOf ps kids) = (decide ((kindsOf ps kids).length = 1) && (kindsOf ps kids).all valueK) from rfl, kinds_len, kinds_all]
  rfl
theorem form_12 (hn : kids.length ≤ 12) : kfB 12 (kindsOf ps kids) = (inB (kids.length : Int) (cntLo 12) (cntHi 12) && allIB (fun i v => kfF 12 kids.length i (kindAt ps v)) kids) := by
  have e2 : inB (kids.length : Int) (cntLo 12) (cntHi 12) = decide (kids.length ≤ 1) := by
    show decide ((0 : Int) ≤ kids.length ∧ (kids.length : Int) ≤ 1) = decide (kids.length ≤ 1)
    exact decide_eq_decide.2 (by omega)
  rw [e2, show kfB 12 (kindsOf ps kids) = (decide ((kindsOf ps kids).length ≤ 1) && (kindsOf ps kids).all valueK) from rfl, kinds_len, kinds_all]
  rfl
theorem form_13 (hn : kids.length ≤ 12) : kfB 13 (kindsOf ps kids) = (inB (kids.length : Int) (cntLo 13) (cntHi 13) && allIB (fun i v => kfF 13 kids.length i (kindAt ps v)) kids) := by
  have e2 : inB (kids.length : Int) (cntLo 13) (cntHi 13) = decide (kids.length = 1) := by
    show decide ((1 : Int) ≤ kids.length ∧ (kids.length : Int) ≤ 1) = decide (kids.length = 1)
    exact decide_eq_decide.2 (by omega)
  rw [e2, show kfB 13 (kindsOf ps kids) = (decide ((kindsOf ps kids).length = 1) && (kindsOf ps kids).all valueK) from rfl, kinds_len, kinds_all]
  rfl
theorem form_14 (hn : kids.length ≤ 12) : kfB 14 (kindsOf ps kids) = (inB (kids.length : Int) (cntLo 14) (cntHi 14) && allIB (fun i v => kfF 14 kids.length i (kindAt ps v)) kids) := by
  have e2 : inB (kids.length : Int) (cntLo 14) (cntHi 14) = decide (kids.length = 1) := by
    show decide ((1 : Int) ≤ kids.length ∧ (kids.length : Int) ≤ 1) = decide (kids.length = 1)
    exact decide_eq_decide.2 (by omega)
  rw [e2, show kfB 14 (kindsOf ps kids) = (decide ((kindsOf ps kids).length = 1) && (kindsOf ps kids).all valueK) from rfl, kinds_len, kinds_all]
  rfl
theorem form_15 (hn : kids.length ≤ 12) : kfB 15 (kindsOf ps kids) = (inB (kids.length : Int) (cntLo 15) (cntHi 15) && allIB (fun i v => kfF 15 kids.length i (kindAt ps v)) kids) := by
  have e2 : inB (kids.length : Int) (cntLo 15) (cntHi 15) = decide (kids.length ≤ 1) := by
    show decide ((0 : Int) ≤ kids.length ∧ (kids.length : Int) ≤ 1) = decide (kids.length ≤ 1)
    exact decide_eq_decide.2 (by omega)
  rw [e2, show kfB 15 (kindsOf ps kids) = (decide ((kindsOf ps kids).length ≤ 1) && (kindsOf ps kids).all valueK) from rfl, kinds_len, kinds_all]
  rfl
theorem form_16 (hn : kids.length ≤ 12) : kfB 16 (kindsOf ps kids) = (inB (kids.length : Int) (cntLo 16) (cntHi 16) && allIB (fun i v => kfF 16 kids.length i (kindAt ps v)) kids) := by
  have e2 : inB (kids.length : Int) (cntLo 16) (cntHi 16) = decide (2 ≤ kids.length ∧ kids.length ≤ 3) := by
    show decide ((2 : Int) ≤ kids.length ∧ (kids.length : Int) ≤ 3) = decide (2 ≤ kids.length ∧ kids.length ≤ 3)
    exact decide_eq_decide.2 (by omega)
  rw [e2, show kfB 16 (kindsOf ps kids) = (decide (2 ≤ (kindsOf ps kids).length ∧ (kindsOf ps kids).length ≤ 3) && headB valueK (kindsOf ps kids) && ((kindsOf ps kids).drop 1).all (isK 18)) from rfl, kinds_len, Bool.and_assoc]
  by_cases h : 1 ≤ kids.length
  · rw [kinds_head _ _ h]
    rfl
  · rw [decide_eq_false (by omega), Bool.false_and, Bool.false_and]
theorem form_17 (hn : kids.length ≤ 12) : kfB 17 (kindsOf ps kids) = (inB (kids.length : Int) (cntLo 17) (cntHi 17) && allIB (fun i v => kfF 17 kids.length i (kindAt ps v)) kids) := by
  have e2 : inB (kids.length : Int) (cntLo 17) (cntHi 17) = decide (kids.length = 2) := by
    show decide ((2 : Int) ≤ kids.length ∧ (kids.length : Int) ≤ 2) = decide (kids.length = 2)
    exact decide_eq_decide.2 (by omega)
  rw [e2, show kfB 17 (kindsOf ps kids) = (decide ((kindsOf ps kids).length = 2) && headB valueK (kindsOf ps kids) && ((kindsOf ps kids).drop 1).all (isK 18)) from rfl, kinds_len, Bool.and_assoc]
  by_cases h : 1 ≤ kids.length
  · rw [kinds_head _ _ h]
    rfl
  · rw [decide_eq_false (by omega), Bool.false_and, Bool.false_and]
theorem form_18 (hn : kids.length ≤ 12) : kfB 18 (kindsOf ps kids) = (inB (kids.length : Int) (cntLo 18) (cntHi 18) && allIB (fun i v => kfF 18 kids.length i (kindAt ps v)) kids) := by
  have e2 : inB (kids.length : Int) (cntLo 18) (cntHi 18) = decide (True) := by
    show decide ((0 : Int) ≤ kids.length ∧ (kids.length : Int) ≤ 12) = decide (True)
    exact decide_eq_decide.2 ⟨fun _ => trivial, fun _ => by omega⟩
  rw [e2, show kfB 18 (kindsOf ps kids) = (kindsOf ps kids).all stmtK from rfl, kinds_all, decide_true, Bool.true_and]
  rfl
theorem form_19 (hn : kids.length ≤ 12) : kfB 19 (kindsOf ps kids) = (inB (kids.length : Int) (cntLo 19) (cntHi 19) && allIB (fun i v => kfF 19 kids.length i (kindAt ps v)) kids) := by
  have e2 : inB (kids.length : Int) (cntLo 19) (cntHi 19) = decide (kids.length = 0) := by
    show decide ((0 : Int) ≤ kids.length ∧ (kids.length : Int) ≤ 0) = decide (kids.length = 0)
    exact decide_eq_decide.2 (by omega)
  rw [e2, show kfB 19 (kindsOf ps kids) = decide ((kindsOf ps kids).length = 0) from rfl, kinds_len]
  by_cases h : kids.length = 0
  · have : kids = [] := List.eq_nil_of_length_eq_zero h
    subst this; rfl
  · rw [decide_eq_false h, Bool.false_and]
theorem form_20 (hn : kids.length ≤ 12) : kfB 20 (kindsOf ps kids) = (inB (kids.length : Int) (cntLo 20) (cntHi 20) && allIB (fun i v => kfF 20 kids.length i (kindAt ps v)) kids) := by
  have e2 : inB (kids.length : Int) (cntLo 20) (cntHi 20) = decide (1 ≤ kids.length) := by
    show decide ((1 : Int) ≤ kids.length ∧ (kids.length : Int) ≤ 12) = decide (1 ≤ kids.length)
    exact decide_eq_decide.2 (by omega)
  rw [e2, show kfB 20 (kindsOf ps kids) = lastB (isK 18) (kindsOf ps kids) from rfl]
  by_cases h : 1 ≤ kids.length
  · rw [kinds_last _ h, decide_eq_true h, Bool.true_and]
    rfl
  · have : kids = [] := List.eq_nil_of_length_eq_zero (by omega)
    subst this; rfl
theorem form_21 (hn : kids.length ≤ 12) : kfB 21 (kindsOf ps kids) = (inB (kids.length : Int) (cntLo 21) (cntHi 21) && allIB (fun i v => kfF 21 kids.length i (kindAt ps v)) kids) := by
  have e2 : inB (kids.length : Int) (cntLo 21) (cntHi 21) = decide (True) := by
    show decide ((0 : Int) ≤ kids.length ∧ (kids.length : Int) ≤ 12) = decide (True)
    exact decide_eq_decide.2 ⟨fun _ => trivial, fun _ => by omega⟩
  rw [e2, show kfB 21 (kindsOf ps kids) = (kindsOf ps kids).all memberK from rfl, kinds_all, decide_true, Bool.true_and]
  rfl
theorem form_22 (hn : kids.length ≤ 12) : kfB 22 (kindsOf ps kids) = (inB (kids.length : Int) (cntLo 22) (cntHi 22) && allIB (fun i v => kfF 22 kids.length i (kindAt ps v)) kids) := by
  have e2 : inB (kids.length : Int) (cntLo 22) (cntHi 22) = decide (True) := by
    show decide ((0 : Int) ≤ kids.length ∧ (kids.length : Int) ≤ 12) = decide (True)
    exact decide_eq_decide.2 ⟨fun _ => trivial, fun _ => by omega⟩
  rw [e2, show kfB 22 (kindsOf ps kids) = (kindsOf ps kids).all topK from rfl, kinds_all, decide_true, Bool.true_and]
  rfl
theorem kf_form {kind : Int} (hk : 1 ≤ kind ∧ kind ≤ 22) (hn : kids.length ≤ 12) : kfB kind (kindsOf ps kids) = (inB (kids.length : Int) (cntLo kind) (cntHi kind) && allIB (fun i v => kfF kind kids.length i (kindAt ps v)) kids) := by
  have h2 : kind = 1 ∨ kind = 2 ∨ kind = 3 ∨ kind = 4 ∨ kind = 5 ∨ kind = 6 ∨ kind = 7 ∨ kind = 8 ∨ kind = 9 ∨ kind = 10 ∨ kind = 11 ∨ kind = 12 ∨ kind = 13 ∨ kind = 14 ∨ kind = 15 ∨ kind = 16 ∨ kind = 17 ∨ kind = 18 ∨ kind = 19 ∨ kind = 20 ∨ kind = 21 ∨ kind = 22 := by omega
  rcases h2 with rfl | rfl | rfl | rfl | rfl | rfl | rfl | rfl | rfl | rfl | rfl | rfl | rfl | rfl | rfl | rfl | rfl | rfl | rfl | rfl | rfl | rfl
  · exact form_1 hn
  · exact form_2 hn
  · exact form_3 hn
  · exact form_4 hn
  · exact form_5 hn
  · exact form_6 hn
  · exact form_7 hn
  · exact form_8 hn
  · exact form_9 hn
  · exact form_10 hn
  · exact form_11 hn
  · exact form_12 hn
  · exact form_13 hn
  · exact form_14 hn
  · exact form_15 hn
  · exact form_16 hn
  · exact form_17 hn
  · exact form_18 hn
  · exact form_19 hn
  · exact form_20 hn
  · exact form_21 hn
  · exact form_22 hn
theorem kf_never {kind : Int} (l : List Int) (hk : ¬ (1 ≤ kind ∧ kind ≤ 22)) : kfB kind l = false := by
  unfold kfB
  rw [if_neg (by omega), if_neg (by omega), if_neg (by omega), if_neg (by omega), if_neg (by omega), if_neg (by omega), if_neg (by omega), if_neg (by omega), if_neg (by omega), if_neg (by omega), if_neg (by omega), if_neg (by omega), if_neg (by omega), if_neg (by omega), if_neg (by omega)]
theorem cnt_le (kind : Int) : cntHi kind ≤ 12 := by unfold cntHi; split <;> (try split) <;> (try split) <;> (try split) <;> omega
theorem call_not10 {kind : Int} (h : kind ≠ 10) (i : Nat) (v : Int) : callOk ps kind i v = callIn ps v := by
  unfold callOk callIn
  have hb : (kind == 10) = false := by rw [beq_eq_false_iff_ne]; exact h
  rw [hb]
  cases ps[v.toNat]? with
  | none => rfl
  | some y =>
    simp only [Bool.false_and, Bool.not_false, Bool.true_or, Bool.and_true]
    split
    · cases y.kids <;> rfl
    · rfl
theorem pair_eq {kind : Int} (hk : 1 ≤ kind ∧ kind ≤ 22) (n i : Nat) (v : Int) : (kfF kind n i (kindAt ps v) && callOk ps kind i v) = (callIn ps v && fitB ps kind n i v) := by
  by_cases h10 : kind = 10
  · subst h10
    have e1 : kfF 10 n i (kindAt ps v) = if 0 < i then isK 5 (kindAt ps v) else valueK (kindAt ps v) := rfl
    have e2 : fitB ps 10 n i v = if 0 < i then isK 5 (kindAt ps v) && (match ps[v.toNat]? with | some y => (match y.kids with | j :: _ => isK 1 (kindAt ps j) | [] => false) | none => false) else valueK (kindAt ps v) := rfl
    rw [e1, e2]
    by_cases hi : 0 < i
    · rw [if_pos hi, if_pos hi]
      unfold callOk callIn
      rw [decide_eq_true hi]
      unfold kindAt
      cases ps[v.toNat]? with
      | none => simp
      | some y =>
        simp only
        by_cases h5 : y.kind = 5
        · rw [if_pos h5, if_pos h5, h5]
          cases y.kids with
          | nil => simp
          | cons j js =>
            simp [isK]
        · have : isK 5 y.kind = false := by unfold isK; rw [beq_eq_false_iff_ne]; exact h5
          rw [this, Bool.false_and, Bool.false_and, Bool.and_false]
    · rw [if_neg hi, if_neg hi]
      have : callOk ps 10 i v = callIn ps v := by
        unfold callOk callIn
        rw [decide_eq_false hi]
        cases ps[v.toNat]? with
        | none => rfl
        | some y =>
          simp only [Bool.and_false, Bool.not_false, Bool.true_or, Bool.and_true]
          split
          · cases y.kids <;> rfl
          · rfl
      rw [this, Bool.and_comm]
  · rw [call_not10 h10, Bool.and_comm]
    congr 1
    unfold kfF fitB
    simp only [if_neg h10]
    split
    · rfl
    · split
      · rfl
      · split
        · rfl
        · split
          · rfl
          · split
            · rfl
            · split
              · unfold topK isK; rw [Bool.or_comm]
              · rfl
theorem nodes_agree (k : Nat) : specNB ps k = nodeB ps k := by
  unfold specNB nodeB
  cases ps[k]? with
  | none => rfl
  | some x =>
    simp only
    have core : (decide (x.kids.length ≤ 12) && (kfB x.kind (kindsOf ps x.kids) && callsB ps x.kind x.kids)) = (inB x.kind 1 22 && (inB (x.kids.length : Int) (cntLo x.kind) (cntHi x.kind) && allIB (kidFit ps x) x.kids)) := by
      by_cases hk : 1 ≤ x.kind ∧ x.kind ≤ 22
      · rw [show inB x.kind 1 22 = true from decide_eq_true hk, Bool.true_and]
        by_cases hn : x.kids.length ≤ 12
        · rw [decide_eq_true hn, Bool.true_and, kf_form hk hn, Bool.and_assoc]
          unfold callsB
          rw [allIB_and]
          congr 1
          exact allIB_congr (fun j v _ => by unfold kidFit; exact pair_eq hk _ j v)
        · have h12 := cnt_le x.kind
          rw [decide_eq_false hn, Bool.false_and, inB_hi (show ¬ (x.kids.length : Int) ≤ cntHi x.kind by omega), Bool.false_and]
      · rw [show inB x.kind 1 22 = false from decide_eq_false hk, kf_never _ hk, Bool.false_and, Bool.false_and, Bool.and_false]
    have hm : (!(x.blank && !mayK x.kind)) = (mayK x.kind || !x.blank) := by cases x.blank <;> cases mayK x.kind <;> rfl
    rw [hm]
    revert core
    generalize inB x.kind 1 22 = a
    generalize inB (x.kids.length : Int) (cntLo x.kind) (cntHi x.kind) = b
    generalize textB x.kind x.text = c
    generalize (mayK x.kind || !x.blank) = d
    generalize kidsB k x.kids = e
    generalize allIB (kidFit ps x) x.kids = f
    generalize decide (x.kids.length ≤ 12) = g
    generalize kfB x.kind (kindsOf ps x.kids) = h
    generalize callsB ps x.kind x.kids = i
    revert a b c d e f g h i
    decide
end
end Go.Proofs.YtpfanhheodiamaaGreatDoor

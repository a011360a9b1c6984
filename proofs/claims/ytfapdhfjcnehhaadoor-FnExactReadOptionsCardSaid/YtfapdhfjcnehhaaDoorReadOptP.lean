
/-
  Options read from a text: plain words.
-/
import Derived.Test.YtfapdhfjcnehhaaDoorReadDec
import Derived.Test.YtfapdhfjcnehhaaDoorOptT
import Derived.Lib.SlicesS
namespace Go.Proofs.YtfapdhfjcnehhaaDoor
open Go.RowKit
set_option linter.unusedVariables false

def wdN : ByteArray := ⟨#[119, 105, 100, 116, 104]⟩
def bgN : ByteArray := ⟨#[98, 117, 100, 103, 101, 116]⟩
def spN : ByteArray := ⟨#[115, 112, 97, 114, 101]⟩
def foN : ByteArray := ⟨#[102, 111, 108, 100]⟩
def orN : ByteArray := ⟨#[111, 114, 100, 101, 114]⟩
def wdP : ByteArray := ⟨#[119, 105, 100, 116, 104, 61]⟩
def bgP : ByteArray := ⟨#[98, 117, 100, 103, 101, 116, 61]⟩
/-- What lies behind a word, read as a number. -/
def behindD (p w : ByteArray) : Int × Bool := if p.size ≤ w.size ∨ p.extract 0 w.size ≠ w then (0, false) else readDec (p.extract w.size p.size)
abbrev OptD := Int × Int × Bool × Bool × Bool
def optCells (o : OptD) : Array Value := #[.int .i64 o.1, .int .i64 o.2.1, .bool o.2.2.1, .bool o.2.2.2.1, .bool o.2.2.2.2]
def optV (o : OptD) : Value := .agg (optCells o)
def kindOf (p : ByteArray) : Option (Nat × Int) :=
  if (behindD p wdP).2 then some (0, (behindD p wdP).1)
  else if (behindD p bgP).2 then some (1, (behindD p bgP).1)
  else if p = spN then some (2, 0) else if p = foN then some (3, 0) else if p = orN then some (4, 0) else none
def putO (k : Nat) (v : Int) (o : OptD) : OptD := match k with
  | 0 => (v, o.2) | 1 => (o.1, v, o.2.2) | 2 => (o.1, o.2.1, true, o.2.2.2) | 3 => (o.1, o.2.1, o.2.2.1, true, o.2.2.2.2) | _ => (o.1, o.2.1, o.2.2.1, o.2.2.2.1, true)
def seeK (seen : Nat → Bool) (k : Nat) : Nat → Bool := fun j => j == k || seen j
def optGo : (Nat → Bool) → OptD → List ByteArray → Option OptD
  | _, o, [] => some o
  | seen, o, p :: ps => match kindOf p with
    | none => none
    | some (k, v) => if seen k then none else optGo (seeK seen k) (putO k v o) ps
def optZ : OptD := (0, 0, false, false, false)
def optB : OptD := (80, 2000, false, false, false)
/-- The options of a text, and whether they are right. -/
def readOptions (t : ByteArray) : OptD × Bool := if (partsOf t).2 then (match optGo (fun _ => false) optB (partsOf t).1 with
  | none => (optZ, false)
  | some o => if optOk o.1 o.2.1 then (o, true) else (optZ, false)) else (optZ, false)
theorem ro_bad {t : ByteArray} (h : (partsOf t).2 = false) : readOptions t = (optZ, false) := by unfold readOptions; rw [h]; rfl
theorem ro_none {t : ByteArray} (h : optGo (fun _ => false) optB (partsOf t).1 = none) : readOptions t = (optZ, false) := by
  unfold readOptions; rw [h]; simp
theorem ro_no {t : ByteArray} {o : OptD} (h : optGo (fun _ => false) optB (partsOf t).1 = some o) (h2 : optOk o.1 o.2.1 = false) : readOptions t = (optZ, false) := by
  unfold readOptions; rw [h]; simp [h2]
theorem ro_yes {t : ByteArray} {o : OptD} (h0 : (partsOf t).2 = true) (h : optGo (fun _ => false) optB (partsOf t).1 = some o) (h2 : optOk o.1 o.2.1 = true) : readOptions t = (o, true) := by
  unfold readOptions; rw [h, h0]; simp [h2]
/-- At place k. -/
def OptAt (ps : List ByteArray) (seen : Nat → Bool) (o : OptD) (k : Nat) : Prop := optGo (fun _ => false) optB ps = optGo seen o (ps.drop k)
theorem optAt_zero (ps : List ByteArray) : OptAt ps (fun _ => false) optB 0 := by simp [OptAt]
theorem optAt_bad {ps : List ByteArray} {seen : Nat → Bool} {o : OptD} {k : Nat} {p : ByteArray} (h : OptAt ps seen o k) (hp : ps[k]? = some p) (hk : kindOf p = none) : optGo (fun _ => false) optB ps = none := by
  unfold OptAt at h; rw [h, List.drop_eq_getElem?_toList_append, hp]; simp [optGo, hk]
theorem optAt_seen {ps : List ByteArray} {seen : Nat → Bool} {o : OptD} {k : Nat} {p : ByteArray} {j : Nat} {v : Int} (h : OptAt ps seen o k) (hp : ps[k]? = some p) (hk : kindOf p = some (j, v)) (hs : seen j = true) : optGo (fun _ => false) optB ps = none := by
  unfold OptAt at h; rw [h, List.drop_eq_getElem?_toList_append, hp]; simp [optGo, hk, hs]
theorem optAt_step {ps : List ByteArray} {seen : Nat → Bool} {o : OptD} {k : Nat} {p : ByteArray} {j : Nat} {v : Int} (h : OptAt ps seen o k) (hp : ps[k]? = some p) (hk : kindOf p = some (j, v)) (hs : seen j = false) : OptAt ps (seeK seen j) (putO j v o) (k + 1) := by
  unfold OptAt at h ⊢; rw [h, List.drop_eq_getElem?_toList_append, hp]; simp [optGo, hk, hs]
theorem optAt_end {ps : List ByteArray} {seen : Nat → Bool} {o : OptD} {k : Nat} (h : OptAt ps seen o k) (hk : ps.length ≤ k) : optGo (fun _ => false) optB ps = some o := by
  unfold OptAt at h; rw [h, List.drop_eq_nil_of_le hk]; rfl

/-- A text cut at its first sign '='. -/
def cutL : List UInt8 → List UInt8 × List UInt8 × Bool
  | [] => ([], [], false)
  | c :: l => if c = 61 then ([], l, true) else (c :: (cutL l).1, (cutL l).2)
theorem cutL_no (l : List UInt8) : (cutL l).2.2 = false → (cutL l).1 = l ∧ (cutL l).2.1 = [] := by
  induction l with
  | nil => intro _; exact ⟨rfl, rfl⟩
  | cons c l ih =>
    unfold cutL
    split
    · intro h; cases h
    · intro h; obtain ⟨h1, h2⟩ := ih h; exact ⟨by rw [h1], h2⟩
theorem cutL_yes (l : List UInt8) : (cutL l).2.2 = true → l = (cutL l).1 ++ 61 :: (cutL l).2.1 := by
  induction l with
  | nil => intro h; cases h
  | cons c l ih =>
    unfold cutL
    split
    · rename_i h; intro _; rw [h]; rfl
    · intro h; have h1 := ih h; rw [List.cons_append]; exact congrArg (c :: ·) h1
theorem cutL_ix (l : List UInt8) : (Lib.indexByte l 61 = -1 → cutL l = (l, [], false)) ∧ (∀ k : Nat, Lib.indexByte l 61 = k → cutL l = (l.take k, l.drop (k + 1), true)) := by
  induction l with
  | nil => exact ⟨fun _ => rfl, fun k h => by simp [Lib.indexByte] at h⟩
  | cons b l ih =>
    rw [Lib.indexByte, cutL]
    by_cases h : b = 61
    · rw [if_pos (by rw [h]; rfl), if_pos h]
      refine ⟨fun e => by omega, fun k e => ?_⟩
      obtain rfl : k = 0 := by omega
      simp
    · rw [if_neg (by simpa using h), if_neg h]
      obtain ⟨h1, h2⟩ := ih
      rcases ix_cases 61 l with e1 | ⟨j, e1, _⟩
      · rw [e1, h1 e1]
        exact ⟨fun _ => rfl, fun k e => by simp at e⟩
      · rw [e1, if_neg (by rw [beq_iff_eq]; omega), h2 j e1]
        refine ⟨fun e => by omega, fun k e => ?_⟩
        obtain rfl : k = j + 1 := by omega
        simp
def cutN (p : ByteArray) : ByteArray := ⟨(cutL p.data.toList).1.toArray⟩
def cutV (p : ByteArray) : ByteArray := ⟨(cutL p.data.toList).2.1.toArray⟩
def cutH (p : ByteArray) : Bool := (cutL p.data.toList).2.2

def nameK : Nat → ByteArray
  | 0 => wdN | 1 => bgN | 2 => spN | 3 => foN | _ => orN
theorem nameK_inj : ∀ j, j < 5 → ∀ k, k < 5 → nameK j = nameK k → j = k := by decide
def setOk (n v : ByteArray) (h : Bool) : Bool := if n = wdN then (readDec v).2 else if n = bgN then (readDec v).2 else if n = spN then !h else if n = foN then !h else if n = orN then !h else false
def setO (n v : ByteArray) (o : OptD) : OptD := if n = wdN then ((readDec v).1, o.2) else if n = bgN then (o.1, (readDec v).1, o.2.2) else if n = spN then putO 2 0 o else if n = foN then putO 3 0 o else if n = orN then putO 4 0 o else o
theorem behind_list {p w : ByteArray} (b : List UInt8) (h : p.data.toList = w.data.toList ++ b) (hb : b ≠ []) : behindD p w = readDec ⟨b.toArray⟩ := by
  have hs : p.size = w.size + b.length := by rw [← ba_len p, h, List.length_append, ba_len]
  have hl : 0 < b.length := List.length_pos_iff.2 hb
  unfold behindD
  rw [if_neg]
  · congr 1
    refine ba_ext ?_
    rw [ext_list, h, List.take_of_length_le (by rw [List.length_append, ba_len]; omega), List.drop_left' (ba_len w)]
  · rintro (g | g)
    · omega
    · refine g (ba_ext ?_)
      rw [ext_list, h, List.take_left' (ba_len w)]; rfl
theorem behind_short {p w : ByteArray} (h : p.data.toList = w.data.toList) : behindD p w = (0, false) := by
  unfold behindD
  rw [if_pos (.inl (Nat.le_of_eq (by rw [← ba_len p, h, ba_len])))]
theorem behind_not {p w : ByteArray} (h : ∀ b, p.data.toList ≠ w.data.toList ++ b) : behindD p w = (0, false) := by
  unfold behindD
  rw [if_pos]
  refine Classical.byContradiction fun g => ?_
  rw [not_or, Classical.not_not] at g
  have e := congrArg (fun x : ByteArray => x.data.toList) g.2
  simp only [ext_list, List.drop_zero] at e
  refine h (p.data.toList.drop w.size) ?_
  rw [← e]
  simp
theorem cutL_at (n b : List UInt8) (h : 61 ∉ n) : cutL (n ++ 61 :: b) = (n, b, true) := by
  induction n with
  | nil => rfl
  | cons c n ih =>
    simp only [List.mem_cons, not_or] at h
    rw [List.cons_append, cutL, if_neg (fun e => h.1 e.symm), ih h.2]
theorem cutN_no {p : ByteArray} (h : cutH p = false) : cutN p = p ∧ cutV p = ⟨#[]⟩ := by
  obtain ⟨h1, h2⟩ := cutL_no _ h
  refine ⟨ba_ext ?_, ?_⟩
  · show (cutL p.data.toList).1.toArray.toList = _
    rw [h1]
  · unfold cutV; rw [h2]
theorem beh_cut (p n w : ByteArray) (hw : w.data.toList = n.data.toList ++ [61]) (hn : 61 ∉ n.data.toList) :
    ((cutH p = true ∧ cutN p = n) → behindD p w = readDec (cutV p)) ∧ (¬ (cutH p = true ∧ cutN p = n) → behindD p w = (0, false)) := by
  constructor
  · rintro ⟨h1, h2⟩
    have h3 := cutL_yes _ h1
    have h4 : (cutL p.data.toList).1 = n.data.toList := by rw [← h2]; rfl
    by_cases hb : (cutL p.data.toList).2.1 = []
    · have h5 : cutV p = ⟨#[]⟩ := by unfold cutV; rw [hb]
      rw [h5, dec_empty rfl]
      refine behind_short ?_
      rw [hw, ← h4]
      rw [hb] at h3; exact h3
    · refine behind_list _ ?_ hb
      rw [hw, ← h4, List.append_assoc]
      exact h3
  · intro h
    refine behind_not fun b e => h ?_
    have e2 : cutL p.data.toList = (n.data.toList, b, true) := by
      rw [e, hw, List.append_assoc]; exact cutL_at _ _ hn
    unfold cutH cutN
    rw [e2]
    exact ⟨rfl, rfl⟩
theorem kind_of_cut (p : ByteArray) :
    (kindOf p = none → setOk (cutN p) (cutV p) (cutH p) = false) ∧
    (∀ k v, kindOf p = some (k, v) → k < 5 ∧ cutN p = nameK k ∧ setOk (cutN p) (cutV p) (cutH p) = true ∧ ∀ o, setO (cutN p) (cutV p) o = putO k v o) := by
  obtain ⟨w1, w2⟩ := beh_cut p wdN wdP rfl (by decide)
  obtain ⟨b1, b2⟩ := beh_cut p bgN bgP rfl (by decide)
  have n1 : bgN ≠ wdN := by decide
  have n2 : spN ≠ wdN := by decide
  have n3 : foN ≠ wdN := by decide
  have n4 : orN ≠ wdN := by decide
  have n5 : spN ≠ bgN := by decide
  have n6 : foN ≠ bgN := by decide
  have n7 : orN ≠ bgN := by decide
  have n8 : foN ≠ spN := by decide
  have n9 : orN ≠ spN := by decide
  have n10 : orN ≠ foN := by decide
  cases hh : cutH p with
  | false =>
    obtain ⟨e1, e2⟩ := cutN_no hh
    have e3 := w2 (by rw [hh]; simp)
    have e4 := b2 (by rw [hh]; simp)
    have e5 : readDec ⟨#[]⟩ = (0, false) := dec_empty rfl
    rw [e1, e2]
    unfold kindOf
    rw [e3, e4]
    unfold setOk setO
    rw [e5]
    by_cases c1 : p = wdN
    · subst c1; simp [n2.symm, n3.symm, n4.symm]
    by_cases c2 : p = bgN
    · subst c2; simp [n1, n5.symm, n6.symm, n7.symm]
    by_cases c3 : p = spN
    · subst c3; simp [n2, n5, nameK]
    by_cases c4 : p = foN
    · subst c4; simp [n3, n6, n8, nameK]
    by_cases c5 : p = orN
    · subst c5; simp [n4, n7, n9, n10, nameK]
    simp [c1, c2, c3, c4, c5]
  | true =>
    have g1 : p ≠ spN := by rintro rfl; revert hh; decide
    have g2 : p ≠ foN := by rintro rfl; revert hh; decide
    have g3 : p ≠ orN := by rintro rfl; revert hh; decide
    by_cases c1 : cutN p = wdN
    · have e3 := w1 ⟨hh, c1⟩
      have e4 := b2 (by rw [c1]; rintro ⟨_, h⟩; exact n1 h.symm)
      unfold kindOf setOk setO
      rw [e3, e4, c1]
      cases hd : (readDec (cutV p)).2 <;> simp [g1, g2, g3, nameK, putO]
    · have e3 := w2 (by rintro ⟨_, h⟩; exact c1 h)
      by_cases c2 : cutN p = bgN
      · have e4 := b1 ⟨hh, c2⟩
        unfold kindOf setOk setO
        rw [e3, e4, c2]
        cases hd : (readDec (cutV p)).2 <;> simp [g1, g2, g3, n1, nameK, putO]
      · have e4 := b2 (by rintro ⟨_, h⟩; exact c2 h)
        unfold kindOf setOk setO
        rw [e3, e4]
        simp [g1, g2, g3, c1, c2]
end Go.Proofs.YtfapdhfjcnehhaaDoor

/-
  Put together by program (shake.py): PlaceS.
-/
import Derived.Test.YtgbikafalcbibaaGreatDoorMiC
import Derived.Test.YtgbikafalcbibaaGreatDoorMiB
set_option maxRecDepth 100000
set_option maxHeartbeats 25600000
set_option linter.unusedVariables false
set_option linter.unusedSimpArgs false
open Go.Lib (hid)
open Go.Proofs.Tryz
namespace Go.Proofs.YtgbikafalcbibaaGreatDoor
open Go.RowKit
def marks04 : List (List UInt8) := [[38, 38], [124, 124], [61, 61], [61, 62], [46, 46], [40], [41], [123], [125], [91], [93], [59], [44], [46], [61], [43], [45], [42], [60], [63], [58]]
def markF : List (List UInt8) → List UInt8 → List UInt8
 | [], _ => []
 | m :: ms, l => if m.isPrefixOf l = true then m else markF ms l
def markL (l : List UInt8) : List UInt8 := markF marks04 l
def signZ (l : List UInt8) (q : Nat) : Int × ByteArray × Int × Nat :=
 if 0 < noteN l then (5, trimT ⟨(l.take (noteN l)).toArray⟩, (q : Int), noteN l)
 else match l with
 | [] => (0, ⟨#[]⟩, 0, 0)
 | c :: _ =>
  if firstC c = true then (if 30 < runN innerC l then (0, ⟨#[]⟩, 0, 0) else (1, ⟨(l.take (runN innerC l)).toArray⟩, (q : Int), runN innerC l))
  else if figC c = true then (if 12 < runN figC l then (0, ⟨#[]⟩, 0, 0) else (2, ⟨(l.take (runN figC l)).toArray⟩, (q : Int), runN figC l))
  else if c = 39 then (3, ⟨(l.take (quoN l)).toArray⟩, (q : Int), quoN l)
  else (4, ⟨(markL l).toArray⟩, (q : Int), (markL l).length)
def SgOk (l : List UInt8) (k : Int) (x : ByteArray) (z : Nat) (ok : Bool) : Prop :=
 if ok = true then 0 < z ∧ z ≤ l.length ∧ ∀ q, signZ l q = (k, x, (q : Int), z) else ∀ q, (signZ l q).2.2.2 = 0
theorem extract_head (s : ByteArray) (n : Nat) : s.extract 0 n = ⟨(s.data.toList.take n).toArray⟩ := by
 apply ByteArray.ext
 apply Array.toList_inj.1
 rw [ByteArray.data_extract]
 simp
theorem extract_mid (s : ByteArray) (q n : Nat) : s.extract q (q + n) = ⟨((s.data.toList.drop q).take n).toArray⟩ := by
 apply ByteArray.ext
 apply Array.toList_inj.1
 rw [ByteArray.data_extract]
 simp [List.extract_eq_take_drop]
theorem extract_rest (s : ByteArray) (q : Nat) : (s.extract q s.size).data.toList = s.data.toList.drop q := by
 rw [ByteArray.data_extract]
 simp only [Array.toList_extract, List.extract_eq_take_drop]
 exact List.take_of_length_le (by rw [List.length_drop, ba_len]; omega)
theorem runT_take (p : UInt8 → Bool) (s : ByteArray) : runT p s = ⟨(s.data.toList.take (runN p s.data.toList)).toArray⟩ := extract_head s _
theorem noteN_zero {c : UInt8} {l : List UInt8} (h : ¬ c = 47) : noteN (c :: l) = 0 := by
 apply noteN_none
 unfold Lib.hasPrefix
 simp only [List.isPrefixOf]
 have : ((47 : UInt8) == c) = false := by rw [beq_eq_false_iff_ne]; exact fun e => h e.symm
 rw [this, Bool.false_and]
theorem sg_name {s : ByteArray} (h0 : 0 < s.size) (hb : firstC s[0] = true) :
  SgOk s.data.toList 1 (runT innerC s) (runT innerC s).size (decide (((runT innerC s).size : Int) ≤ 30)) := by
 obtain ⟨l, hl⟩ := head_of h0
 have hn : noteN s.data.toList = 0 := by rw [hl]; exact noteN_zero (by intro e; rw [e] at hb; revert hb; decide)
 have hpos : 0 < runN innerC s.data.toList := by
  rw [hl]; unfold runN; rw [if_pos (by unfold innerC; rw [hb]; rfl)]; omega
 have hle := runN_le innerC s.data.toList
 have hz : ∀ q, signZ s.data.toList q = if 30 < runN innerC s.data.toList then (0, ⟨#[]⟩, 0, 0) else (1, ⟨(s.data.toList.take (runN innerC s.data.toList)).toArray⟩, (q : Int), runN innerC s.data.toList) := fun q => by
  unfold signZ; rw [if_neg (by omega)]
  split
  ·rename_i h; rw [hl] at h; cases h
  ·rename_i c l' h
   rw [hl] at h; injection h with h1 h2
   subst h1
   rw [if_pos hb]
 unfold SgOk
 rw [runT_size]
 by_cases h30 : 30 < runN innerC s.data.toList
 ·rw [decide_eq_false (by omega), if_neg (by decide)]
  intro q; rw [hz, if_pos h30]
 ·rw [decide_eq_true (by omega), if_pos rfl]
  exact ⟨hpos, hle, fun q => by rw [hz, if_neg h30, runT_take]⟩
theorem sg_num {s : ByteArray} (h0 : 0 < s.size) (hb : firstC s[0] = false) (hg : figC s[0] = true) :
  SgOk s.data.toList 2 (runT figC s) (runT figC s).size (decide (((runT figC s).size : Int) ≤ 12)) := by
 obtain ⟨l, hl⟩ := head_of h0
 have hn : noteN s.data.toList = 0 := by rw [hl]; exact noteN_zero (by intro e; rw [e] at hg; revert hg; decide)
 have hpos : 0 < runN figC s.data.toList := by
  rw [hl]; unfold runN; rw [if_pos hg]; omega
 have hle := runN_le figC s.data.toList
 have hz : ∀ q, signZ s.data.toList q = if 12 < runN figC s.data.toList then (0, ⟨#[]⟩, 0, 0) else (2, ⟨(s.data.toList.take (runN figC s.data.toList)).toArray⟩, (q : Int), runN figC s.data.toList) := fun q => by
  unfold signZ; rw [if_neg (by omega)]
  split
  ·rename_i h; rw [hl] at h; cases h
  ·rename_i c l' h
   rw [hl] at h; injection h with h1 h2
   subst h1
   rw [if_neg (by rw [hb]; decide), if_pos hg]
 unfold SgOk
 rw [runT_size]
 by_cases h12 : 12 < runN figC s.data.toList
 ·rw [decide_eq_false (by omega), if_neg (by decide)]
  intro q; rw [hz, if_pos h12]
 ·rw [decide_eq_true (by omega), if_pos rfl]
  exact ⟨hpos, hle, fun q => by rw [hz, if_neg h12, runT_take]⟩
theorem sg_quo {s : ByteArray} (h0 : 0 < s.size) (hq : s[0] = 39) : SgOk s.data.toList 3 (quoP s).1 (quoP s).1.size (quoP s).2 := by
 obtain ⟨l, hl⟩ := head_of h0
 rw [hq] at hl
 have hll : l.length + 1 = s.size := by have := ba_len s; rw [hl] at this; simpa using this
 have hex : (s.extract 1 s.size).data.toList = l := by rw [extract_rest, hl]; rfl
 have hz : ∀ q, signZ s.data.toList q = (3, ⟨(s.data.toList.take (quoN s.data.toList)).toArray⟩, (q : Int), quoN s.data.toList) := fun q => by
  unfold signZ; rw [if_neg (by rw [hl, noteN_zero (by decide)]; omega)]
  split
  ·rename_i h; rw [hl] at h; cases h
  ·rename_i c l' h
   rw [hl] at h; injection h with h1 h2
   subst h1
   rw [if_neg (by decide), if_neg (by decide), if_pos rfl]
 have hqn : quoN s.data.toList = if quoR l = 0 then 0 else quoR l + 1 := by rw [hl]; rfl
 unfold SgOk
 unfold quoP
 rw [hex]
 by_cases hi : Lib.indexByte l 39 < 0
 ·rw [if_pos hi]
  rw [if_neg (by decide)]
  intro q
  rw [hz, hqn, quoR_eq, if_pos hi]
  rfl
 ·rw [if_neg hi]
  have hge := Lib.indexByte_ge l 39
  obtain ⟨o, ho⟩ := Int.eq_ofNat_of_zero_le (show 0 ≤ Lib.indexByte l 39 by omega)
  have hsome := Lib.indexByte_some ho
  have holt : o < l.length := (List.getElem?_eq_some_iff.1 hsome.1).1
  rw [ho, show ((o : Int) + 2).toNat = o + 2 by omega]
  have hall : allB plainC (s.extract 0 (o + 2)) = (l.take o).all plainC := by
   unfold allB
   rw [show (s.extract 0 (o + 2)).data.toList = s.data.toList.take (o + 2) by rw [ByteArray.data_extract]; simp, hl, List.take_succ_cons, List.all_cons]
   rw [show plainC 39 = true from rfl, Bool.true_and]
   rw [List.take_add_one, hsome.1, List.all_append]
   simp [show plainC 39 = true from rfl]
  have hqr : quoR l = if (l.take o).all plainC = true then o + 1 else 0 := by
   rw [quoR_eq, if_neg hi, ho, Int.toNat_natCast]
  simp only [hall]
  cases hc : (l.take o).all plainC with
  | false =>
   rw [if_neg (by decide)]
   intro q
   rw [hz, hqn, hqr, hc]
   rfl
  | true =>
   rw [if_pos rfl]
   have hqn2 : quoN s.data.toList = o + 2 := by rw [hqn, hqr, hc, if_pos rfl, if_neg (by omega)]
   have hsz : (s.extract 0 (o + 2)).size = o + 2 := by simp; omega
   rw [hsz]
   refine ⟨by omega, by rw [ba_len]; omega, fun q => ?_⟩
   rw [hz, hqn2, extract_head]
theorem sg_note {s : ByteArray} (h0 : 0 < s.size) (hp : Lib.hasPrefix s.data.toList [47, 47] = true) :
  SgOk s.data.toList 5 (trimT (runT notEnd s)) (runT notEnd s).size (allB plainC (runT notEnd s)) := by
 obtain ⟨l, hl⟩ := head_of h0
 have h47 := pre_head h0 hp
 have hn := runN_le notEnd s.data.toList
 have hall : allB plainC (runT notEnd s) = (s.data.toList.take (runN notEnd s.data.toList)).all plainC := by
  unfold allB; rw [runT_take]
 have hpos : 0 < runN notEnd s.data.toList := by
  rw [hl, h47]; unfold runN; rw [if_pos (by decide)]; omega
 have hN : noteN s.data.toList = if (s.data.toList.take (runN notEnd s.data.toList)).all plainC = true then runN notEnd s.data.toList else 0 := by
  unfold noteN
  by_cases h : (s.data.toList.take (runN notEnd s.data.toList)).all plainC = true
  ·rw [if_pos ⟨hp, h⟩, if_pos h]
  ·rw [if_neg (fun x => h x.2), if_neg h]
 unfold SgOk
 rw [hall, runT_size]
 cases hc : (s.data.toList.take (runN notEnd s.data.toList)).all plainC with
 | false =>
  rw [if_neg (by decide)]
  intro q
  rw [hc, if_neg (by decide)] at hN
  unfold signZ
  rw [if_neg (by omega)]
  split
  ·rfl
  ·rename_i c l' h
   rw [hl] at h; injection h with h1 h2
   have hc47 : c = 47 := by rw [← h1]; exact h47
   subst hc47
   rw [if_neg (by decide), if_neg (by decide), if_neg (by decide)]
   rw [hl, h47]
   have : markL (47 :: l) = [] := by unfold markL marks04; simp [markF, List.isPrefixOf]
   rw [this]
   rfl
 | true =>
  rw [if_pos rfl]
  rw [hc, if_pos rfl] at hN
  refine ⟨hpos, hn, fun q => ?_⟩
  unfold signZ
  rw [if_pos (by omega), hN, runT_take]
def mark2C (c d : UInt8) : Bool := (c == 38 && d == 38) || (c == 124 && d == 124) || (c == 61 && d == 61) || (c == 61 && d == 62) || (c == 46 && d == 46)
theorem index_mem (l : List UInt8) (c : UInt8) : decide (0 ≤ Lib.indexByte l c) = l.contains c := by
 induction l with
 | nil => rfl
 | cons x l ih =>
  have hge := Lib.indexByte_ge l c
  rw [List.contains_cons]
  unfold Lib.indexByte
  by_cases h : x = c
  ·subst h; simp
  ·have hb : (x == c) = false := by rw [beq_eq_false_iff_ne]; exact h
   have hb2 : (c == x) = false := by rw [beq_eq_false_iff_ne]; exact fun e => h e.symm
   rw [hb, hb2, Bool.false_or, ← ih]
   simp only [Bool.false_eq_true, if_false]
   by_cases h1 : Lib.indexByte l c = -1
   ·have e1 : (Lib.indexByte l c == -1) = true := by rw [h1]; rfl
    rw [if_pos e1, h1]
   ·have e1 : (Lib.indexByte l c == -1) = false := by rw [beq_eq_false_iff_ne]; exact h1
    rw [if_neg (by rw [e1]; decide)]
    rw [decide_eq_true (show 0 ≤ Lib.indexByte l c + 1 by omega), decide_eq_true (show 0 ≤ Lib.indexByte l c by omega)]
theorem markB_two (c d : UInt8) : markB ⟨#[c, d]⟩ = mark2C c d := by
 unfold markB mark2B mark2C
 simp only [ByteArray.toList_eq, Bool.or_false]
 have e : ∀ a b : UInt8, ([c, d] == [a, b]) = (c == a && d == b) := fun a b => by
  simp only [List.cons_beq_cons, List.nil_beq_eq, List.isEmpty_nil, Bool.and_true]
 simp only [e]
theorem markB_one (c : UInt8) : markB ⟨#[c]⟩ = mark1B c := by
 unfold markB mark2B
 simp only [ByteArray.toList_eq]
 have e : ∀ a b : UInt8, ([c] == [a, b]) = false := fun a b => by
  simp only [List.cons_beq_cons]; simp
 simp only [e, Bool.false_or]
def one04 : List UInt8 := [40, 41, 123, 125, 91, 93, 59, 44, 46, 61, 43, 45, 42, 60, 63, 58]
theorem marks_split : marks04 = [[38, 38], [124, 124], [61, 61], [61, 62], [46, 46]] ++ one04.map (fun c => [c]) := by rfl
theorem markF_yes {m l : List UInt8} {ms : List (List UInt8)} (h : m.isPrefixOf l = true) : markF (m :: ms) l = m := if_pos h
theorem markF_no {m l : List UInt8} {ms : List (List UInt8)} (h : ¬ m.isPrefixOf l = true) : markF (m :: ms) l = markF ms l := if_neg h
theorem markF_app (a b : List (List UInt8)) (l : List UInt8) (h : ∀ m ∈ a, m ≠ []) : markF (a ++ b) l = if markF a l = [] then markF b l else markF a l := by
 induction a with
 | nil => rfl
 | cons m ms ih =>
  have hm := h m (List.mem_cons_self ..)
  have ih := ih (fun x hx => h x (List.mem_cons_of_mem _ hx))
  rw [List.cons_append]
  by_cases h : m.isPrefixOf l = true
  ·rw [markF_yes h, markF_yes h, if_neg hm]
  ·rw [markF_no h, markF_no h]; exact ih
theorem markF_one (a : List UInt8) (c : UInt8) (l : List UInt8) : markF (a.map (fun c => [c])) (c :: l) = if a.contains c = true then [c] else [] := by
 induction a with
 | nil => rfl
 | cons x a ih =>
  simp only [List.map_cons, markF, List.isPrefixOf, Bool.and_true, List.contains_cons]
  by_cases h : x = c
  ·subst h; simp
  ·have e1 : (x == c) = false := by rw [beq_eq_false_iff_ne]; exact h
   have e2 : (c == x) = false := by rw [beq_eq_false_iff_ne]; exact fun e => h e.symm
   rw [e1, e2, Bool.false_or, if_neg (by decide), ih]
theorem pre_two (a b c d : UInt8) (l : List UInt8) : List.isPrefixOf [a, b] (c :: d :: l) = (c == a && d == b) := by
 simp only [List.isPrefixOf, Bool.and_true]
 rw [BEq.comm (a := a), BEq.comm (a := b)]
theorem markF_pairs (c d : UInt8) (l : List UInt8) : markF [[38, 38], [124, 124], [61, 61], [61, 62], [46, 46]] (c :: d :: l) = if mark2C c d = true then [c, d] else [] := by
 simp only [markF, pre_two]
 unfold mark2C
 have key : ∀ (a b : UInt8) (B : Bool) (X : List UInt8), X = (if B = true then [c, d] else []) → (if (c == a && d == b) = true then [a, b] else X) = if ((c == a && d == b) || B) = true then [c, d] else [] := by
  intro a b B X hX
  cases h : (c == a && d == b) with
  | true =>
   simp only [Bool.and_eq_true, beq_iff_eq] at h
   rw [h.1, h.2]; simp
  | false => rw [hX]; simp
 simp only [Bool.or_assoc]
 refine key _ _ _ _ (key _ _ _ _ (key _ _ _ _ (key _ _ _ _ ?_)))
 have := key 46 46 false [] rfl
 rw [Bool.or_false] at this
 exact this
theorem mark1_one (c : UInt8) : mark1B c = one04.contains c := index_mem one04 c
theorem markL_two (c d : UInt8) (l : List UInt8) : markL (c :: d :: l) = if mark2C c d = true then [c, d] else if mark1B c = true then [c] else [] := by
 rw [mark1_one]
 unfold markL
 rw [marks_split, markF_app _ _ _ (by decide), markF_pairs, markF_one]
 cases mark2C c d with
 | true => simp
 | false => simp
theorem markL_one (c : UInt8) : markL [c] = if mark1B c = true then [c] else [] := by
 rw [mark1_one]
 unfold markL
 rw [marks_split, markF_app _ _ _ (by decide), markF_one]
 have : markF [[38, 38], [124, 124], [61, 61], [61, 62], [46, 46]] [c] = [] := by simp [markF, List.isPrefixOf]
 rw [this, if_pos rfl]
theorem markN_len (s : ByteArray) (h0 : 0 < s.size) : markL s.data.toList = s.data.toList.take (markN s) ∧ markN s ≤ s.size := by
 obtain ⟨l, hl⟩ := head_of h0
 generalize hc : s[0] = c at hl
 have hsz := ba_len s
 rw [hl] at hsz
 have e1 : s.extract 0 1 = ⟨#[c]⟩ := by rw [extract_head, hl]; rfl
 match l, hl, hsz with
 | [], hl, hsz =>
  have hn : markN s = if mark1B c = true then 1 else 0 := by
   unfold markN
   rw [if_neg (by simp at hsz; omega), e1, markB_one]
  rw [hn, hl, markL_one]
  split <;> simp <;> omega
 | d :: l, hl, hsz =>
  have e2 : s.extract 0 2 = ⟨#[c, d]⟩ := by rw [extract_head, hl]; rfl
  have h2 : 2 ≤ s.size := by simp at hsz; omega
  have hn : markN s = if mark2C c d = true then 2 else if mark1B c = true then 1 else 0 := by
   unfold markN
   rw [e1, markB_one, e2, markB_two]
   by_cases h : mark2C c d = true
   ·rw [if_pos ⟨h2, h⟩, if_pos h]
   ·rw [if_neg (fun x => h x.2), if_neg h]
  rw [hn, hl, markL_two]
  split
  ·simp; omega
  ·split <;> simp; omega
theorem sg_mark {s : ByteArray} (h0 : 0 < s.size) (hb : firstC s[0] = false) (hg : figC s[0] = false) (hq : ¬ s[0] = 39) (hp : Lib.hasPrefix s.data.toList [47, 47] = false) :
  ∀ q, signZ s.data.toList q = (4, s.extract 0 (markN s), (q : Int), markN s) := by
 intro q
 obtain ⟨l, hl⟩ := head_of h0
 obtain ⟨hm, hle⟩ := markN_len s h0
 unfold signZ
 rw [if_neg (by rw [noteN_none hp]; omega)]
 split
 ·rename_i h; rw [hl] at h; cases h
 ·rename_i c l' h
  rw [hl] at h; injection h with h1 h2
  subst h1
  rw [if_neg (by rw [hb]; decide), if_neg (by rw [hg]; decide), if_neg hq, hm, ← extract_head, List.length_take, ba_len, Nat.min_eq_left hle]
abbrev SgP := Int × ByteArray × Int × Bool
def sgCells (d : SgP) : List Value := [.int .i64 d.1, .string d.2.1, .int .i64 d.2.2.1, .bool d.2.2.2]
theorem sgCells_len (d : SgP) : (sgCells d).length = 4 := rfl
def signsF (l : List UInt8) : Nat → Nat → Nat → List SgP → List SgP × Int × Bool
 | 0, _, _, acc => (acc, 0, true)
 | f + 1, at_, br, acc =>
  match l.drop at_ with
  | [] => (acc, 0, true)
  | c :: l' =>
   if c = 32 then signsF l f (at_ + 1) br acc
   else if c = 10 then signsF l f (at_ + 1) (br + 1) acc
   else if (signZ (c :: l') at_).2.2.2 = 0 then ([], (at_ : Int), false)
   else signsF l f (at_ + (signZ (c :: l') at_).2.2.2) 0 (acc ++ [((signZ (c :: l') at_).1, (signZ (c :: l') at_).2.1, (signZ (c :: l') at_).2.2.1, decide (1 < br))])
def signsP (t : ByteArray) : List SgP × Int × Bool := if 3000 < t.size then ([], 3000, false) else signsF t.data.toList t.size 0 0 []
section
variable {s : ByteArray} {f at_ br : Nat} {acc : List SgP} {R : List SgP × Int × Bool}
def SignsAt (s : ByteArray) (at_ br : Nat) (acc : List SgP) (R : List SgP × Int × Bool) : Prop := ∃ f, s.size ≤ at_ + f ∧ signsF s.data.toList f at_ br acc = R
theorem signsAt_end (h : SignsAt s at_ br acc R) (hk : s.size ≤ at_) : R = (acc, 0, true) := by
 obtain ⟨f, hf, h⟩ := h
 cases f with
 | zero => exact h.symm
 | succ f =>
  unfold signsF at h
  rw [List.drop_of_length_le (by rw [ba_len]; exact hk)] at h
  exact h.symm
theorem signsAt_blank (h : SignsAt s at_ br acc R) (hk : at_ < s.size) (hc : s[at_] = 32) : SignsAt s (at_ + 1) br acc R := by
 obtain ⟨f, hf, h⟩ := h
 cases f with
 | zero => omega
 | succ f =>
  unfold signsF at h
  rw [drop_get hk] at h
  simp only [hc] at h
  rw [if_pos trivial] at h
  exact ⟨f, by omega, h⟩
theorem signsAt_line (h : SignsAt s at_ br acc R) (hk : at_ < s.size) (hc : s[at_] = 10) : SignsAt s (at_ + 1) (br + 1) acc R := by
 obtain ⟨f, hf, h⟩ := h
 cases f with
 | zero => omega
 | succ f =>
  unfold signsF at h
  rw [drop_get hk] at h
  simp only [hc] at h
  rw [if_neg (by decide), if_pos trivial] at h
  exact ⟨f, by omega, h⟩
theorem signsAt_bad (h : SignsAt s at_ br acc R) (hk : at_ < s.size) (h1 : ¬ s[at_] = 32) (h2 : ¬ s[at_] = 10) (hz : (signZ (s.data.toList.drop at_) at_).2.2.2 = 0) : R = ([], (at_ : Int), false) := by
 obtain ⟨f, hf, h⟩ := h
 cases f with
 | zero => omega
 | succ f =>
  unfold signsF at h
  rw [drop_get hk] at h hz
  simp only at h
  rw [if_neg h1, if_neg h2, if_pos hz] at h
  exact h.symm
theorem signsAt_sign {k : Int} {x : ByteArray} {q : Int} {z : Nat} (h : SignsAt s at_ br acc R) (hk : at_ < s.size) (h1 : ¬ s[at_] = 32) (h2 : ¬ s[at_] = 10) (hz : signZ (s.data.toList.drop at_) at_ = (k, x, q, z)) (h0 : 0 < z) :
  SignsAt s (at_ + z) 0 (acc ++ [(k, x, q, decide (1 < br))]) R := by
 obtain ⟨f, hf, h⟩ := h
 cases f with
 | zero => omega
 | succ f =>
  unfold signsF at h
  rw [drop_get hk] at h hz
  simp only [hz] at h
  rw [if_neg h1, if_neg h2, if_neg (by omega)] at h
  exact ⟨f, by omega, h⟩
theorem signsAt_init (h : s.size ≤ 3000) : SignsAt s 0 0 [] (signsP s) := ⟨s.size, by omega, by unfold signsP; rw [if_neg (by omega)]⟩
end
theorem signsP_big {s : ByteArray} (h : 3000 < s.size) : signsP s = ([], 3000, false) := by unfold signsP; rw [if_pos h]
def spareB (a b : SgP) : Bool := (a.1 == 4) && (a.2.1.toList == [44]) && (b.1 == 4) && ((b.2.1.toList == [41]) || (b.2.1.toList == [93]))
def spareAt (l : List SgP) (k : Nat) : Bool := match l[k]?, l[k + 1]? with | some a, some b => spareB a b | _, _ => false
def leftTo (l : List SgP) : Nat → List SgP
 | 0 => []
 | k + 1 => leftTo l k ++ (match l[k]? with | some a => if spareAt l k = true then [] else [a] | none => [])
def leftP (l : List SgP) : List SgP := leftTo l l.length
theorem leftTo_yes {l : List SgP} {k : Nat} {a : SgP} (h : l[k]? = some a) (hs : spareAt l k = true) : leftTo l (k + 1) = leftTo l k := by
 unfold leftTo; rw [h]; simp only [hs, if_true, List.append_nil]
 cases k <;> rfl
theorem leftTo_no {l : List SgP} {k : Nat} {a : SgP} (h : l[k]? = some a) (hs : spareAt l k = false) : leftTo l (k + 1) = leftTo l k ++ [a] := by
 rw [leftTo, h]; simp only [hs]; rfl
theorem leftTo_len (l : List SgP) (k : Nat) : (leftTo l k).length ≤ k := by
 induction k with
 | zero => simp [leftTo]
 | succ k ih =>
  rw [leftTo, lA]
  have : (match l[k]? with | some a => if spareAt l k = true then [] else [a] | none => [] : List SgP).length ≤ 1 := by
   split
   ·split <;> simp
   ·simp
  omega
theorem spareAt_two {l : List SgP} {k : Nat} {a b : SgP} (ha : l[k]? = some a) (hb : l[k + 1]? = some b) : spareAt l k = spareB a b := by unfold spareAt; rw [ha, hb]
theorem spareAt_last {l : List SgP} {k : Nat} (hb : l[k + 1]? = none) : spareAt l k = false := by
 unfold spareAt; rw [hb]
 cases l[k]? <;> rfl
def placesP (t : ByteArray) : List Int := if (signsP t).2.2 = true then (leftP (signsP t).1).map (fun d => d.2.2.1) else []
theorem signsF_len (l : List UInt8) : ∀ (f at_ br : Nat) (acc : List SgP), (signsF l f at_ br acc).1.length ≤ acc.length + f := by
 intro f
 induction f with
 | zero => intro at_ br acc; simp [signsF]
 | succ f ih =>
  intro at_ br acc
  unfold signsF
  split
  ·simp <;> omega
  ·split
   ·have := ih (at_ + 1) br acc; omega
   ·split
    ·have := ih (at_ + 1) (br + 1) acc; omega
    ·split
     ·simp
     ·refine Nat.le_trans (ih _ _ _) ?_
      simp; omega
theorem signsF_bad (l : List UInt8) : ∀ (f at_ br : Nat) (acc : List SgP), (signsF l f at_ br acc).2.2 = false → (signsF l f at_ br acc).1 = [] := by
 intro f
 induction f with
 | zero => intro at_ br acc h; simp [signsF] at h
 | succ f ih =>
  intro at_ br acc
  unfold signsF
  split
  ·intro h; simp at h
  ·split
   ·exact ih _ _ _
   ·split
    ·exact ih _ _ _
    ·split
     ·intro _; rfl
     ·exact ih _ _ _
theorem signsP_len (t : ByteArray) : (signsP t).1.length ≤ 3000 := by
 unfold signsP
 split
 ·simp
 ·have := signsF_len t.data.toList t.size 0 0 []; simp at this; omega
theorem signsP_bad {t : ByteArray} (h : (signsP t).2.2 = false) : (signsP t).1 = [] := by
 unfold signsP at h ⊢
 split
 ·rfl
 ·rename_i hs; rw [if_neg hs] at h; exact signsF_bad _ _ _ _ _ h
theorem placesP_eq (t : ByteArray) : placesP t = (leftP (signsP t).1).map (fun d => d.2.2.1) := by
 unfold placesP
 split
 ·rfl
 ·rename_i h
  rw [signsP_bad (by simpa using h)]; rfl
def lineP (t : ByteArray) (q : Int) : Int := if 0 ≤ q ∧ q ≤ (t.size : Int) then ((t.data.toList.take q.toNat).count 10 : Nat) + 1 else 0
def lineN (t : ByteArray) (at_ : Int) : Int := if 0 ≤ at_ ∧ at_ < ((placesP t).length : Int) then lineP t ((placesP t).getD at_.toNat 0) else 0
def marksV : List ByteArray := [⟨#[38, 38]⟩, ⟨#[124, 124]⟩, ⟨#[61, 61]⟩, ⟨#[61, 62]⟩, ⟨#[46, 46]⟩, ⟨#[40]⟩, ⟨#[41]⟩, ⟨#[123]⟩, ⟨#[125]⟩, ⟨#[91]⟩, ⟨#[93]⟩, ⟨#[59]⟩, ⟨#[44]⟩, ⟨#[46]⟩, ⟨#[61]⟩, ⟨#[43]⟩, ⟨#[45]⟩, ⟨#[42]⟩, ⟨#[60]⟩, ⟨#[63]⟩, ⟨#[58]⟩]
theorem marksV_eq : marksV = marks04.map (fun m => ⟨m.toArray⟩) := rfl
theorem marksV_sz : ∀ x ∈ marksV, x.size ≤ 2 := by decide
theorem l04Marks_any (w : World) : Calls prog 132 #[] w fun e w' => ∃ A, e = .returned (.slice A 21 21) ∧ Rd w' 1 A 21 (strCells marksV) ∧ Below w.heap.size w w' := by
 go_enter func132, ntmps132
 go_wp2
 go_ret
 exact ⟨_, rfl, Rd.fresh w 9 (strCells marksV) rfl, grow_⟩
def MarkAt (l : List UInt8) (k : Nat) (M : List UInt8) : Prop := markF (marks04.drop k) l = M
theorem markAt_end {l M : List UInt8} {k : Nat} (h : MarkAt l k M) (hk : 21 ≤ k) : M = [] := by
 unfold MarkAt at h
 rw [List.drop_of_length_le (by exact hk)] at h
 exact h.symm
theorem markAt_yes {l M : List UInt8} {k : Nat} {x : ByteArray} (h : MarkAt l k M) (hx : marksV[k]? = some x) (hp : x.data.toList.isPrefixOf l = true) : (⟨M.toArray⟩ : ByteArray) = x := by
 rw [marksV_eq, List.getElem?_map] at hx
 obtain ⟨m, hm, rfl⟩ := Option.map_eq_some_iff.1 hx
 obtain ⟨hlt, he⟩ := List.getElem?_eq_some_iff.1 hm
 unfold MarkAt at h
 rw [List.drop_eq_getElem_cons hlt, he] at h
 rw [markF_yes (by simpa using hp)] at h
 rw [h]
theorem markAt_no {l M : List UInt8} {k : Nat} {x : ByteArray} (h : MarkAt l k M) (hx : marksV[k]? = some x) (hp : x.data.toList.isPrefixOf l = false) : MarkAt l (k + 1) M := by
 rw [marksV_eq, List.getElem?_map] at hx
 obtain ⟨m, hm, rfl⟩ := Option.map_eq_some_iff.1 hx
 obtain ⟨hlt, he⟩ := List.getElem?_eq_some_iff.1 hm
 unfold MarkAt at h
 rw [List.drop_eq_getElem_cons hlt, he] at h
 rw [markF_no (by rw [show m.isPrefixOf l = false from hp]; decide)] at h
 exact h
theorem pre_mid {s x : ByteArray} {q : Nat} (h : q + x.size ≤ s.size) : ((s.extract q (q + x.size)).toList == x.toList) = x.data.toList.isPrefixOf (s.data.toList.drop q) := by
 rw [ByteArray.toList_eq, ByteArray.toList_eq, extract_mid]
 have hx : x.data.toList.length = x.size := ba_len x
 cases hp : x.data.toList.isPrefixOf (s.data.toList.drop q) with
 | true =>
  have := List.prefix_iff_eq_take.1 (List.isPrefixOf_iff_prefix.1 hp)
  rw [hx] at this
  rw [beq_iff_eq]
  exact this.symm
 | false =>
  rw [beq_eq_false_iff_ne]
  intro e
  have : x.data.toList.isPrefixOf (s.data.toList.drop q) = true := by
   rw [List.isPrefixOf_iff_prefix, List.prefix_iff_eq_take, hx]
   exact e.symm
  rw [hp] at this; cases this
theorem pre_short {s x : ByteArray} {q : Nat} (h : ¬ q + x.size ≤ s.size) (hq : q ≤ s.size) : x.data.toList.isPrefixOf (s.data.toList.drop q) = false := by
 cases hp : x.data.toList.isPrefixOf (s.data.toList.drop q) with
 | false => rfl
 | true =>
  have := (List.isPrefixOf_iff_prefix.1 hp).length_le
  rw [ba_len, List.length_drop, ba_len] at this
  omega
theorem l04Mark_any (s : ByteArray) (q : Nat) (w : World) (hq : q ≤ s.size) (hs : s.size ≤ 4611686018427387904) :
  Calls prog 102 #[.string s, .int .i64 q] w fun e w' => e = .returned (.string ⟨(markL (s.data.toList.drop q)).toArray⟩) ∧ Below w.heap.size w w' := by
 have HM0 : Hid (MarkAt (s.data.toList.drop q) 0 (markL (s.data.toList.drop q))) := rfl
 generalize markL (s.data.toList.drop q) = M at HM0 ⊢
 have HP := hid (fun (x : ByteArray) (h : q + x.size ≤ s.size) => pre_mid (s := s) (x := x) (q := q) h)
 have HS := hid (fun (x : ByteArray) (h : ¬ q + x.size ≤ s.size) => pre_short (s := s) (x := x) h hq)
 generalize s.data.toList.drop q = l at HM0 HP HS
 go_enter func102, ntmps102
 go_wp2_with fail
 refine (l04Marks_any _).mono ?_
 rintro e w1 ⟨A, rfl, hr, hb⟩
 have HR := hid hr
 clear hr
 go_wp2
 go_loopw [6] (fun i wr => ∃ k : Nat, k ≤ 21 ∧ Hid (MarkAt l k M) ∧ i = .int .i64 k ∧ Hid (Rd wr 1 A 21 (strCells marksV)) ∧ Below w.heap.size w wr) (fun i _ => 21 - (intOf i).toNat)
 case atStart => exact ⟨0, by omega, HM0, rfl, HR, hb⟩
 case round =>
  clear HR hb
  obtain ⟨k, hk, HM, rfl, HR, hb⟩ := hrel
  clear HM0
  by_cases hlt : k < 21
  ·obtain ⟨x, hx⟩ : ∃ x, marksV[k]? = some x := ⟨_, gE (by exact hlt)⟩
   have hx2 := marksV_sz x (List.mem_of_getElem? hx)
   have HY := hid (fun h => markAt_yes HM hx h)
   have HN : Hid (x.data.toList.isPrefixOf l = false → MarkAt l (k + 1) M) := (show _ → _ from fun h => markAt_no HM hx h)
   obtain ⟨b, off, rfl, hblt, c0⟩ := str_at HR.out hlt hx
   clear hx HM
   by_cases hz : q + x.size ≤ s.size
   ·have hpe := HP.out x hz
    have d2 : decide ((q : Int) + x.size ≤ s.size) = true := decide_eq_true (by omega)
    have g2 : (q : Int) + x.size ≤ s.size := by omega
    have hsl : ∀ W : World, (Instr.slice 9 (.string s) (some (.int .i64 (q : Int))) (some (.int .i64 ((q : Int) + x.size))) none).run prog W = .ok (.string (s.extract q (q + x.size))) W := fun W => by
     have h := run_slice_string (P := prog) W 9 s .i64 .i64 (q : Int) ((q : Int) + x.size) underlying9 (by omega) (by omega) (by omega)
     rwa [show ((q : Int) + x.size).toNat = q + x.size by omega, Int.toNat_natCast] at h
    cases hp : x.data.toList.isPrefixOf l with
    | true =>
     rw [hp] at hpe
     have he := hid (HY.out hp)
     clear HY HN HP HS hp
     go_wp2
     go_quiet (fail)
     go_wp2
     refine bodyPost_ret (by simp [results, Tryz.results102, go_sem,]; try rfl) rfl ?_
     exact ⟨by rw [he.out], grow_⟩
    | false =>
     rw [hp] at hpe
     have hn : Hid (MarkAt l (k + 1) M) := HN.out hp
     clear HY HN HP HS hp
     go_wp2
     go_quiet (fail)
     go_wp2
     go_roundw
     case rel => exact ⟨k + 1, by omega, hn, by go_num, HR, grow_⟩
     case measure => simp [intOf]; omega
   ·have hn : Hid (MarkAt l (k + 1) M) := HN.out (HS.out x hz)
    have d2 : decide ((q : Int) + x.size ≤ s.size) = false := decide_eq_false (by omega)
    have g2 : ¬ (q : Int) + x.size ≤ s.size := by omega
    clear HY HN HP HS
    go_wp2
    go_quiet (fail)
    go_wp2
    go_roundw
    case rel => exact ⟨k + 1, by omega, hn, by go_num, HR, grow_⟩
    case measure => simp [intOf]; omega
  ·obtain rfl : k = 21 := by omega
   obtain rfl := markAt_end HM (Nat.le_refl _)
   go_wp2
   go_ret
   exact ⟨rfl, hb⟩
def SgR (z : Int × ByteArray × Int × Nat) (w : World) (e : Ending) (w' : World) : Prop :=
 e = .returned (.tuple #[.agg #[.int .i64 z.1, .string z.2.1, .int .i64 z.2.2.1, .bool false], .int .i64 z.2.2.2]) ∧ Below w.heap.size w w'
theorem signZ_note {l : List UInt8} (q : Nat) (h : 0 < noteN l) : signZ l q = (5, trimT ⟨(l.take (noteN l)).toArray⟩, (q : Int), noteN l) := by unfold signZ; rw [if_pos h]
theorem signZ_quo {c : UInt8} {l : List UInt8} (q : Nat) (h : noteN (c :: l) = 0) (hc : c = 39) : signZ (c :: l) q = (3, ⟨((c :: l).take (quoN (c :: l))).toArray⟩, (q : Int), quoN (c :: l)) := by
 subst hc; unfold signZ; rw [if_neg (by omega)]; simp only; rw [if_neg (by decide), if_neg (by decide), if_pos trivial]
theorem signZ_mark {c : UInt8} {l : List UInt8} (q : Nat) (h : noteN (c :: l) = 0) (h1 : firstC c = false) (h2 : figC c = false) (hc : ¬ c = 39) : signZ (c :: l) q = (4, ⟨(markL (c :: l)).toArray⟩, (q : Int), (markL (c :: l)).length) := by
 unfold signZ; rw [if_neg (by omega)]; simp only; rw [if_neg (by rw [h1]; decide), if_neg (by rw [h2]; decide), if_neg hc]
theorem noteN_le (l : List UInt8) : noteN l ≤ l.length := by
 unfold noteN; split
 ·exact runN_le _ _
 ·omega
theorem quoR_le (l : List UInt8) : quoR l ≤ l.length := by
 induction l with
 | nil => exact Nat.le_refl _
 | cons c l ih =>
  unfold quoR
  split
  ·simp
  split
  ·split <;> simp <;> omega
  simp
theorem quoN_le (l : List UInt8) : quoN l ≤ l.length := by
 unfold quoN
 split
 ·omega
 ·have := quoR_le (l.drop 1)
  rw [List.length_drop] at this
  omega
theorem markL_le (l : List UInt8) : (markL l).length ≤ 2 := by
 have key : ∀ ms : List (List UInt8), (∀ m ∈ ms, m.length ≤ 2) → (markF ms l).length ≤ 2 := by
  intro ms
  induction ms with
  | nil => intro _; simp [markF]
  | cons m ms ih =>
   intro h
   by_cases hm : m.isPrefixOf l = true
   ·rw [markF_yes hm]; exact h m (List.mem_cons_self ..)
   ·rw [markF_no hm]; exact ih (fun x hx => h x (List.mem_cons_of_mem _ hx))
 exact key marks04 (by decide)
theorem l04Sign_note (s : ByteArray) (q : Nat) (w : World) (hq : q < s.size) (hs : s.size ≤ 1048576) (hn : 0 < noteN (s.data.toList.drop q)) :
  Calls prog 70 #[.string s, .int .i64 q] w (SgR (signZ (s.data.toList.drop q) q) w) := by
 rw [signZ_note q hn, ← extract_mid]
 have hle := noteN_le (s.data.toList.drop q)
 rw [List.length_drop, ba_len] at hle
 have HN := hid (fun W => l04Note_any s q W (by omega) (by omega))
 generalize noteN (s.data.toList.drop q) = n at hn hle HN ⊢
 have HT := hid (fun W => specTrimmed_any (s.extract q (q + n)) W (by unfold maxLen; simp; omega))
 have hsl : ∀ W : World, (Instr.slice 9 (.string s) (some (.int .i64 (q : Int))) (some (.int .i64 ((q : Int) + n))) none).run prog W = .ok (.string (s.extract q (q + n))) W := fun W => by
  have h := run_slice_string (P := prog) W 9 s .i64 .i64 (q : Int) ((q : Int) + n) underlying9 (by omega) (by omega) (by omega)
  rwa [show ((q : Int) + n).toNat = q + n by omega, Int.toNat_natCast] at h
 unfold SgR
 generalize trimT (s.extract q (q + n)) = x at HT ⊢
 go_enter func70, ntmps70
 go_wp2_with fail
 refine (HN.out _).mono ?_
 rintro e w1 ⟨rfl, rfl⟩
 have hK := Blk.new w 68 #[.int .i64 0, .string ⟨#[]⟩, .int .i64 0, .bool false]
 go_wp2_with fail
 refine (HT.out _).mono ?_
 rintro e w2 ⟨rfl, rfl⟩
 go_wp2
 refine bodyPost_ret (by simp [results, Tryz.results70, go_sem, ]; try rfl) rfl ?_
 exact ⟨rfl, grow_⟩
theorem signZ_name {c : UInt8} {l : List UInt8} (q : Nat) (h : noteN (c :: l) = 0) (h1 : firstC c = true) : signZ (c :: l) q = if 30 < runN innerC (c :: l) then (0, ⟨#[]⟩, 0, 0) else (1, ⟨((c :: l).take (runN innerC (c :: l))).toArray⟩, (q : Int), runN innerC (c :: l)) := by
 unfold signZ; rw [if_neg (by omega)]; simp only; rw [if_pos h1]
theorem signZ_num {c : UInt8} {l : List UInt8} (q : Nat) (h : noteN (c :: l) = 0) (h1 : firstC c = false) (h2 : figC c = true) : signZ (c :: l) q = if 12 < runN figC (c :: l) then (0, ⟨#[]⟩, 0, 0) else (2, ⟨((c :: l).take (runN figC (c :: l))).toArray⟩, (q : Int), runN figC (c :: l)) := by
 unfold signZ; rw [if_neg (by omega)]; simp only; rw [if_neg (by rw [h1]; decide), if_pos h2]
def RunTo (p : UInt8 → Bool) (s : ByteArray) (q n : Nat) : Prop := ((s.data.toList.drop q).take (n - q)).all p = true
section
variable {p : UInt8 → Bool} {s : ByteArray} {q n : Nat}
theorem runTo_zero (p : UInt8 → Bool) (s : ByteArray) (q : Nat) : RunTo p s q q := by unfold RunTo; rw [Nat.sub_self]; rfl
theorem runTo_step (h : RunTo p s q n) (hq : q ≤ n) (hn : n < s.size) (hc : p s[n] = true) : RunTo p s q (n + 1) := by
 unfold RunTo at h ⊢
 have hl : n - q < (s.data.toList.drop q).length := by rw [drop_len]; omega
 rw [show n + 1 - q = n - q + 1 by omega, List.take_succ_eq_append_getElem hl, List.all_append, h, drop_at hq hn hl]
 simp [hc]
theorem runTo_stop (h : RunTo p s q n) (hq : q ≤ n) (hn : n < s.size) (hc : p s[n] = false) : runN p (s.data.toList.drop q) = n - q :=
 runN_at h (fun hl => by rw [drop_at hq hn hl]; exact hc) (by rw [drop_len]; omega)
theorem runTo_end (h : RunTo p s q n) (hq : q ≤ n) (hn : n = s.size) : runN p (s.data.toList.drop q) = n - q :=
 runN_at h (fun hl => by rw [drop_len] at hl; omega) (by rw [drop_len]; omega)
end
theorem l04Sign_name (s : ByteArray) (q : Nat) (w : World) (hq : q < s.size) (hs : s.size ≤ 1048576) (hn : noteN (s.data.toList.drop q) = 0) (hb : firstC s[q] = true) (hk : ¬ 30 < runN innerC (s.data.toList.drop q)) :
  Calls prog 70 #[.string s, .int .i64 q] w (SgR (signZ (s.data.toList.drop q) q) w) := by
 have hz : signZ (s.data.toList.drop q) q = (1, s.extract q (q + runN innerC (s.data.toList.drop q)), (q : Int), runN innerC (s.data.toList.drop q)) := by
  rw [extract_mid]
  rw [drop_get hq] at hn hk ⊢
  rw [signZ_name q hn hb, if_neg hk]
 rw [hz]; clear hz
 have HN := hid (fun W => show Calls prog 97 #[.string s, .int .i64 q] W fun e w' => e = .returned (.int .i64 0) ∧ W = w' by have h := l04Note_any s q W (by omega) (by omega); rwa [hn] at h)
 have HF0 := hid (fun (W : World) => show Calls prog 99 #[.int .u8 (s[q].toNat : Int)] W fun e w' => e = .returned (.bool true) ∧ W = w' by rw [← hb]; exact specFirst_any _ W)
 have hle := runN_le innerC (s.data.toList.drop q)
 rw [drop_len] at hle
 have HR := hid (fun (n : Nat) (h : RunTo innerC s q n) h1 (h2 : n < s.size) h3 => runTo_stop h h1 h2 h3)
 have HE := hid (fun (n : Nat) (h : RunTo innerC s q n) h1 (h2 : n = s.size) => runTo_end h h1 h2)
 generalize runN innerC (s.data.toList.drop q) = K at hk hle HR HE ⊢
 unfold SgR
 have hK := Blk.new w 68 #[.int .i64 0, .string ⟨#[]⟩, .int .i64 0, .bool false]
 clear hn hb
 go_enter func70, ntmps70
 go_wp2_with fail
 refine (HN.out _).mono ?_
 rintro e w1 ⟨rfl, rfl⟩
 go_wp2_with fail
 refine (HF0.out _).mono ?_
 rintro e w1 ⟨rfl, rfl⟩
 go_wp2
 clear HN HF0
 go_loop [6] (fun i => ∃ n : Nat, q ≤ n ∧ n ≤ s.size ∧ Hid (RunTo innerC s q n) ∧ i = .int .i64 n) (fun i => s.size - (intOf i).toNat)
 case atStart => exact ⟨q, by omega, by omega, runTo_zero _ _ _, rfl⟩
 case round =>
  obtain ⟨n, hn1, hn2, ha, rfl⟩ := hrel
  by_cases hlt : n < s.size
  ·have HC := hid (fun (b : Bool) (hb : firstC s[n] = b) (W : World) => show Calls prog 99 #[.int .u8 (s[n].toNat : Int)] W fun e w' => e = .returned (.bool b) ∧ W = w' by rw [← hb]; exact specFirst_any _ W)
   have HG := hid (fun (b : Bool) (hb : figC s[n] = b) (W : World) => show Calls prog 100 #[.int .u8 (s[n].toNat : Int)] W fun e w' => e = .returned (.bool b) ∧ W = w' by rw [← hb]; exact specFigure_any _ W)
   cases hp : firstC s[n] with
   | true =>
    have HC2 := hid (HC.out _ hp)
    have hn : Hid (RunTo innerC s q (n + 1)) := runTo_step ha hn1 hlt (show innerC s[n] = true by unfold innerC; rw [hp]; rfl)
    go_wp2_with fail
    refine (HC2.out _).mono ?_
    rintro e w1 ⟨rfl, rfl⟩
    go_wp2
    go_round
    case rel => exact ⟨n + 1, by omega, by omega, hn, by go_num⟩
    case measure => simp [intOf]; omega
   | false =>
    have HC2 := hid (HC.out _ hp)
    cases hg : figC s[n] with
    | true =>
     have HG2 := hid (HG.out _ hg)
     have hn : Hid (RunTo innerC s q (n + 1)) := runTo_step ha hn1 hlt (show innerC s[n] = true by unfold innerC; rw [hg, Bool.or_true])
     go_wp2_with fail
     refine (HC2.out _).mono ?_
     rintro e w1 ⟨rfl, rfl⟩
     go_wp2_with fail
     refine (HG2.out _).mono ?_
     rintro e w1 ⟨rfl, rfl⟩
     go_wp2
     go_round
     case rel => exact ⟨n + 1, by omega, by omega, hn, by go_num⟩
     case measure => simp [intOf]; omega
    | false =>
     have HG2 := hid (HG.out _ hg)
     have hkn := HR.out n ha hn1 hlt (show innerC s[n] = false by unfold innerC; rw [hp, hg]; rfl)
     clear HC HG hp hg
     go_wp2_with fail
     refine (HC2.out _).mono ?_
     rintro e w1 ⟨rfl, rfl⟩
     go_wp2_with fail
     refine (HG2.out _).mono ?_
     rintro e w1 ⟨rfl, rfl⟩
     have g3 : ¬ (30 : Int) < (n : Int) - q := by omega
     have e1 : q + K = n := by omega
     have e2 : ((K : Nat) : Int) = (n : Int) - q := by omega
     have hsl : ∀ W : World, (Instr.slice 9 (.string s) (some (.int .i64 (q : Int))) (some (.int .i64 (n : Int))) none).run prog W = .ok (.string (s.extract q n)) W := fun W => by
      have h := run_slice_string (P := prog) W 9 s .i64 .i64 (q : Int) (n : Int) underlying9 (by omega) (by omega) (by omega)
      rwa [Int.toNat_natCast, Int.toNat_natCast] at h
     clear HR HE ha hkn HC2 HG2
     go_wp2
     refine bodyPost_ret (by simp [results, Tryz.results70, go_sem, ]; try rfl) rfl ?_
     exact ⟨by simp only [e1, e2], grow_⟩
  ·have hkn := HE.out n ha hn1 (by omega)
   have gl : ¬ (n : Int) < s.size := by omega
   have g3 : ¬ (30 : Int) < (n : Int) - q := by omega
   have e1 : q + K = n := by omega
   have e2 : ((K : Nat) : Int) = (n : Int) - q := by omega
   have hsl : ∀ W : World, (Instr.slice 9 (.string s) (some (.int .i64 (q : Int))) (some (.int .i64 (n : Int))) none).run prog W = .ok (.string (s.extract q n)) W := fun W => by
    have h := run_slice_string (P := prog) W 9 s .i64 .i64 (q : Int) (n : Int) underlying9 (by omega) (by omega) (by omega)
    rwa [Int.toNat_natCast, Int.toNat_natCast] at h
   clear HR HE ha hkn
   go_wp2
   refine bodyPost_ret (by simp [results, Tryz.results70, go_sem, ]; try rfl) rfl ?_
   exact ⟨by simp only [e1, e2], grow_⟩
theorem l04Sign_name_long (s : ByteArray) (q : Nat) (w : World) (hq : q < s.size) (hs : s.size ≤ 1048576) (hn : noteN (s.data.toList.drop q) = 0) (hb : firstC s[q] = true) (hk : 30 < runN innerC (s.data.toList.drop q)) :
  Calls prog 70 #[.string s, .int .i64 q] w (SgR (signZ (s.data.toList.drop q) q) w) := by
 have hz : signZ (s.data.toList.drop q) q = (0, ⟨#[]⟩, 0, 0) := by
  skip
  rw [drop_get hq] at hn hk ⊢
  rw [signZ_name q hn hb, if_pos hk]
 rw [hz]; clear hz
 have HN := hid (fun W => show Calls prog 97 #[.string s, .int .i64 q] W fun e w' => e = .returned (.int .i64 0) ∧ W = w' by have h := l04Note_any s q W (by omega) (by omega); rwa [hn] at h)
 have HF0 := hid (fun (W : World) => show Calls prog 99 #[.int .u8 (s[q].toNat : Int)] W fun e w' => e = .returned (.bool true) ∧ W = w' by rw [← hb]; exact specFirst_any _ W)
 have hle := runN_le innerC (s.data.toList.drop q)
 rw [drop_len] at hle
 have HR := hid (fun (n : Nat) (h : RunTo innerC s q n) h1 (h2 : n < s.size) h3 => runTo_stop h h1 h2 h3)
 have HE := hid (fun (n : Nat) (h : RunTo innerC s q n) h1 (h2 : n = s.size) => runTo_end h h1 h2)
 generalize runN innerC (s.data.toList.drop q) = K at hk hle HR HE ⊢
 unfold SgR
 have hK := Blk.new w 68 #[.int .i64 0, .string ⟨#[]⟩, .int .i64 0, .bool false]
 clear hn hb
 go_enter func70, ntmps70
 go_wp2_with fail
 refine (HN.out _).mono ?_
 rintro e w1 ⟨rfl, rfl⟩
 go_wp2_with fail
 refine (HF0.out _).mono ?_
 rintro e w1 ⟨rfl, rfl⟩
 go_wp2
 clear HN HF0
 go_loop [6] (fun i => ∃ n : Nat, q ≤ n ∧ n ≤ s.size ∧ Hid (RunTo innerC s q n) ∧ i = .int .i64 n) (fun i => s.size - (intOf i).toNat)
 case atStart => exact ⟨q, by omega, by omega, runTo_zero _ _ _, rfl⟩
 case round =>
  obtain ⟨n, hn1, hn2, ha, rfl⟩ := hrel
  by_cases hlt : n < s.size
  ·have HC := hid (fun (b : Bool) (hb : firstC s[n] = b) (W : World) => show Calls prog 99 #[.int .u8 (s[n].toNat : Int)] W fun e w' => e = .returned (.bool b) ∧ W = w' by rw [← hb]; exact specFirst_any _ W)
   have HG := hid (fun (b : Bool) (hb : figC s[n] = b) (W : World) => show Calls prog 100 #[.int .u8 (s[n].toNat : Int)] W fun e w' => e = .returned (.bool b) ∧ W = w' by rw [← hb]; exact specFigure_any _ W)
   cases hp : firstC s[n] with
   | true =>
    have HC2 := hid (HC.out _ hp)
    have hn : Hid (RunTo innerC s q (n + 1)) := runTo_step ha hn1 hlt (show innerC s[n] = true by unfold innerC; rw [hp]; rfl)
    go_wp2_with fail
    refine (HC2.out _).mono ?_
    rintro e w1 ⟨rfl, rfl⟩
    go_wp2
    go_round
    case rel => exact ⟨n + 1, by omega, by omega, hn, by go_num⟩
    case measure => simp [intOf]; omega
   | false =>
    have HC2 := hid (HC.out _ hp)
    cases hg : figC s[n] with
    | true =>
     have HG2 := hid (HG.out _ hg)
     have hn : Hid (RunTo innerC s q (n + 1)) := runTo_step ha hn1 hlt (show innerC s[n] = true by unfold innerC; rw [hg, Bool.or_true])
     go_wp2_with fail
     refine (HC2.out _).mono ?_
     rintro e w1 ⟨rfl, rfl⟩
     go_wp2_with fail
     refine (HG2.out _).mono ?_
     rintro e w1 ⟨rfl, rfl⟩
     go_wp2
     go_round
     case rel => exact ⟨n + 1, by omega, by omega, hn, by go_num⟩
     case measure => simp [intOf]; omega
    | false =>
     have HG2 := hid (HG.out _ hg)
     have hkn := HR.out n ha hn1 hlt (show innerC s[n] = false by unfold innerC; rw [hp, hg]; rfl)
     clear HC HG hp hg
     go_wp2_with fail
     refine (HC2.out _).mono ?_
     rintro e w1 ⟨rfl, rfl⟩
     go_wp2_with fail
     refine (HG2.out _).mono ?_
     rintro e w1 ⟨rfl, rfl⟩
     have g3 :  (30 : Int) < (n : Int) - q := by omega
     clear HR HE ha hkn HC2 HG2
     go_wp2
     refine bodyPost_ret (by simp [results, Tryz.results70, go_sem, ]; try rfl) rfl ?_
     exact ⟨rfl, grow_⟩
  ·have hkn := HE.out n ha hn1 (by omega)
   have gl : ¬ (n : Int) < s.size := by omega
   have g3 :  (30 : Int) < (n : Int) - q := by omega
   clear HR HE ha hkn
   go_wp2
   refine bodyPost_ret (by simp [results, Tryz.results70, go_sem, ]; try rfl) rfl ?_
   exact ⟨rfl, grow_⟩
theorem l04Sign_num (s : ByteArray) (q : Nat) (w : World) (hq : q < s.size) (hs : s.size ≤ 1048576) (hn : noteN (s.data.toList.drop q) = 0) (hb : firstC s[q] = false) (hg : figC s[q] = true) (hk : ¬ 12 < runN figC (s.data.toList.drop q)) :
  Calls prog 70 #[.string s, .int .i64 q] w (SgR (signZ (s.data.toList.drop q) q) w) := by
 have hz : signZ (s.data.toList.drop q) q = (2, s.extract q (q + runN figC (s.data.toList.drop q)), (q : Int), runN figC (s.data.toList.drop q)) := by
  rw [extract_mid]
  rw [drop_get hq] at hn hk ⊢
  rw [signZ_num q hn hb hg, if_neg hk]
 rw [hz]; clear hz
 have HN := hid (fun W => show Calls prog 97 #[.string s, .int .i64 q] W fun e w' => e = .returned (.int .i64 0) ∧ W = w' by have h := l04Note_any s q W (by omega) (by omega); rwa [hn] at h)
 have HF0 := hid (fun (W : World) => show Calls prog 99 #[.int .u8 (s[q].toNat : Int)] W fun e w' => e = .returned (.bool false) ∧ W = w' by rw [← hb]; exact specFirst_any _ W)
 have HG0 := hid (fun (W : World) => show Calls prog 100 #[.int .u8 (s[q].toNat : Int)] W fun e w' => e = .returned (.bool true) ∧ W = w' by rw [← hg]; exact specFigure_any _ W)
 have hle := runN_le figC (s.data.toList.drop q)
 rw [drop_len] at hle
 have HR := hid (fun (n : Nat) (h : RunTo figC s q n) h1 (h2 : n < s.size) h3 => runTo_stop h h1 h2 h3)
 have HE := hid (fun (n : Nat) (h : RunTo figC s q n) h1 (h2 : n = s.size) => runTo_end h h1 h2)
 generalize runN figC (s.data.toList.drop q) = K at hk hle HR HE ⊢
 unfold SgR
 have hK := Blk.new w 68 #[.int .i64 0, .string ⟨#[]⟩, .int .i64 0, .bool false]
 clear hn hb hg
 go_enter func70, ntmps70
 go_wp2_with fail
 refine (HN.out _).mono ?_
 rintro e w1 ⟨rfl, rfl⟩
 go_wp2_with fail
 refine (HF0.out _).mono ?_
 rintro e w1 ⟨rfl, rfl⟩
 go_wp2_with fail
 refine (HG0.out _).mono ?_
 rintro e w1 ⟨rfl, rfl⟩
 go_wp2
 clear HN HF0 HG0
 go_loop [6] (fun i => ∃ n : Nat, q ≤ n ∧ n ≤ s.size ∧ Hid (RunTo figC s q n) ∧ i = .int .i64 n) (fun i => s.size - (intOf i).toNat)
 case atStart => exact ⟨q, by omega, by omega, runTo_zero _ _ _, rfl⟩
 case round =>
  obtain ⟨n, hn1, hn2, ha, rfl⟩ := hrel
  by_cases hlt : n < s.size
  ·skip
   have HG := hid (fun (b : Bool) (hb : figC s[n] = b) (W : World) => show Calls prog 100 #[.int .u8 (s[n].toNat : Int)] W fun e w' => e = .returned (.bool b) ∧ W = w' by rw [← hb]; exact specFigure_any _ W)
   cases hg : figC s[n] with
   | true =>
    have HG2 := hid (HG.out _ hg)
    have hn : Hid (RunTo figC s q (n + 1)) := runTo_step ha hn1 hlt (hg)
    go_wp2_with fail
    refine (HG2.out _).mono ?_
    rintro e w1 ⟨rfl, rfl⟩
    go_wp2
    go_round
    case rel => exact ⟨n + 1, by omega, by omega, hn, by go_num⟩
    case measure => simp [intOf]; omega
   | false =>
    have HG2 := hid (HG.out _ hg)
    have hkn := HR.out n ha hn1 hlt hg
    clear HG hg
    go_wp2_with fail
    refine (HG2.out _).mono ?_
    rintro e w1 ⟨rfl, rfl⟩
    have g3 : ¬ (12 : Int) < (n : Int) - q := by omega
    have e1 : q + K = n := by omega
    have e2 : ((K : Nat) : Int) = (n : Int) - q := by omega
    have hsl : ∀ W : World, (Instr.slice 9 (.string s) (some (.int .i64 (q : Int))) (some (.int .i64 (n : Int))) none).run prog W = .ok (.string (s.extract q n)) W := fun W => by
     have h := run_slice_string (P := prog) W 9 s .i64 .i64 (q : Int) (n : Int) underlying9 (by omega) (by omega) (by omega)
     rwa [Int.toNat_natCast, Int.toNat_natCast] at h
    clear HR HE ha hkn HG2
    go_wp2
    refine bodyPost_ret (by simp [results, Tryz.results70, go_sem, ]; try rfl) rfl ?_
    exact ⟨by simp only [e1, e2], grow_⟩
  ·have hkn := HE.out n ha hn1 (by omega)
   have gl : ¬ (n : Int) < s.size := by omega
   have g3 : ¬ (12 : Int) < (n : Int) - q := by omega
   have e1 : q + K = n := by omega
   have e2 : ((K : Nat) : Int) = (n : Int) - q := by omega
   have hsl : ∀ W : World, (Instr.slice 9 (.string s) (some (.int .i64 (q : Int))) (some (.int .i64 (n : Int))) none).run prog W = .ok (.string (s.extract q n)) W := fun W => by
    have h := run_slice_string (P := prog) W 9 s .i64 .i64 (q : Int) (n : Int) underlying9 (by omega) (by omega) (by omega)
    rwa [Int.toNat_natCast, Int.toNat_natCast] at h
   clear HR HE ha hkn
   go_wp2
   refine bodyPost_ret (by simp [results, Tryz.results70, go_sem, ]; try rfl) rfl ?_
   exact ⟨by simp only [e1, e2], grow_⟩
theorem l04Sign_num_long (s : ByteArray) (q : Nat) (w : World) (hq : q < s.size) (hs : s.size ≤ 1048576) (hn : noteN (s.data.toList.drop q) = 0) (hb : firstC s[q] = false) (hg : figC s[q] = true) (hk : 12 < runN figC (s.data.toList.drop q)) :
  Calls prog 70 #[.string s, .int .i64 q] w (SgR (signZ (s.data.toList.drop q) q) w) := by
 have hz : signZ (s.data.toList.drop q) q = (0, ⟨#[]⟩, 0, 0) := by
  skip
  rw [drop_get hq] at hn hk ⊢
  rw [signZ_num q hn hb hg, if_pos hk]
 rw [hz]; clear hz
 have HN := hid (fun W => show Calls prog 97 #[.string s, .int .i64 q] W fun e w' => e = .returned (.int .i64 0) ∧ W = w' by have h := l04Note_any s q W (by omega) (by omega); rwa [hn] at h)
 have HF0 := hid (fun (W : World) => show Calls prog 99 #[.int .u8 (s[q].toNat : Int)] W fun e w' => e = .returned (.bool false) ∧ W = w' by rw [← hb]; exact specFirst_any _ W)
 have HG0 := hid (fun (W : World) => show Calls prog 100 #[.int .u8 (s[q].toNat : Int)] W fun e w' => e = .returned (.bool true) ∧ W = w' by rw [← hg]; exact specFigure_any _ W)
 have hle := runN_le figC (s.data.toList.drop q)
 rw [drop_len] at hle
 have HR := hid (fun (n : Nat) (h : RunTo figC s q n) h1 (h2 : n < s.size) h3 => runTo_stop h h1 h2 h3)
 have HE := hid (fun (n : Nat) (h : RunTo figC s q n) h1 (h2 : n = s.size) => runTo_end h h1 h2)
 generalize runN figC (s.data.toList.drop q) = K at hk hle HR HE ⊢
 unfold SgR
 have hK := Blk.new w 68 #[.int .i64 0, .string ⟨#[]⟩, .int .i64 0, .bool false]
 clear hn hb hg
 go_enter func70, ntmps70
 go_wp2_with fail
 refine (HN.out _).mono ?_
 rintro e w1 ⟨rfl, rfl⟩
 go_wp2_with fail
 refine (HF0.out _).mono ?_
 rintro e w1 ⟨rfl, rfl⟩
 go_wp2_with fail
 refine (HG0.out _).mono ?_
 rintro e w1 ⟨rfl, rfl⟩
 go_wp2
 clear HN HF0 HG0
 go_loop [6] (fun i => ∃ n : Nat, q ≤ n ∧ n ≤ s.size ∧ Hid (RunTo figC s q n) ∧ i = .int .i64 n) (fun i => s.size - (intOf i).toNat)
 case atStart => exact ⟨q, by omega, by omega, runTo_zero _ _ _, rfl⟩
 case round =>
  obtain ⟨n, hn1, hn2, ha, rfl⟩ := hrel
  by_cases hlt : n < s.size
  ·skip
   have HG := hid (fun (b : Bool) (hb : figC s[n] = b) (W : World) => show Calls prog 100 #[.int .u8 (s[n].toNat : Int)] W fun e w' => e = .returned (.bool b) ∧ W = w' by rw [← hb]; exact specFigure_any _ W)
   cases hg : figC s[n] with
   | true =>
    have HG2 := hid (HG.out _ hg)
    have hn : Hid (RunTo figC s q (n + 1)) := runTo_step ha hn1 hlt (hg)
    go_wp2_with fail
    refine (HG2.out _).mono ?_
    rintro e w1 ⟨rfl, rfl⟩
    go_wp2
    go_round
    case rel => exact ⟨n + 1, by omega, by omega, hn, by go_num⟩
    case measure => simp [intOf]; omega
   | false =>
    have HG2 := hid (HG.out _ hg)
    have hkn := HR.out n ha hn1 hlt hg
    clear HG hg
    go_wp2_with fail
    refine (HG2.out _).mono ?_
    rintro e w1 ⟨rfl, rfl⟩
    have g3 :  (12 : Int) < (n : Int) - q := by omega
    clear HR HE ha hkn HG2
    go_wp2
    refine bodyPost_ret (by simp [results, Tryz.results70, go_sem, ]; try rfl) rfl ?_
    exact ⟨rfl, grow_⟩
  ·have hkn := HE.out n ha hn1 (by omega)
   have gl : ¬ (n : Int) < s.size := by omega
   have g3 :  (12 : Int) < (n : Int) - q := by omega
   clear HR HE ha hkn
   go_wp2
   refine bodyPost_ret (by simp [results, Tryz.results70, go_sem, ]; try rfl) rfl ?_
   exact ⟨rfl, grow_⟩
theorem l04Sign_quo (s : ByteArray) (q : Nat) (w : World) (hq : q < s.size) (hs : s.size ≤ 1048576) (hn : noteN (s.data.toList.drop q) = 0) (hc : s[q] = 39) :
  Calls prog 70 #[.string s, .int .i64 q] w (SgR (signZ (s.data.toList.drop q) q) w) := by
 have hz : signZ (s.data.toList.drop q) q = (3, s.extract q (q + quoN (s.data.toList.drop q)), (q : Int), quoN (s.data.toList.drop q)) := by
  rw [extract_mid]
  rw [drop_get hq] at hn ⊢
  rw [signZ_quo q hn hc]
 rw [hz]; clear hz
 have HN := hid (fun W => show Calls prog 97 #[.string s, .int .i64 q] W fun e w' => e = .returned (.int .i64 0) ∧ W = w' by have h := l04Note_any s q W (by omega) (by omega); rwa [hn] at h)
 have HF0 := hid (fun (W : World) => show Calls prog 99 #[.int .u8 (s[q].toNat : Int)] W fun e w' => e = .returned (.bool false) ∧ W = w' by rw [show false = firstC s[q] by rw [hc]; rfl]; exact specFirst_any _ W)
 have HG0 := hid (fun (W : World) => show Calls prog 100 #[.int .u8 (s[q].toNat : Int)] W fun e w' => e = .returned (.bool false) ∧ W = w' by rw [show false = figC s[q] by rw [hc]; rfl]; exact specFigure_any _ W)
 have HQ := hid (fun W => l04Quoted_any s q W (by omega) (by omega))
 have h39 : ((s[q].toNat : Int) == 39) = true := by rw [hc]; rfl
 have hle := quoN_le (s.data.toList.drop q)
 rw [drop_len] at hle
 generalize quoN (s.data.toList.drop q) = n at hle HQ ⊢
 have hsl : ∀ W : World, (Instr.slice 9 (.string s) (some (.int .i64 (q : Int))) (some (.int .i64 ((q : Int) + n))) none).run prog W = .ok (.string (s.extract q (q + n))) W := fun W => by
  have h := run_slice_string (P := prog) W 9 s .i64 .i64 (q : Int) ((q : Int) + n) underlying9 (by omega) (by omega) (by omega)
  rwa [show ((q : Int) + n).toNat = q + n by omega, Int.toNat_natCast] at h
 unfold SgR
 have hK := Blk.new w 68 #[.int .i64 0, .string ⟨#[]⟩, .int .i64 0, .bool false]
 clear hn hc
 go_enter func70, ntmps70
 go_wp2_with fail
 refine (HN.out _).mono ?_
 rintro e w1 ⟨rfl, rfl⟩
 go_wp2_with fail
 refine (HF0.out _).mono ?_
 rintro e w1 ⟨rfl, rfl⟩
 go_wp2_with fail
 refine (HG0.out _).mono ?_
 rintro e w1 ⟨rfl, rfl⟩
 go_wp2_with fail
 refine (HQ.out _).mono ?_
 rintro e w1 ⟨rfl, rfl⟩
 clear HN HF0 HG0 HQ
 go_wp2
 refine bodyPost_ret (by simp [results, Tryz.results70, go_sem, ]; try rfl) rfl ?_
 exact ⟨rfl, grow_⟩
theorem l04Sign_mark (s : ByteArray) (q : Nat) (w : World) (hq : q < s.size) (hs : s.size ≤ 1048576) (hn : noteN (s.data.toList.drop q) = 0) (hb : firstC s[q] = false) (hg : figC s[q] = false) (hc : ¬ s[q] = 39) :
  Calls prog 70 #[.string s, .int .i64 q] w (SgR (signZ (s.data.toList.drop q) q) w) := by
 have hz : signZ (s.data.toList.drop q) q = (4, ⟨(markL (s.data.toList.drop q)).toArray⟩, (q : Int), (markL (s.data.toList.drop q)).length) := by
  rw [drop_get hq] at hn ⊢
  rw [signZ_mark q hn hb hg hc]
 rw [hz]; clear hz
 have HN := hid (fun W => show Calls prog 97 #[.string s, .int .i64 q] W fun e w' => e = .returned (.int .i64 0) ∧ W = w' by have h := l04Note_any s q W (by omega) (by omega); rwa [hn] at h)
 have HF0 := hid (fun (W : World) => show Calls prog 99 #[.int .u8 (s[q].toNat : Int)] W fun e w' => e = .returned (.bool false) ∧ W = w' by rw [← hb]; exact specFirst_any _ W)
 have HG0 := hid (fun (W : World) => show Calls prog 100 #[.int .u8 (s[q].toNat : Int)] W fun e w' => e = .returned (.bool false) ∧ W = w' by rw [← hg]; exact specFigure_any _ W)
 have HM := hid (fun W => l04Mark_any s q W (by omega) (by omega))
 have h39 := ne_39 hc
 have hle := markL_le (s.data.toList.drop q)
 have hsz : (⟨(markL (s.data.toList.drop q)).toArray⟩ : ByteArray).size = (markL (s.data.toList.drop q)).length := rfl
 revert HM hsz
 generalize (⟨(markL (s.data.toList.drop q)).toArray⟩ : ByteArray) = x
 intro HM hsz
 rw [← hsz] at hle ⊢
 clear hsz
 unfold SgR
 have hK := hid (Blk.new w 68 #[.int .i64 0, .string ⟨#[]⟩, .int .i64 0, .bool false])
 clear hn hc hb hg
 go_enter func70, ntmps70
 go_wp2_with fail
 refine (HN.out _).mono ?_
 rintro e w1 ⟨rfl, rfl⟩
 go_wp2_with fail
 refine (HF0.out _).mono ?_
 rintro e w1 ⟨rfl, rfl⟩
 go_wp2_with fail
 refine (HG0.out _).mono ?_
 rintro e w1 ⟨rfl, rfl⟩
 go_wp2_with fail
 refine (HM.out _).mono ?_
 rintro e w1 ⟨rfl, h1⟩
 clear HN HF0 HG0 HM
 have hb1 := below_box h1
 have K := hK.out.next h1
 have c0 := K.q0
 have c1 := K.q1
 have c2 := K.q2
 have c3 := K.q3
 have fK := K.frozen
 have zK := K.lt
 go_wp2
 refine bodyPost_ret (by simp [results, Tryz.results70, go_sem, c0, c1, c2, c3]; try rfl) rfl ?_
 exact ⟨rfl, grow_⟩
theorem specSign_any (s : ByteArray) (q : Nat) (w : World) (hq : q < s.size) (hs : s.size ≤ 1048576) :
  Calls prog 70 #[.string s, .int .i64 q] w (SgR (signZ (s.data.toList.drop q) q) w) := by
 by_cases hn : 0 < noteN (s.data.toList.drop q)
 ·exact l04Sign_note s q w hq hs hn
 ·have hn0 : noteN (s.data.toList.drop q) = 0 := by omega
  cases hb : firstC s[q] with
  | true =>
   by_cases hk : 30 < runN innerC (s.data.toList.drop q)
   ·exact l04Sign_name_long s q w hq hs hn0 hb hk
   ·exact l04Sign_name s q w hq hs hn0 hb hk
  | false =>
   cases hg : figC s[q] with
   | true =>
    by_cases hk : 12 < runN figC (s.data.toList.drop q)
    ·exact l04Sign_num_long s q w hq hs hn0 hb hg hk
    ·exact l04Sign_num s q w hq hs hn0 hb hg hk
   | false =>
    by_cases hc : s[q] = 39
    ·exact l04Sign_quo s q w hq hs hn0 hc
    ·exact l04Sign_mark s q w hq hs hn0 hb hg hc
def SgI (l : List UInt8) (w : World) (e : Ending) (w' : World) : Prop :=
 ∃ (k : Int) (x : ByteArray) (z : Nat) (ok : Bool), e = .returned (.tuple #[.int .i64 k, .string x, .int .i64 z, .bool ok]) ∧ SgOk l k x z ok ∧ z ≤ l.length ∧ Below w.heap.size w w'
theorem implSign_any (s : ByteArray) (w : World) (h0 : 0 < s.size) (hs : s.size ≤ maxLen) : Calls prog 117 #[.string s] w (SgI s.data.toList w) := by
 have hl := ba_len s
 cases hb : firstC s[0] with
 | true =>
  refine (signAt_name s w h0 hs hb).mono fun e w' ⟨h1, h2⟩ => ⟨_, _, _, _, h1, sg_name h0 hb, ?_, by subst h2; exact Below.refl _ _⟩
  rw [runT_size]; exact runN_le _ _
 | false =>
  cases hg : figC s[0] with
  | true =>
   refine (signAt_num s w h0 hs hb hg).mono fun e w' ⟨h1, h2⟩ => ⟨_, _, _, _, h1, sg_num h0 hb hg, ?_, by subst h2; exact Below.refl _ _⟩
   rw [runT_size]; exact runN_le _ _
  | false =>
   by_cases hq : s[0] = 39
   ·refine (signAt_quo s w h0 hs hb hg hq).mono fun e w' ⟨h1, h2⟩ => ⟨_, _, _, _, h1, sg_quo h0 hq, ?_, by subst h2; exact Below.refl _ _⟩
    rw [hl]
    unfold quoP
    split
    ·exact Nat.zero_le _
    ·simp; omega
   ·cases hp : Lib.hasPrefix s.data.toList [47, 47] with
    | true =>
     refine (signAt_note s w h0 hs hb hg hq hp).mono fun e w' ⟨h1, h2⟩ => ⟨_, _, _, _, h1, sg_note h0 hp, ?_, by subst h2; exact Below.refl _ _⟩
     rw [runT_size]; exact runN_le _ _
    | false =>
     have hm := sg_mark h0 hb hg hq hp
     refine (signAt_mark s w h0 hs hb hg hq hp).mono fun e w' ⟨h1, h2⟩ => ?_
     by_cases hz : markN s = 0
     ·rw [markR_none hz] at h1
      refine ⟨0, ⟨#[]⟩, 0, false, h1, ?_, Nat.zero_le _, h2⟩
      unfold SgOk
      rw [if_neg (by decide)]
      intro q; rw [hm q]; exact hz
     ·rw [markR_some rfl (Nat.pos_of_ne_zero hz)] at h1
      have hle : markN s ≤ s.data.toList.length := by rw [hl]; exact (markN_len s h0).2
      refine ⟨4, _, _, true, h1, ?_, hle, h2⟩
      unfold SgOk
      rw [if_pos rfl]
      exact ⟨Nat.pos_of_ne_zero hz, hle, hm⟩
end Go.Proofs.YtgbikafalcbibaaGreatDoor


/-
  Words of a line: plain words, the reference's way and the program's (PartsOf).
-/
import Derived.Test.YtfapdhfjcnehhaaDoorLines
import Derived.Test.YtfapdhfjcnehhaaDoorShelf
import Derived.Lib.SplitLaws
import Derived.Lib.IndexBytes
import Derived.Maps.AppendAt
namespace Go.Proofs.YtfapdhfjcnehhaaDoor
open Go.RowKit
set_option linter.unusedVariables false

def AllP (p : UInt8 → Bool) (s : ByteArray) (k : Nat) : Prop := (s.data.toList.take k).all p = true
def allB (p : UInt8 → Bool) (s : ByteArray) : Bool := s.data.toList.all p
theorem allP_zero (p : UInt8 → Bool) (s : ByteArray) : AllP p s 0 := by simp [AllP]
theorem allP_step {p : UInt8 → Bool} {s : ByteArray} {k : Nat} (h : AllP p s k) (hk : k < s.size) (hc : p s[k] = true) : AllP p s (k + 1) := by
  unfold AllP at h ⊢
  rw [List.take_succ_eq_append_getElem (by simpa using hk), List.all_append, h]
  simp only [Bool.true_and, List.all_cons, List.all_nil, Bool.and_true]
  exact hc
theorem allP_no {p : UInt8 → Bool} {s : ByteArray} {k : Nat} (hk : k < s.size) (hc : p s[k] = false) : allB p s = false := by
  unfold allB
  rw [List.all_eq_false]
  exact ⟨s[k], by rw [show s[k] = s.data.toList[k]'(by simpa using hk) from rfl]; exact List.getElem_mem _, by simp [hc]⟩
theorem allP_all {p : UInt8 → Bool} {s : ByteArray} {k : Nat} (h : AllP p s k) (hk : s.size ≤ k) : allB p s = true := by
  unfold AllP at h; unfold allB
  rwa [List.take_of_length_le (by rw [ba_len]; exact hk)] at h
def plB (c : UInt8) : Bool := decide (32 ≤ c.toNat ∧ c.toNat ≤ 126)

/-- A word, if there is one. -/
def wordOf (acc : List UInt8) : List ByteArray := if acc.isEmpty then [] else [⟨acc.toArray⟩]
def wordsGo (acc : List UInt8) : List UInt8 → List ByteArray
  | [] => wordOf acc
  | c :: l => if c == 32 then wordOf acc ++ wordsGo [] l else wordsGo (acc ++ [c]) l
def wordsOf (t : ByteArray) : List ByteArray := wordsGo [] t.data.toList
def WordsAt (t : ByteArray) (pre : List ByteArray) (b k : Nat) : Prop := wordsOf t = pre ++ wordsGo ((t.data.toList.take k).drop b) (t.data.toList.drop k)
theorem wordsAt_zero (t : ByteArray) : WordsAt t [] 0 0 := by simp [WordsAt, wordsOf]
theorem word_some {t : ByteArray} {b k : Nat} (hb : b < k) (hk : k ≤ t.size) : wordOf ((t.data.toList.take k).drop b) = [t.extract b k] := by
  unfold wordOf
  rw [if_neg]
  · exact congrArg (fun x => [x]) (ba_ext (by rw [ext_list]))
  · rw [List.isEmpty_iff]
    intro e
    have h3 := congrArg List.length e
    rw [List.length_drop, List.length_take, ba_len] at h3
    simp at h3
    omega
theorem word_none {t : ByteArray} {b k : Nat} (hb : k ≤ b) : wordOf ((t.data.toList.take k).drop b) = [] := by
  unfold wordOf
  rw [List.drop_eq_nil_of_le (by rw [List.length_take]; omega)]
  rfl
theorem wordsAt_step {t : ByteArray} {pre : List ByteArray} {b k : Nat} (h : WordsAt t pre b k) (hb : b ≤ k) (hk : k < t.size) (hc : t[k] ≠ 32) : WordsAt t pre b (k + 1) := by
  unfold WordsAt at h ⊢
  rw [h, drop_cons hk, wordsGo, if_neg (by simpa using hc)]
  congr 2
  rw [List.take_succ_eq_append_getElem (by rw [ba_len]; exact hk), List.drop_append_of_le_length (by rw [List.length_take, ba_len]; omega)]
  rfl
theorem wordsAt_space {t : ByteArray} {pre : List ByteArray} {b k : Nat} (h : WordsAt t pre b k) (hk : k < t.size) (hc : t[k] = 32) : WordsAt t (pre ++ wordOf ((t.data.toList.take k).drop b)) (k + 1) (k + 1) := by
  unfold WordsAt at h ⊢
  rw [h, drop_cons hk, wordsGo, hc, if_pos (by decide)]
  have e : (t.data.toList.take (k + 1)).drop (k + 1) = [] := List.drop_eq_nil_of_le (by rw [List.length_take]; omega)
  rw [e, List.append_assoc]
theorem wordsAt_end {t : ByteArray} {pre : List ByteArray} {b k : Nat} (h : WordsAt t pre b k) (hk : k = t.size) : wordsOf t = pre ++ wordOf ((t.data.toList.take k).drop b) := by
  unfold WordsAt at h
  subst hk
  have e : t.data.toList.drop t.size = [] := List.drop_eq_nil_of_le (by rw [ba_len]; omega)
  rw [h, e, wordsGo]
/-- The words of a line, and whether it may be a line of words. -/
def partsOf (t : ByteArray) : List ByteArray × Bool := if 600 < t.size ∨ allB plB t = false ∨ 10 < (wordsOf t).length then ([], false) else (wordsOf t, true)
theorem parts_big {t : ByteArray} (h : 600 < t.size) : partsOf t = ([], false) := by unfold partsOf; rw [if_pos (.inl h)]
theorem parts_bad {t : ByteArray} (h : allB plB t = false) : partsOf t = ([], false) := by unfold partsOf; rw [if_pos (.inr (.inl h))]
theorem parts_many {t : ByteArray} (h : 10 < (wordsOf t).length) : partsOf t = ([], false) := by unfold partsOf; rw [if_pos (.inr (.inr h))]
theorem parts_yes {t : ByteArray} (h1 : ¬ 600 < t.size) (h2 : allB plB t = true) (h3 : ¬ 10 < (wordsOf t).length) : partsOf t = (wordsOf t, true) := by
  unfold partsOf; rw [if_neg]
  rintro (h | h | h)
  · exact h1 h
  · rw [h2] at h; cases h
  · exact h3 h
theorem plB_no_lo {c : UInt8} (h : (c.toNat : Int) < 32) : plB c = false := by unfold plB; exact decide_eq_false (by omega)
theorem plB_no_hi {c : UInt8} (h : (126 : Int) < c.toNat) : plB c = false := by unfold plB; exact decide_eq_false (by omega)
theorem plB_yes {c : UInt8} (h : ¬ (c.toNat : Int) < 32) (h2 : ¬ (126 : Int) < c.toNat) : plB c = true := by unfold plB; exact decide_eq_true (by omega)
theorem ne_of_beq {a b : Int} (h : (a == b) = true) : (a != b) = false := by rw [bne, h]; rfl
theorem bne_of_beq {a b : Int} (h : (a == b) = false) : (a != b) = true := by rw [bne, h]; rfl
/-- Texts and whether they are right. -/
def PartsR (w : World) (r : List ByteArray × Bool) (e : Ending) (w' : World) : Prop :=
  ∃ (A : Option Addr) (c : Nat), e = .returned (.tuple #[.slice A r.1.length c, .bool r.2]) ∧ Mine w' w.heap.size 9 1 A r.1.length c (strCells r.1) ∧ Below w.heap.size w w'
/-- At place k of the walk over all places and the end. -/
def WAt (t : ByteArray) (pre : List ByteArray) (b k : Nat) : Prop := AllP plB t k ∧ (k ≤ t.size → WordsAt t pre b k) ∧ (t.size < k → wordsOf t = pre)

set_option maxRecDepth 100000 in
set_option maxHeartbeats 2000000 in
theorem specPartsOf_any (t : ByteArray) (w : World) (ht : t.size ≤ 4194304) : Calls Tryd.prog 65 #[.string t] w (PartsR w (partsOf t)) := by
  obtain ⟨i0, hi, hz0, hz1, hz2⟩ := info_parts infoStr
  have HI := Lib.hid (And.intro hi (And.intro hz0 (And.intro hz1 hz2)))
  clear hi hz0 hz1 hz2
  by_cases h6 : 600 < t.size
  · have hst := Lib.hid (parts_big h6)
    go_enter Tryd.func65, Tryd.ntmps65
    go_wp2
    go_ret2
    rw [hst.out]
    exact ⟨some ⟨w.heap.size, 0, none⟩, 0, rfl, own_empty w _ 1, (by repeat' (first | (with_reducible exact Below.refl _ _) | (with_reducible assumption) | (with_reducible refine below_drewN ?_ _) | (with_reducible refine Below.drew ?_) | (with_reducible refine Below.alloc ?_ ?_ _) | (with_reducible refine Below.setCell ?_ ?_ _) | go_size))⟩
  have h600 : t.size ≤ 600 := by omega
  go_enter Tryd.func65, Tryd.ntmps65
  go_wp2
  go_loopw [4, 5, 6] (fun o bb i wr => ∃ (pre : List ByteArray) (b k : Nat), k ≤ t.size + 1 ∧ b ≤ k ∧ pre.length ≤ b ∧ Hid (WAt t pre b k) ∧ bb = .int .i64 b ∧ i = .int .i64 k ∧ Hid (wr.ownsRow w.heap.size 9 1 o pre.length (strCells pre)) ∧ Below w.heap.size w wr) (fun _ _ i _ => t.size + 1 - (intOf i).toNat)
  case atStart => exact ⟨[], 0, 0, Nat.zero_le _, Nat.le_refl _, Nat.le_refl _, ⟨allP_zero _ _, fun _ => wordsAt_zero t, fun h => absurd h (by omega)⟩, rfl, rfl, own_empty w _ 1, (by repeat' (first | (with_reducible exact Below.refl _ _) | (with_reducible assumption) | (with_reducible refine below_drewN ?_ _) | (with_reducible refine Below.drew ?_) | (with_reducible refine Below.alloc ?_ ?_ _) | (with_reducible refine Below.setCell ?_ ?_ _) | go_size))⟩
  case round =>
    obtain ⟨pre, b, k, hk, hbk, hpl, hat, rfl, rfl, HO, hb⟩ := hrel
    by_cases hkn : k < t.size
    · by_cases c1 : (t[k].toNat : Int) < 32
      · have hst := Lib.hid (parts_bad (allP_no hkn (plB_no_lo c1)))
        go_wp2
        go_ret2
        rw [hst.out]
        have hzz := hb.size
        exact ⟨some ⟨wr.heap.size, 0, none⟩, 0, rfl, Mine.more (own_empty wr _ 1) hb.size, (by repeat' (first | (with_reducible exact Below.refl _ _) | (with_reducible assumption) | (with_reducible refine below_drewN ?_ _) | (with_reducible refine Below.drew ?_) | (with_reducible refine Below.alloc ?_ ?_ _) | (with_reducible refine Below.setCell ?_ ?_ _) | go_size))⟩
      by_cases c2 : (126 : Int) < t[k].toNat
      · have hst := Lib.hid (parts_bad (allP_no hkn (plB_no_hi c2)))
        go_wp2
        go_ret2
        rw [hst.out]
        have hzz := hb.size
        exact ⟨some ⟨wr.heap.size, 0, none⟩, 0, rfl, Mine.more (own_empty wr _ 1) hb.size, (by repeat' (first | (with_reducible exact Below.refl _ _) | (with_reducible assumption) | (with_reducible refine below_drewN ?_ _) | (with_reducible refine Below.drew ?_) | (with_reducible refine Below.alloc ?_ ?_ _) | (with_reducible refine Below.setCell ?_ ?_ _) | go_size))⟩
      have hpl2 := Lib.hid (allP_step hat.out.1 hkn (plB_yes c1 c2))
      by_cases hc : t[k] = 32
      · have d1 := ne_of_beq (byte_is (n := 32) (by omega) hc)
        have hsp := Lib.hid (wordsAt_space (hat.out.2.1 (by omega)) hkn hc)
        clear hc
        by_cases hlt : b < k
        · have hw := word_some hlt (show k ≤ t.size by omega)
          rw [hw] at hsp
          clear hw
          go_wp2_with (at_builtin; (refine wpList_append_own _ rfl (.tmp 48) (.tmp 53) _ rfl w.heap.size 9 i0 (.string ⟨#[]⟩) 1 16 Tryd.underlying55 HI.out.1 HI.out.2.1 HI.out.2.2.1 HI.out.2.2.2 rfl (by decide) _ _ _ rfl (HO.out.alloc _) ⟨wr.heap.size, 0, none⟩ 1 1 [.string (t.extract b k)] rfl rfl (cell_one_new _ _ _) (fun x hx => by simp at hx; subst hx; rfl) (by unfold maxLen; omega) (by omega) (by have := hb.size; simp; omega) ?_); intro v' w3 hown3 hg3 hnil3)
          have hb3 := hb.alloc hb.size (.cells #[.string (t.extract b k)] 9)
          have hb4 : Below w.heap.size w w3 := hb3.grown hg3 hb3.size (fun g hg => block_of_own HO.out hg)
          go_wp2
          go_roundw
          case rel => exact ⟨pre ++ [t.extract b k], k + 1, k + 1, by omega, by omega, by simp; omega, ⟨hpl2.out, fun _ => hsp.out, fun h => absurd h (by omega)⟩, by go_num, by go_num, ownsRow_congr hown3 (by simp) (by simp [strCells]), hb4⟩
          case measure => simp [intOf]; omega
        · have hw := word_none (t := t) (show k ≤ b by omega)
          rw [hw, List.append_nil] at hsp
          clear hw
          go_wp2
          go_roundw
          case rel => exact ⟨pre, k + 1, k + 1, by omega, by omega, by omega, ⟨hpl2.out, fun _ => hsp.out, fun h => absurd h (by omega)⟩, by go_num, by go_num, HO.out, hb⟩
          case measure => simp [intOf]; omega
      · have d1 := bne_of_beq (byte_not (n := 32) (by omega) hc)
        have hsp := Lib.hid (wordsAt_step (hat.out.2.1 (by omega)) hbk hkn hc)
        clear hc
        go_wp2
        go_roundw
        case rel => exact ⟨pre, b, k + 1, by omega, by omega, hpl, ⟨hpl2.out, fun _ => hsp.out, fun h => absurd h (by omega)⟩, rfl, by go_num, HO.out, hb⟩
        case measure => simp [intOf]; omega
    · by_cases hke : k = t.size
      · have hsp := Lib.hid (wordsAt_end (hat.out.2.1 (by omega)) hke)
        have hpl2 := Lib.hid (show AllP plB t (k + 1) from (by have h := allP_all hat.out.1 (show t.size ≤ k by omega); unfold AllP; unfold allB at h; rw [List.take_of_length_le (by rw [ba_len]; omega)]; exact h))
        subst hke
        by_cases hlt : b < t.size
        · have hw := word_some hlt (Nat.le_refl t.size)
          rw [hw] at hsp
          clear hw
          go_wp2_with (at_builtin; (refine wpList_append_own _ rfl (.tmp 48) (.tmp 53) _ rfl w.heap.size 9 i0 (.string ⟨#[]⟩) 1 16 Tryd.underlying55 HI.out.1 HI.out.2.1 HI.out.2.2.1 HI.out.2.2.2 rfl (by decide) _ _ _ rfl (HO.out.alloc _) ⟨wr.heap.size, 0, none⟩ 1 1 [.string (t.extract b t.size)] rfl rfl (cell_one_new _ _ _) (fun x hx => by simp at hx; subst hx; rfl) (by unfold maxLen; omega) (by omega) (by have := hb.size; simp; omega) ?_); intro v' w3 hown3 hg3 hnil3)
          have hb3 := hb.alloc hb.size (.cells #[.string (t.extract b t.size)] 9)
          have hb4 : Below w.heap.size w w3 := hb3.grown hg3 hb3.size (fun g hg => block_of_own HO.out hg)
          go_wp2
          go_roundw
          case rel => exact ⟨pre ++ [t.extract b t.size], t.size + 1, t.size + 1, by omega, by omega, (by rw [List.length_append]; simp only [List.length_cons, List.length_nil]; omega), ⟨hpl2.out, fun h => absurd h (by omega), fun _ => hsp.out⟩, by go_num, by go_num, ownsRow_congr hown3 (by simp) (by simp [strCells]), hb4⟩
          case measure => simp [intOf]
        · have hw := word_none (t := t) (show t.size ≤ b by omega)
          rw [hw, List.append_nil] at hsp
          clear hw
          go_wp2
          go_roundw
          case rel => exact ⟨pre, t.size + 1, t.size + 1, by omega, by omega, by omega, ⟨hpl2.out, fun h => absurd h (by omega), fun _ => hsp.out⟩, by go_num, by go_num, HO.out, hb⟩
          case measure => simp [intOf]
      · have hk1 : t.size < k := by omega
        have hall := allP_all hat.out.1 (show t.size ≤ k by omega)
        have hwo := Lib.hid (hat.out.2.2 hk1)
        obtain ⟨A, c, rfl, hm⟩ := Mine.of HO.out
        have HM := Lib.hid hm
        obtain ⟨m, hm2⟩ : ∃ m, pre.length = m := ⟨_, rfl⟩
        rw [hm2] at HM
        rw [hm2]
        have Hm := Lib.hid hm2
        have hmb : m ≤ 601 := by omega
        clear hm hm2
        by_cases h10 : 10 < m
        · have hst := Lib.hid (parts_many (t := t) (by rw [hwo.out, Hm.out]; exact h10))
          clear hall
          go_wp2
          go_ret2
          rw [hst.out]
          have hzz := hb.size
          exact ⟨some ⟨wr.heap.size, 0, none⟩, 0, rfl, Mine.more (own_empty wr _ 1) hb.size, (by repeat' (first | (with_reducible exact Below.refl _ _) | (with_reducible assumption) | (with_reducible refine below_drewN ?_ _) | (with_reducible refine Below.drew ?_) | (with_reducible refine Below.alloc ?_ ?_ _) | (with_reducible refine Below.setCell ?_ ?_ _) | go_size))⟩
        · have hst := Lib.hid (parts_yes h6 hall (by rw [hwo.out, Hm.out]; exact h10))
          clear hall
          go_wp2
          go_ret2
          rw [hst.out, hwo.out]
          exact ⟨A, c, by rw [show (pre, true).1.length = m from Hm.out]; rfl, (by rw [show (pre, true).1.length = m from Hm.out]; exact HM.out), hb⟩

def spSep : ByteArray := ⟨#[32]⟩
theorem ixS (s : ByteArray) : Lib.indexB s spSep = Lib.indexByte s.data.toList 32 := Lib.index_one s.data.toList 32
theorem wordsGo_cut (l : List UInt8) : ∀ acc : List UInt8,
    (Lib.indexByte l 32 = -1 → wordsGo acc l = wordOf (acc ++ l)) ∧
    (∀ k : Nat, Lib.indexByte l 32 = k → wordsGo acc l = wordOf (acc ++ l.take k) ++ wordsGo [] (l.drop (k + 1))) := by
  induction l with
  | nil =>
    intro acc
    refine ⟨fun _ => by simp [wordsGo], fun k h => ?_⟩
    simp [Lib.indexByte] at h
  | cons b l ih =>
    intro acc
    rw [Lib.indexByte, wordsGo]
    by_cases h : (b == 32) = true
    · rw [if_pos h, if_pos h]
      refine ⟨fun e => by omega, fun k e => ?_⟩
      obtain rfl : k = 0 := by omega
      simp
    · rw [if_neg h, if_neg h]
      obtain ⟨h1, h2⟩ := ih (acc ++ [b])
      rcases ix_cases 32 l with e1 | ⟨j, e1, _⟩
      · rw [e1]
        refine ⟨fun _ => ?_, fun k e => ?_⟩
        · rw [h1 e1]; simp
        · simp at e
      · rw [e1, if_neg (by rw [beq_iff_eq]; omega)]
        refine ⟨fun e => by omega, fun k e => ?_⟩
        obtain rfl : k = j + 1 := by omega
        rw [h2 j e1]; simp
def fullB (s : ByteArray) : Bool := decide (s.size ≠ 0)
theorem wordOf_ba (s : ByteArray) : wordOf s.data.toList = [s].filter fullB := by
  unfold wordOf
  by_cases h : s.size = 0
  · have e : s.data.toList = [] := List.eq_nil_of_length_eq_zero (by rw [ba_len]; exact h)
    have hf : fullB s = false := decide_eq_false (fun g => g h)
    rw [e, List.filter_cons_of_neg (by rw [hf]; decide)]
    rfl
  · have h2 : ¬ s.data.toList = [] := fun e => h (by rw [← ba_len, e]; rfl)
    have hf : fullB s = true := decide_eq_true h
    rw [if_neg (by simpa using h2), List.filter_cons_of_pos hf]
    rfl
theorem split_words (n : Nat) : ∀ s : ByteArray, s.size ≤ n → (Lib.splitB spSep 0 (Lib.countB s spSep) s).filter fullB = wordsOf s := by
  induction n with
  | zero =>
    intro s hs
    have h0 : s.data.toList = [] := List.eq_nil_of_length_eq_zero (by rw [ba_len]; omega)
    have hm : Lib.indexB s spSep = -1 := by rw [ixS, h0]; rfl
    rw [Lib.splitB_miss _ _ _ _ hm, ← wordOf_ba, wordsOf, h0]; rfl
  | succ n ih =>
    intro s hs
    obtain ⟨g1, g2⟩ := wordsGo_cut s.data.toList []
    rcases ix_cases 32 s.data.toList with e | ⟨k, e, hk⟩
    · have hm : Lib.indexB s spSep = -1 := by rw [ixS, e]
      rw [Lib.splitB_miss _ _ _ _ hm, ← wordOf_ba, wordsOf, g1 e, List.nil_append]
    · have hm : Lib.indexB s spSep = k := by rw [ixS, e]
      rw [ba_len] at hk
      have h3 := ih (s.extract (k + 1) s.size) (by rw [ByteArray.size_extract]; omega)
      rw [Lib.countB_hit s spSep k (by decide) hm, Nat.add_comm, Lib.splitB_hit _ _ _ _ _ hm, Nat.add_zero]
      show List.filter fullB (_ :: Lib.splitB spSep 0 (Lib.countB (s.extract (k + 1) s.size) spSep) (s.extract (k + 1) s.size)) = _
      have e4 : (s.extract (k + 1) s.size).data.toList = s.data.toList.drop (k + 1) := by rw [ext_list, List.take_of_length_le (by rw [ba_len]; exact Nat.le_refl _)]
      have e5 : (s.extract 0 k).data.toList = s.data.toList.take k := by rw [ext_list]; simp
      rw [wordsOf, g2 k e, List.nil_append, ← e5, wordOf_ba, ← e4]
      rw [show (s.extract 0 k :: Lib.splitB spSep 0 (Lib.countB (s.extract (k + 1) s.size) spSep) (s.extract (k + 1) s.size)) = [s.extract 0 k] ++ Lib.splitB spSep 0 (Lib.countB (s.extract (k + 1) s.size) spSep) (s.extract (k + 1) s.size) from rfl]
      rw [List.filter_append, h3]
      rfl
def fullTo (ps : List ByteArray) (k : Nat) : List ByteArray := (ps.take k).filter fullB
theorem fullTo_yes {ps : List ByteArray} {k : Nat} {p : ByteArray} (h : ps[k]? = some p) (hp : p.size ≠ 0) : fullTo ps (k + 1) = fullTo ps k ++ [p] := by
  unfold fullTo; rw [List.take_add_one, h]; simp [List.filter_append, fullB, hp]
theorem fullTo_no {ps : List ByteArray} {k : Nat} {p : ByteArray} (h : ps[k]? = some p) (hp : p.size = 0) : fullTo ps (k + 1) = fullTo ps k := by
  unfold fullTo; rw [List.take_add_one, h]; simp [List.filter_append, fullB, hp]
theorem fullTo_len (ps : List ByteArray) (k : Nat) : (fullTo ps k).length ≤ k := by
  unfold fullTo; exact Nat.le_trans (List.length_filter_le _ _) (by rw [List.length_take]; omega)
theorem fullTo_all {ps : List ByteArray} {k : Nat} (h : ps.length ≤ k) : fullTo ps k = ps.filter fullB := by
  unfold fullTo; rw [List.take_of_length_le h]
set_option maxRecDepth 100000 in
set_option maxHeartbeats 2000000 in
theorem implPartsOf_any (t : ByteArray) (m : Int) (w : World) (ht : t.size ≤ 4194304) (hm : w.cell? ⟨0, 0, none⟩ = some (.int .i64 m)) : Calls Tryd.prog 67 #[.string t] w (PartsR w (partsOf t)) := by
  obtain ⟨i0, hi, hz0, hz1, hz2⟩ := info_parts infoStr
  have HI := Lib.hid (And.intro hi (And.intro hz0 (And.intro hz1 hz2)))
  clear hi hz0 hz1 hz2
  by_cases h6 : 600 < t.size
  · have hst := Lib.hid (parts_big h6)
    clear hm
    go_enter Tryd.func67, Tryd.ntmps67
    go_wp2
    go_ret2
    rw [hst.out]
    exact ⟨none, 0, rfl, Mine.mk_nil _ _ _ _, Below.refl _ _⟩
  have h600 : t.size ≤ 600 := by omega
  obtain ⟨ps, hps⟩ : ∃ ps, Lib.splitB spSep 0 (Lib.countB t spSep) t = ps := ⟨_, rfl⟩
  have HW := Lib.hid (show ps.filter fullB = wordsOf t by rw [← hps]; exact split_words t.size t (Nat.le_refl _))
  obtain ⟨N, hN⟩ : ∃ N, Lib.countB t spSep = N := ⟨_, rfl⟩
  have hle := Lib.countB_le spSep (by decide) t.size t (Nat.le_refl _)
  have hlen := Lib.splitB_all spSep (by decide) 0 _ t rfl
  rw [hps, hN] at hlen
  rw [hN] at hle
  have HL := Lib.hid hlen
  have HS := Lib.hid (show Calls Tryd.prog 86 #[.string t, .string spSep] w (fun e w' => e = .returned (.slice (some ⟨w.heap.size, 0, none⟩) (N + 1) (N + 1)) ∧ w' = w.alloc (.cells (ps.map Value.string).toArray 9)) from (by have h := Tryd.strings_Split t spSep m w (by omega) hm (by decide); rw [hN] at hps; rw [hN, hps] at h; exact h))
  clear hm hlen hps hN
  go_enter Tryd.func67, Tryd.ntmps67
  go_wp2
  go_loop [4] (fun i => ∃ k : Nat, k ≤ t.size ∧ Hid (AllP plB t k) ∧ i = .int .i64 k) (fun i => t.size - (intOf i).toNat)
  case atStart => exact ⟨0, Nat.zero_le _, allP_zero _ _, rfl⟩
  case round =>
    obtain ⟨k, hk, hat, rfl⟩ := hrel
    by_cases hkn : k < t.size
    · by_cases c1 : (t[k].toNat : Int) < 32
      · have hst := Lib.hid (parts_bad (allP_no hkn (plB_no_lo c1)))
        go_wp2
        go_ret2
        rw [hst.out]
        exact ⟨none, 0, rfl, Mine.mk_nil _ _ _ _, Below.refl _ _⟩
      by_cases c2 : (126 : Int) < t[k].toNat
      · have hst := Lib.hid (parts_bad (allP_no hkn (plB_no_hi c2)))
        go_wp2
        go_ret2
        rw [hst.out]
        exact ⟨none, 0, rfl, Mine.mk_nil _ _ _ _, Below.refl _ _⟩
      have hpl2 := allP_step hat.out hkn (plB_yes c1 c2)
      go_wp2
      go_round
      case rel => exact ⟨k + 1, by omega, hpl2, by go_num⟩
      case measure => simp [intOf]; omega
    · have hall := Lib.hid (allP_all hat.out (show t.size ≤ k by omega))
      have mP := Lib.hid (show Mine (w.alloc (.cells (ps.map Value.string).toArray 9)) w.heap.size 9 1 (some ⟨w.heap.size, 0, none⟩) (N + 1) (N + 1) (strCells ps) from (by
        refine Mine.mk_own ⟨[], ?_, ?_⟩ (by rw [strCells_len, HL.out]; omega) (Nat.le_refl _) (Nat.le_refl _) (by unfold maxLen; omega)
        · simpa [strCells] using Blk.new w 9 (ps.map Value.string).toArray
        · rw [List.append_nil, strCells_len, HL.out]; omega))
      have hb0 := Lib.hid ((Below.refl w.heap.size w).alloc (Nat.le_refl _) (.cells (ps.map Value.string).toArray 9))
      generalize hC : (ps.map Value.string).toArray = C at HS mP hb0
      clear hC hat
      go_wp2_with fail
      refine (HS.out).mono ?_
      rintro e w2 ⟨rfl, rfl⟩
      obtain ⟨ws, hws⟩ : ∃ ws, w.alloc (.cells C 9) = ws := ⟨_, rfl⟩
      rw [hws] at mP hb0
      rw [hws]
      clear hws
      go_wp2
      go_loopw [5, 30] (fun o i wr => ∃ j : Nat, j ≤ N + 1 ∧ i = .int .i64 j ∧ Hid (wr.ownsRow w.heap.size 9 1 o (fullTo ps j).length (strCells (fullTo ps j))) ∧ Hid (Mine wr w.heap.size 9 1 (some ⟨w.heap.size, 0, none⟩) (N + 1) (N + 1) (strCells ps)) ∧ Hid (∀ g, Value.ownBlock o = some g → w.heap.size < g) ∧ Below w.heap.size w wr) (fun _ i _ => N + 1 - (intOf i).toNat)
      case atStart => exact ⟨0, Nat.zero_le _, rfl, ⟨by simp [fullTo, strCells], .inl ⟨rfl, by simp [fullTo]⟩⟩, mP, (fun g h => by simp [Value.ownBlock] at h), hb0⟩
      case round =>
        clear mP hb0
        obtain ⟨j, hj, rfl, HO, HM, HG, hb⟩ := hrel
        have hz0 : w.heap.size < wr.heap.size := (HM.out.blk (g := w.heap.size) rfl).2
        have hlen := fullTo_len ps j
        by_cases hjn : j < N + 1
        · obtain ⟨p, hd⟩ : ∃ d, ps[j]? = some d := ⟨_, List.getElem?_eq_getElem (by have := HL.out; omega)⟩
          obtain ⟨b', off, e9, hblt, c0⟩ := str_at HM.out.rd hjn hd
          injection e9 with e9
          injection e9 with e9 e10
          subst e9; subst e10
          simp only [Nat.zero_add] at c0
          by_cases hp : p.size = 0
          · have hst := Lib.hid (fullTo_no hd hp)
            obtain rfl : p = ⟨#[]⟩ := ba_ext (List.eq_nil_of_length_eq_zero (by rw [ba_len]; exact hp))
            clear hd hp
            go_wp2
            go_roundw
            case rel => exact ⟨j + 1, by omega, by go_num, ownsRow_congr HO.out (by rw [hst.out]) (by rw [hst.out]), HM, HG, hb⟩
            case measure => simp [intOf]; omega
          · have hst := Lib.hid (fullTo_yes hd hp)
            have hne := ne_nil (show 0 < p.size by omega)
            have hne2 : (!p.toList.isEmpty) = true := by rw [List.isEmpty_eq_false_iff.2 hne]; rfl
            clear hd hp
            go_wp2_with (at_builtin; (refine wpList_append_own_at _ rfl (.tmp 36) (.tmp 38) _ rfl w.heap.size 9 i0 (.string ⟨#[]⟩) 1 16 Tryd.underlying55 HI.out.1 HI.out.2.1 HI.out.2.2.1 HI.out.2.2.2 rfl (by decide) _ _ _ rfl (HO.out.alloc _) ⟨wr.heap.size, 0, none⟩ 1 1 [.string p] rfl rfl (cell_one_new _ _ _) (fun x hx => by simp at hx; subst hx; rfl) (by unfold maxLen; omega) (by omega) (by have := hb.size; simp; omega) ?_); intro v' w3 hown3 hg3 hnil3 hat3)
            have hb3 := hb.alloc hb.size (.cells #[.string p] 9)
            have hb4 : Below w.heap.size w w3 := hb3.grown hg3 hb3.size (fun g hg => block_of_own HO.out hg)
            have HM4 := Lib.hid (Mine.grown (Mine.alloc HM.out (.cells #[.string p] 9)) hg3 (fun g hg => .inr (fun e => by have h1 := HG.out g hg; injection e with e; have e : w.heap.size = g := e; omega)))
            have HG4 := Lib.hid (show ∀ g, v'.ownBlock = some g → w.heap.size < g from (fun g hg => by
              rcases hat3 with h | h
              · exact HG.out g (h.symm.trans hg)
              · rw [h] at hg; injection hg with hg; simp at hg; omega))
            clear hat3 hnil3 hg3
            go_wp2
            go_roundw
            case rel => exact ⟨j + 1, by omega, by go_num, ownsRow_congr hown3 (by rw [hst.out]; simp) (by rw [hst.out]; simp [strCells]), HM4, HG4, hb4⟩
            case measure => simp [intOf]; omega
        · have hwo := Lib.hid (show wordsOf t = fullTo ps j by rw [← HW.out, fullTo_all (by have := HL.out; omega)])
          obtain ⟨A, c, rfl, hm⟩ := Mine.of HO.out
          have HM := Lib.hid hm
          obtain ⟨pre, hpre⟩ : ∃ pre, fullTo ps j = pre := ⟨_, rfl⟩
          rw [hpre] at HM hlen hwo
          rw [hpre]
          obtain ⟨m, hm2⟩ : ∃ m, pre.length = m := ⟨_, rfl⟩
          rw [hm2] at HM hlen
          rw [hm2]
          have Hm := Lib.hid hm2
          clear hm hm2 hpre
          by_cases h10 : 10 < m
          · have hst := Lib.hid (parts_many (t := t) (by rw [hwo.out, Hm.out]; exact h10))
            go_wp2
            go_ret2
            rw [hst.out]
            exact ⟨none, 0, rfl, Mine.mk_nil _ _ _ _, hb⟩
          · have hst := Lib.hid (parts_yes h6 hall.out (by rw [hwo.out, Hm.out]; exact h10))
            go_wp2
            go_ret2
            rw [hst.out, hwo.out]
            exact ⟨A, c, by rw [show (pre, true).1.length = m from Hm.out]; rfl, (by rw [show (pre, true).1.length = m from Hm.out]; exact HM.out), hb⟩
end Go.Proofs.YtfapdhfjcnehhaaDoor

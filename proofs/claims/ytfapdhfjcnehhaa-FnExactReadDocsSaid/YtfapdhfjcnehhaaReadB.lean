
/-
  Files read from a text: the program's way (impl.ReadDocs).
-/
import Derived.Test.YtfapdhfjcnehhaaReadA
import Derived.Test.YtfapdhfjcnehhaaShelf
namespace Go.Proofs.Ytfapdhfjcnehhaa
open Go.RowKit
set_option linter.unusedVariables false

theorem ix_cases (c : UInt8) (l : List UInt8) : Lib.indexByte l c = -1 ∨ ∃ k : Nat, Lib.indexByte l c = k ∧ k < l.length := by
  induction l with
  | nil => exact .inl rfl
  | cons b l ih =>
    rw [Lib.indexByte]
    by_cases h : (b == c) = true
    · rw [if_pos h]; exact .inr ⟨0, rfl, by simp⟩
    · rw [if_neg h]
      rcases ih with h1 | ⟨k, h1, h2⟩
      · rw [h1]; exact .inl rfl
      · rw [h1, if_neg (by rw [beq_iff_eq]; omega)]
        exact .inr ⟨k + 1, by omega, by simp; omega⟩
theorem linesGo_cut (l : List UInt8) : ∀ acc : List UInt8,
    (Lib.indexByte l 10 = -1 → linesGo acc l = if (acc ++ l).isEmpty then [] else [⟨(acc ++ l).toArray⟩]) ∧
    (∀ k : Nat, Lib.indexByte l 10 = k → linesGo acc l = ⟨(acc ++ l.take k).toArray⟩ :: linesGo [] (l.drop (k + 1))) := by
  induction l with
  | nil =>
    intro acc
    refine ⟨fun _ => by simp [linesGo], fun k h => ?_⟩
    simp [Lib.indexByte] at h
  | cons b l ih =>
    intro acc
    rw [Lib.indexByte, linesGo]
    by_cases h : (b == 10) = true
    · rw [if_pos h, if_pos h]
      refine ⟨fun e => by omega, fun k e => ?_⟩
      obtain rfl : k = 0 := by omega
      simp
    · rw [if_neg h, if_neg h]
      obtain ⟨h1, h2⟩ := ih (acc ++ [b])
      rcases ix_cases 10 l with e1 | ⟨j, e1, _⟩
      · rw [e1]
        refine ⟨fun _ => ?_, fun k e => ?_⟩
        · rw [h1 e1]; simp
        · simp at e
      · rw [e1, if_neg (by rw [beq_iff_eq]; omega)]
        refine ⟨fun e => by omega, fun k e => ?_⟩
        obtain rfl : k = j + 1 := by omega
        rw [h2 j e1]; simp
/-- The first line of a text that is not empty, and what is behind it. -/
def cutLine (t : ByteArray) : ByteArray := if Lib.indexByte t.data.toList 10 < 0 then t else t.extract 0 (Lib.indexByte t.data.toList 10).toNat
def cutRest (t : ByteArray) : ByteArray := if Lib.indexByte t.data.toList 10 < 0 then ⟨#[]⟩ else t.extract ((Lib.indexByte t.data.toList 10).toNat + 1) t.size
theorem lines_cut {t : ByteArray} (h : 0 < t.size) : linesOf t = cutLine t :: linesOf (cutRest t) := by
  unfold linesOf cutLine cutRest
  obtain ⟨h1, h2⟩ := linesGo_cut t.data.toList []
  rcases ix_cases 10 t.data.toList with e | ⟨k, e, hk⟩
  · rw [h1 e, e, if_neg, if_pos (by omega), if_pos (by omega)]
    · simp [linesGo]
    · rw [List.nil_append, List.isEmpty_iff]
      intro e2
      have h3 := ba_len t
      rw [e2] at h3
      simp at h3
      omega
  · rw [h2 k e, e, if_neg (by omega), if_neg (by omega)]
    rw [ba_len] at hk
    congr 1
    · exact ba_ext (by rw [ext_list]; simp)
    · congr 1
      rw [ext_list, Int.toNat_natCast, List.take_of_length_le (by rw [ba_len]; exact Nat.le_refl _)]
theorem rest_size {t : ByteArray} (h : 0 < t.size) : (cutRest t).size < t.size := by
  unfold cutRest
  split
  · exact h
  · rw [ByteArray.size_extract]; omega
theorem line_size (t : ByteArray) : (cutLine t).size ≤ t.size := by
  unfold cutLine
  split
  · exact Nat.le_refl _
  · rw [ByteArray.size_extract]; omega

/-- Two results that a cut has, and a third that nobody asks for. -/
def CutP (t : ByteArray) (w : World) (e : Ending) (w' : World) : Prop :=
  ∃ b : Bool, e = .returned (.tuple #[.string (cutLine t), .string (cutRest t), .bool b]) ∧ Below w.heap.size w w'
set_option maxHeartbeats 800000 in
theorem liteCut_any (t : ByteArray) (w : World) (ht : t.size ≤ 4194304) : Calls Try.prog 63 #[.string t, .string ⟨#[10]⟩] w (CutP t w) := by
  have HX := Lib.hid (fun w => Try.stringslite_Index_one t 10 w)
  rcases ix_cases 10 t.data.toList with e | ⟨k, e, hk⟩
  · have e1 := Lib.hid (show cutLine t = t by unfold cutLine; rw [e, if_pos (by omega)])
    have e2 := Lib.hid (show cutRest t = ⟨#[]⟩ by unfold cutRest; rw [e, if_pos (by omega)])
    rw [e] at HX
    clear e
    go_enter Try.func63, Try.ntmps63
    go_wp2_with (go_at_call 68; refine (HX.out _).mono ?_; rintro e w1 ⟨rfl, rfl⟩)
    go_ret3
    exact ⟨false, by rw [e1.out, e2.out]; rfl, (by repeat' (first | (with_reducible exact Below.refl _ _) | (with_reducible assumption) | (with_reducible refine below_drewN ?_ _) | (with_reducible refine Below.drew ?_) | (with_reducible refine Below.alloc ?_ ?_ _) | (with_reducible refine Below.setCell ?_ ?_ _) | go_size))⟩
  · rw [ba_len] at hk
    have e1 := Lib.hid (show cutLine t = t.extract 0 k by unfold cutLine; rw [e, if_neg (by omega)]; rfl)
    have e2 := Lib.hid (show cutRest t = t.extract (k + 1) t.size by unfold cutRest; rw [e, if_neg (by omega)]; rfl)
    rw [e] at HX
    clear e
    have w1 : IntKind.i64.wrap ((k : Int) + 1) = k + 1 := IntWalk.i64_in _ (by omega)
    have i1 : (0 : Int) ≤ k := by omega
    have i2 : (k : Int) ≤ t.size := by omega
    have i3 : (0 : Int) ≤ (k : Int) + 1 := by omega
    have i4 : (k : Int) + 1 ≤ t.size := by omega
    have i5 : ((k : Int) + 1).toNat = k + 1 := by omega
    go_enter Try.func63, Try.ntmps63
    go_wp2_with (go_at_call 68; refine (HX.out _).mono ?_; rintro e w1 ⟨rfl, rfl⟩)
    go_quiet (fail)
    go_wp2
    go_ret3
    exact ⟨true, by rw [e1.out, e2.out]; rfl, (by repeat' (first | (with_reducible exact Below.refl _ _) | (with_reducible assumption) | (with_reducible refine below_drewN ?_ _) | (with_reducible refine Below.drew ?_) | (with_reducible refine Below.alloc ?_ ?_ _) | (with_reducible refine Below.setCell ?_ ?_ _) | go_size))⟩
set_option maxHeartbeats 800000 in
theorem cut_any (t : ByteArray) (w : World) (ht : t.size ≤ 4194304) : Calls Try.prog 53 #[.string t, .string ⟨#[10]⟩] w (CutP t w) := by
  go_enter Try.func53, Try.ntmps53
  go_wp2_with fail
  refine (liteCut_any t _ ht).mono ?_
  rintro e w2 ⟨b, rfl, h2⟩
  go_wp2
  go_ret3
  exact ⟨b, rfl, h2⟩

def markedB (s : ByteArray) : Bool := decide (s.extract 0 4 = mark4)
def nameOf (s : ByteArray) : ByteArray := if s.extract 0 4 = mark4 then s.extract 4 s.size else s
theorem take_four (s : ByteArray) : s.extract 0 4 = mark4 ↔ s.data.toList.take 4 = [61, 61, 61, 32] := by
  constructor
  · intro h
    have h1 := ext_list s 0 4
    rw [h] at h1
    rw [show mark4.data.toList = [61, 61, 61, 32] from rfl] at h1
    simpa using h1.symm
  · intro h
    refine ba_ext ?_
    rw [ext_list, h]
    rfl
theorem hasPre (s : ByteArray) : Lib.hasPrefix s.data.toList mark4.data.toList = markedB s := by
  unfold Lib.hasPrefix markedB
  rw [Bool.eq_iff_iff, List.isPrefixOf_iff_prefix, decide_eq_true_eq, take_four, List.prefix_iff_eq_take]
  exact ⟨fun h => h.symm, fun h => h.symm⟩
theorem cutPrefix_any (s : ByteArray) (w : World) : Calls Try.prog 54 #[.string s, .string mark4] w fun e w' => e = .returned (.tuple #[.string (nameOf s), .bool (markedB s)]) ∧ w = w' := by
  refine (Try.strings_CutPrefix s mark4 w).mono ?_
  rintro e w' ⟨rfl, rfl⟩
  refine ⟨?_, rfl⟩
  rw [hasPre]
  have e1 : (⟨(Lib.trimPrefix s.data.toList mark4.data.toList).toArray⟩ : ByteArray) = nameOf s := by
    unfold Lib.trimPrefix nameOf
    rw [hasPre]
    unfold markedB
    by_cases h : s.extract 0 4 = mark4
    · rw [if_pos h, if_pos (decide_eq_true h)]
      refine ba_ext ?_
      rw [ext_list, List.take_of_length_le (by rw [ba_len]; exact Nat.le_refl _)]
      rfl
    · rw [if_neg h, if_neg (by simpa using h)]
  rw [e1]
theorem head_of_parts (s : ByteArray) : headOf s = if markedB s && nmOk (nameOf s) then some (nameOf s) else none := by
  unfold headOf markedB nameOf
  by_cases h : s.extract 0 4 = mark4
  · by_cases h2 : nmOk (s.extract 4 s.size) = true
    · simp [h, h2]
    · simp [h, h2]
  · simp [h]
end Go.Proofs.Ytfapdhfjcnehhaa

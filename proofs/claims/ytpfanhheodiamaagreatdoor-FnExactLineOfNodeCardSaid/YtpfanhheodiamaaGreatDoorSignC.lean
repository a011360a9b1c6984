
/-
  Contracts: runs of bytes, quoted texts, marks, the sign that a text begins with (impl.runOf, quoted, Trimmed, MarkOk, signAt, isSign, isName). Written by program (gen_signc.py).
-/
import Derived.Test.YtpfanhheodiamaaGreatDoorSignB
import Derived.Test.YtpfanhheodiamaaGreatDoorShelf
import Derived.Lib.TrimByte
import Derived.Lib.IndexLaws
namespace Go.Proofs.YtpfanhheodiamaaGreatDoor
open Go.RowKit
set_option linter.unusedVariables false
set_option linter.unusedSimpArgs false

/-- The beginning whose bytes are as wanted. -/
def runT (p : UInt8 → Bool) (s : ByteArray) : ByteArray := s.extract 0 (runN p s.data.toList)
theorem runT_size (p : UInt8 → Bool) (s : ByteArray) : (runT p s).size = runN p s.data.toList := by
  have := runN_le p s.data.toList
  rw [ba_len] at this
  simp [runT]; omega
def notEnd (c : UInt8) : Bool := c != 10
set_option maxHeartbeats 400000 in
theorem runInner_any (s : ByteArray) (w : World) (hs : s.size ≤ maxLen) : Calls Tryz.prog 122 #[.string s, .func (.func 123) #[] #[]] w fun e w' => e = .returned (.string (runT innerC s)) ∧ w = w' := by
  unfold maxLen at hs
  go_enter Tryz.func122, Tryz.ntmps122
  go_wp2
  go_loop [5] (fun i => ∃ k : Nat, k ≤ s.size ∧ AllTo innerC s k ∧ i = .int .i64 k) (fun i => s.size - (intOf i).toNat)
  case atStart => exact ⟨0, Nat.zero_le _, allTo_zero _ s, rfl⟩
  case round =>
    obtain ⟨k, hk, ha, rfl⟩ := hrel
    by_cases hlt : k < s.size
    · have HC := Lib.hid (fun (b : Bool) (hb : innerC s[k] = b) (W : World) => show Calls Tryz.prog 123 #[.int .u8 (s[k].toNat : Int)] W fun e w' => e = .returned (.bool b) ∧ W = w' by rw [← hb]; exact implInner_any _ W)
      cases hp : innerC s[k] with
      | false =>
        have hn := Lib.hid (runN_step ha hlt hp)
        have HC2 := Lib.hid (HC.out _ hp)
        clear HC hp
        go_wp2_with (go_at_call 123; refine (HC2.out _).mono ?_; rintro e w1 ⟨rfl, rfl⟩)
        go_ret
        exact ⟨ret_str (by rw [runT, hn.out]), rfl⟩
      | true =>
        have hn := allTo_step ha hlt hp
        have HC2 := Lib.hid (HC.out _ hp)
        clear HC hp
        go_wp2_with (go_at_call 123; refine (HC2.out _).mono ?_; rintro e w1 ⟨rfl, rfl⟩)
        go_round
        case rel => exact ⟨k + 1, by omega, hn, by go_num⟩
        case measure => simp [intOf]; omega
    · have hn := Lib.hid (runN_end ha (by omega))
      go_wp2
      go_ret
      exact ⟨ret_str (by rw [runT, hn.out]), rfl⟩
set_option maxHeartbeats 400000 in
theorem runFigure_any (s : ByteArray) (w : World) (hs : s.size ≤ maxLen) : Calls Tryz.prog 122 #[.string s, .func (.func 124) #[] #[]] w fun e w' => e = .returned (.string (runT figC s)) ∧ w = w' := by
  unfold maxLen at hs
  go_enter Tryz.func122, Tryz.ntmps122
  go_wp2
  go_loop [5] (fun i => ∃ k : Nat, k ≤ s.size ∧ AllTo figC s k ∧ i = .int .i64 k) (fun i => s.size - (intOf i).toNat)
  case atStart => exact ⟨0, Nat.zero_le _, allTo_zero _ s, rfl⟩
  case round =>
    obtain ⟨k, hk, ha, rfl⟩ := hrel
    by_cases hlt : k < s.size
    · have HC := Lib.hid (fun (b : Bool) (hb : figC s[k] = b) (W : World) => show Calls Tryz.prog 124 #[.int .u8 (s[k].toNat : Int)] W fun e w' => e = .returned (.bool b) ∧ W = w' by rw [← hb]; exact implFigure_any _ W)
      cases hp : figC s[k] with
      | false =>
        have hn := Lib.hid (runN_step ha hlt hp)
        have HC2 := Lib.hid (HC.out _ hp)
        clear HC hp
        go_wp2_with (go_at_call 124; refine (HC2.out _).mono ?_; rintro e w1 ⟨rfl, rfl⟩)
        go_ret
        exact ⟨ret_str (by rw [runT, hn.out]), rfl⟩
      | true =>
        have hn := allTo_step ha hlt hp
        have HC2 := Lib.hid (HC.out _ hp)
        clear HC hp
        go_wp2_with (go_at_call 124; refine (HC2.out _).mono ?_; rintro e w1 ⟨rfl, rfl⟩)
        go_round
        case rel => exact ⟨k + 1, by omega, hn, by go_num⟩
        case measure => simp [intOf]; omega
    · have hn := Lib.hid (runN_end ha (by omega))
      go_wp2
      go_ret
      exact ⟨ret_str (by rw [runT, hn.out]), rfl⟩
set_option maxHeartbeats 400000 in
theorem runLine_any (s : ByteArray) (w : World) (hs : s.size ≤ maxLen) : Calls Tryz.prog 122 #[.string s, .func (.func 127) #[] #[]] w fun e w' => e = .returned (.string (runT notEnd s)) ∧ w = w' := by
  unfold maxLen at hs
  go_enter Tryz.func122, Tryz.ntmps122
  go_wp2
  go_loop [5] (fun i => ∃ k : Nat, k ≤ s.size ∧ AllTo notEnd s k ∧ i = .int .i64 k) (fun i => s.size - (intOf i).toNat)
  case atStart => exact ⟨0, Nat.zero_le _, allTo_zero _ s, rfl⟩
  case round =>
    obtain ⟨k, hk, ha, rfl⟩ := hrel
    by_cases hlt : k < s.size
    · have HC := Lib.hid (fun (b : Bool) (hb : notEnd s[k] = b) (W : World) => show Calls Tryz.prog 127 #[.int .u8 (s[k].toNat : Int)] W fun e w' => e = .returned (.bool b) ∧ W = w' by rw [← hb]; exact implNotEnd_any _ W)
      cases hp : notEnd s[k] with
      | false =>
        have hn := Lib.hid (runN_step ha hlt hp)
        have HC2 := Lib.hid (HC.out _ hp)
        clear HC hp
        go_wp2_with (go_at_call 127; refine (HC2.out _).mono ?_; rintro e w1 ⟨rfl, rfl⟩)
        go_ret
        exact ⟨ret_str (by rw [runT, hn.out]), rfl⟩
      | true =>
        have hn := allTo_step ha hlt hp
        have HC2 := Lib.hid (HC.out _ hp)
        clear HC hp
        go_wp2_with (go_at_call 127; refine (HC2.out _).mono ?_; rintro e w1 ⟨rfl, rfl⟩)
        go_round
        case rel => exact ⟨k + 1, by omega, hn, by go_num⟩
        case measure => simp [intOf]; omega
    · have hn := Lib.hid (runN_end ha (by omega))
      go_wp2
      go_ret
      exact ⟨ret_str (by rw [runT, hn.out]), rfl⟩
/-- A text without the blanks at its end. -/
def trimT (s : ByteArray) : ByteArray := ⟨(Lib.trimRightB s.data.toList 32).toArray⟩
set_option maxHeartbeats 400000 in
theorem implTrimmed_any (s : ByteArray) (w : World) (hs : s.size ≤ maxLen) : Calls Tryz.prog 128 #[.string s] w fun e w' => e = .returned (.string (trimT s)) ∧ w = w' := by
  unfold maxLen at hs
  have H1 := Lib.hid (fun W => Tryz.strings_TrimRight_one s 32 (by decide) W (by omega))
  go_enter Tryz.func128, Tryz.ntmps128
  go_wp2_with (go_at_call 157; refine (H1.out _).mono ?_; rintro e w1 ⟨rfl, rfl⟩)
  go_ret
  exact ⟨rfl, rfl⟩
/-- A quoted text: up to its second quote, all of it plain. -/
def quoP (s : ByteArray) : ByteArray × Bool :=
  if Lib.indexByte (s.extract 1 s.size).data.toList 39 < 0 then (⟨#[]⟩, false)
  else (s.extract 0 (Lib.indexByte (s.extract 1 s.size).data.toList 39 + 2).toNat, allB plainC (s.extract 0 (Lib.indexByte (s.extract 1 s.size).data.toList 39 + 2).toNat))
set_option maxHeartbeats 400000 in
theorem quoted_any (s : ByteArray) (w : World) (h0 : 0 < s.size) (hs : s.size ≤ maxLen) : Calls Tryz.prog 125 #[.string s] w fun e w' => e = .returned (.tuple #[.string (quoP s).1, .bool (quoP s).2]) ∧ w = w' := by
  have hm := hs
  unfold maxLen at hs
  have h1 : (1 : Int) ≤ s.size := by omega
  have H1 := Lib.hid (fun W => Tryz.strings_IndexByte (s.extract 1 s.size) 39 W)
  have hge := Lib.indexByte_ge (s.extract 1 s.size).data.toList 39
  have hs1 : ∀ o : Nat, Lib.indexByte (s.extract 1 s.size).data.toList 39 = o → o + 2 ≤ s.size := by
    intro o ho
    have := (Lib.indexByte_some ho).1
    have hlt := (List.getElem?_eq_some_iff.1 this).1
    have e : (s.extract 1 s.size).data.toList.length = s.size - 1 := by rw [ba_len]; simp
    omega
  unfold quoP
  generalize hg : Lib.indexByte (s.extract 1 s.size).data.toList 39 = i at hge hs1 ⊢
  have H2 := Lib.hid (fun W => show Calls Tryz.prog 155 #[.string (s.extract 1 s.size), .int .u8 39] W fun e w' => e = .returned (.int .i64 i) ∧ w' = W by rw [← hg]; exact H1.out W)
  clear H1 hg
  by_cases hi : i < 0
  · rw [if_pos hi]
    go_enter Tryz.func125, Tryz.ntmps125
    go_wp2_with (go_at_call 155; refine (H2.out _).mono ?_; rintro e w1 ⟨rfl, rfl⟩)
    go_ret2
    exact ⟨rfl, rfl⟩
  · rw [if_neg hi]
    obtain ⟨o, rfl⟩ := Int.eq_ofNat_of_zero_le (show 0 ≤ i by omega)
    have ho := hs1 o rfl
    have e2 : ((o : Int) + 2).toNat = o + 2 := by omega
    rw [e2]
    have hp : (s.extract 0 (o + 2)).size ≤ maxLen := by simp; omega
    have H3 := Lib.hid (fun W => implPlain_any (s.extract 0 (o + 2)) W hp)
    clear hs1 hp e2
    go_enter Tryz.func125, Tryz.ntmps125
    go_wp2_with (first | (go_at_call 155; refine (H2.out _).mono ?_; rintro e w1 ⟨rfl, rfl⟩) | (go_at_call 129; refine (H3.out _).mono ?_; rintro e w1 ⟨rfl, rfl⟩))
    go_ret2
    exact ⟨rfl, rfl⟩
/-- Is a text of one byte or two a mark? -/
def mark2B (s : ByteArray) : Bool := s.toList == [38, 38] || s.toList == [124, 124] || s.toList == [61, 61] || s.toList == [61, 62] || s.toList == [46, 46]
def mark1B (c : UInt8) : Bool := decide (0 ≤ Lib.indexByte [40, 41, 123, 125, 91, 93, 59, 44, 46, 61, 43, 45, 42, 60, 63, 58] c)
def markB (s : ByteArray) : Bool := mark2B s || (match s.data.toList with | [c] => mark1B c | _ => false)
theorem one_byte {s : ByteArray} (h : s.size = 1) : ∃ c, s = ⟨#[c]⟩ := by
  obtain ⟨⟨l⟩⟩ := s
  match l, h with
  | [c], _ => exact ⟨c, rfl⟩
  | [], h => exact absurd h (by decide)
  | a :: b :: l, h => exact absurd (show l.length + 1 + 1 = 1 from h) (by omega)
theorem toList_ne_len {s : ByteArray} {l : List UInt8} (h : s.size ≠ l.length) : (s.toList == l) = false := by
  rw [beq_eq_false_iff_ne]
  intro e
  rw [ByteArray.toList_eq] at e
  apply h
  rw [← ba_len, e]
set_option maxHeartbeats 400000 in
theorem implMark_any (s : ByteArray) (w : World) (hs : s.size ≤ 2) : Calls Tryz.prog 130 #[.string s] w fun e w' => e = .returned (.bool (markB s)) ∧ w = w' := by
  cases h0 : (s.toList == [38, 38]) with
  | true =>
    have hk : markB s = true := by unfold markB mark2B; simp only [h0, Bool.or_true, Bool.true_or]
    rw [hk]; clear hk
    go_enter Tryz.func130, Tryz.ntmps130
    go_wp2
    go_ret
    exact ⟨rfl, rfl⟩
  | false =>
  cases h1 : (s.toList == [124, 124]) with
  | true =>
    have hk : markB s = true := by unfold markB mark2B; simp only [h1, Bool.or_true, Bool.true_or]
    rw [hk]; clear hk
    go_enter Tryz.func130, Tryz.ntmps130
    go_wp2
    go_ret
    exact ⟨rfl, rfl⟩
  | false =>
  cases h2 : (s.toList == [61, 61]) with
  | true =>
    have hk : markB s = true := by unfold markB mark2B; simp only [h2, Bool.or_true, Bool.true_or]
    rw [hk]; clear hk
    go_enter Tryz.func130, Tryz.ntmps130
    go_wp2
    go_ret
    exact ⟨rfl, rfl⟩
  | false =>
  cases h3 : (s.toList == [61, 62]) with
  | true =>
    have hk : markB s = true := by unfold markB mark2B; simp only [h3, Bool.or_true, Bool.true_or]
    rw [hk]; clear hk
    go_enter Tryz.func130, Tryz.ntmps130
    go_wp2
    go_ret
    exact ⟨rfl, rfl⟩
  | false =>
  cases h4 : (s.toList == [46, 46]) with
  | true =>
    have hk : markB s = true := by unfold markB mark2B; simp only [h4, Bool.or_true, Bool.true_or]
    rw [hk]; clear hk
    go_enter Tryz.func130, Tryz.ntmps130
    go_wp2
    go_ret
    exact ⟨rfl, rfl⟩
  | false =>
  by_cases hz : s.size = 1
  · obtain ⟨c, hc⟩ := one_byte hz
    have hk : markB s = mark1B c := by unfold markB mark2B; simp only [h0, h1, h2, h3, h4, Bool.or_self, Bool.false_or]; rw [hc]
    rw [hk]; clear hk
    have H1 := Lib.hid (fun W => show Calls Tryz.prog 158 #[.string ⟨#[40, 41, 123, 125, 91, 93, 59, 44, 46, 61, 43, 45, 42, 60, 63, 58]⟩, .string s] W fun e w' => e = .returned (.bool (mark1B c)) ∧ w' = W by rw [hc]; exact Tryz.strings_Contains_one ⟨#[40, 41, 123, 125, 91, 93, 59, 44, 46, 61, 43, 45, 42, 60, 63, 58]⟩ c W)
    clear hc
    go_enter Tryz.func130, Tryz.ntmps130
    go_wp2_with (go_at_call 158; refine (H1.out _).mono ?_; rintro e w1 ⟨rfl, rfl⟩)
    go_ret
    exact ⟨rfl, rfl⟩
  · have hk : markB s = false := by
      unfold markB mark2B; simp only [h0, h1, h2, h3, h4, Bool.or_self, Bool.false_or]
      match hl : s.data.toList with
      | [] => rfl
      | [c] => exact absurd (by rw [← ba_len, hl]; rfl) hz
      | a :: b :: l => rfl
    rw [hk]; clear hk
    have hz2 : ((s.size : Int) == 1) = false := by rw [beq_eq_false_iff_ne]; omega
    go_enter Tryz.func130, Tryz.ntmps130
    go_wp2
    go_ret
    exact ⟨rfl, rfl⟩
/-- How long the mark is that a text begins with. -/
def markN (s : ByteArray) : Nat := if 2 ≤ s.size ∧ markB (s.extract 0 2) = true then 2 else if markB (s.extract 0 1) = true then 1 else 0
/-- The sign that a text begins with, and its first byte: its kind, its text, how long it is, and whether it is right. -/
def signP1 (s : ByteArray) (c : UInt8) : Int × ByteArray × Int × Bool :=
  if firstC c = true then (1, runT innerC s, (runT innerC s).size, decide (((runT innerC s).size : Int) ≤ 30))
  else if figC c = true then (2, runT figC s, (runT figC s).size, decide (((runT figC s).size : Int) ≤ 12))
  else if c = 39 then (3, (quoP s).1, (quoP s).1.size, (quoP s).2)
  else if Lib.hasPrefix s.data.toList [47, 47] = true then (5, trimT (runT notEnd s), (runT notEnd s).size, allB plainC (runT notEnd s))
  else if markN s = 0 then (0, ⟨#[]⟩, 0, false) else (4, s.extract 0 (markN s), markN s, true)
theorem ret_four {a c : Int} {b : ByteArray} {d : Bool} {p : Int × ByteArray × Int × Bool} (h : p = (a, b, c, d)) :
    Ending.returned (.tuple #[.int .i64 a, .string b, .int .i64 c, .bool d]) = Ending.returned (.tuple #[.int .i64 p.1, .string p.2.1, .int .i64 p.2.2.1, .bool p.2.2.2]) := by subst h; rfl
end Go.Proofs.YtpfanhheodiamaaGreatDoor

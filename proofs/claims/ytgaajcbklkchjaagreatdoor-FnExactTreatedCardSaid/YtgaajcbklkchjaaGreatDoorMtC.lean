/-
  Put together by program (shake.py): SignC, SignD, SignE, SignF, SignG, SignH.
-/
import Derived.Test.YtgaajcbklkchjaaGreatDoorMtB
import Derived.Lib.TrimByte
import Derived.Lib.IndexLaws
set_option maxRecDepth 100000
set_option maxHeartbeats 25600000
set_option linter.unusedVariables false
set_option linter.unusedSimpArgs false
open Go.Lib (hid)
open Go.Proofs.Tryz
namespace Go.Proofs.YtgaajcbklkchjaaGreatDoor
open Go.RowKit
def runT (p : UInt8 → Bool) (s : ByteArray) : ByteArray := s.extract 0 (runN p s.data.toList)
theorem runT_size (p : UInt8 → Bool) (s : ByteArray) : (runT p s).size = runN p s.data.toList := by
 have := runN_le p s.data.toList
 rw [ba_len] at this
 simp [runT]; omega
def notEnd (c : UInt8) : Bool := c != 10
theorem runInner_any (s : ByteArray) (w : World) (hs : s.size ≤ maxLen) : Calls prog 186 #[.string s, .func (.func 187) #[] #[]] w fun e w' => e = .returned (.string (runT innerC s)) ∧ w = w' := by
 unfold maxLen at hs
 go_enter func186, ntmps186
 go_wp2
 go_loop [5] (fun i => ∃ k : Nat, k ≤ s.size ∧ AllTo innerC s k ∧ i = .int .i64 k) (fun i => s.size - (intOf i).toNat)
 case atStart => exact ⟨0, Nat.zero_le _, allTo_zero _ s, rfl⟩
 case round =>
  obtain ⟨k, hk, ha, rfl⟩ := hrel
  by_cases hlt : k < s.size
  ·have HC := hid (fun (b : Bool) (hb : innerC s[k] = b) (W : World) => show Calls prog 187 #[.int .u8 (s[k].toNat : Int)] W fun e w' => e = .returned (.bool b) ∧ W = w' by rw [← hb]; exact implInner_any _ W)
   cases hp : innerC s[k] with
   | false =>
    have hn := hid (runN_step ha hlt hp)
    have HC2 := hid (HC.out _ hp)
    clear HC hp
    go_wp2_with (go_at_call 187; refine (HC2.out _).mono ?_; rintro e w1 ⟨rfl, rfl⟩)
    go_ret
    exact ⟨ret_str (by rw [runT, hn.out]), rfl⟩
   | true =>
    have hn := allTo_step ha hlt hp
    have HC2 := hid (HC.out _ hp)
    clear HC hp
    go_wp2_with (go_at_call 187; refine (HC2.out _).mono ?_; rintro e w1 ⟨rfl, rfl⟩)
    go_round
    case rel => exact ⟨k + 1, by omega, hn, by go_num⟩
    case measure => simp [intOf]; omega
  ·have hn := hid (runN_end ha (by omega))
   go_wp2
   go_ret
   exact ⟨ret_str (by rw [runT, hn.out]), rfl⟩
theorem runFigure_any (s : ByteArray) (w : World) (hs : s.size ≤ maxLen) : Calls prog 186 #[.string s, .func (.func 188) #[] #[]] w fun e w' => e = .returned (.string (runT figC s)) ∧ w = w' := by
 unfold maxLen at hs
 go_enter func186, ntmps186
 go_wp2
 go_loop [5] (fun i => ∃ k : Nat, k ≤ s.size ∧ AllTo figC s k ∧ i = .int .i64 k) (fun i => s.size - (intOf i).toNat)
 case atStart => exact ⟨0, Nat.zero_le _, allTo_zero _ s, rfl⟩
 case round =>
  obtain ⟨k, hk, ha, rfl⟩ := hrel
  by_cases hlt : k < s.size
  ·have HC := hid (fun (b : Bool) (hb : figC s[k] = b) (W : World) => show Calls prog 188 #[.int .u8 (s[k].toNat : Int)] W fun e w' => e = .returned (.bool b) ∧ W = w' by rw [← hb]; exact implFigure_any _ W)
   cases hp : figC s[k] with
   | false =>
    have hn := hid (runN_step ha hlt hp)
    have HC2 := hid (HC.out _ hp)
    clear HC hp
    go_wp2_with (go_at_call 188; refine (HC2.out _).mono ?_; rintro e w1 ⟨rfl, rfl⟩)
    go_ret
    exact ⟨ret_str (by rw [runT, hn.out]), rfl⟩
   | true =>
    have hn := allTo_step ha hlt hp
    have HC2 := hid (HC.out _ hp)
    clear HC hp
    go_wp2_with (go_at_call 188; refine (HC2.out _).mono ?_; rintro e w1 ⟨rfl, rfl⟩)
    go_round
    case rel => exact ⟨k + 1, by omega, hn, by go_num⟩
    case measure => simp [intOf]; omega
  ·have hn := hid (runN_end ha (by omega))
   go_wp2
   go_ret
   exact ⟨ret_str (by rw [runT, hn.out]), rfl⟩
theorem runLine_any (s : ByteArray) (w : World) (hs : s.size ≤ maxLen) : Calls prog 186 #[.string s, .func (.func 191) #[] #[]] w fun e w' => e = .returned (.string (runT notEnd s)) ∧ w = w' := by
 unfold maxLen at hs
 go_enter func186, ntmps186
 go_wp2
 go_loop [5] (fun i => ∃ k : Nat, k ≤ s.size ∧ AllTo notEnd s k ∧ i = .int .i64 k) (fun i => s.size - (intOf i).toNat)
 case atStart => exact ⟨0, Nat.zero_le _, allTo_zero _ s, rfl⟩
 case round =>
  obtain ⟨k, hk, ha, rfl⟩ := hrel
  by_cases hlt : k < s.size
  ·have HC := hid (fun (b : Bool) (hb : notEnd s[k] = b) (W : World) => show Calls prog 191 #[.int .u8 (s[k].toNat : Int)] W fun e w' => e = .returned (.bool b) ∧ W = w' by rw [← hb]; exact implNotEnd_any _ W)
   cases hp : notEnd s[k] with
   | false =>
    have hn := hid (runN_step ha hlt hp)
    have HC2 := hid (HC.out _ hp)
    clear HC hp
    go_wp2_with (go_at_call 191; refine (HC2.out _).mono ?_; rintro e w1 ⟨rfl, rfl⟩)
    go_ret
    exact ⟨ret_str (by rw [runT, hn.out]), rfl⟩
   | true =>
    have hn := allTo_step ha hlt hp
    have HC2 := hid (HC.out _ hp)
    clear HC hp
    go_wp2_with (go_at_call 191; refine (HC2.out _).mono ?_; rintro e w1 ⟨rfl, rfl⟩)
    go_round
    case rel => exact ⟨k + 1, by omega, hn, by go_num⟩
    case measure => simp [intOf]; omega
  ·have hn := hid (runN_end ha (by omega))
   go_wp2
   go_ret
   exact ⟨ret_str (by rw [runT, hn.out]), rfl⟩
def trimT (s : ByteArray) : ByteArray := ⟨(Lib.trimRightB s.data.toList 32).toArray⟩
theorem implTrimmed_any (s : ByteArray) (w : World) (hs : s.size ≤ maxLen) : Calls prog 192 #[.string s] w fun e w' => e = .returned (.string (trimT s)) ∧ w = w' := by
 unfold maxLen at hs
 have H1 := hid (fun W => Tryz.strings_TrimRight_one s 32 (by decide) W (by omega))
 go_enter func192, ntmps192
 go_wp2_with (go_at_call 221; refine (H1.out _).mono ?_; rintro e w1 ⟨rfl, rfl⟩)
 go_ret
 exact ⟨rfl, rfl⟩
def quoP (s : ByteArray) : ByteArray × Bool :=
 if Lib.indexByte (s.extract 1 s.size).data.toList 39 < 0 then (⟨#[]⟩, false)
 else (s.extract 0 (Lib.indexByte (s.extract 1 s.size).data.toList 39 + 2).toNat, allB plainC (s.extract 0 (Lib.indexByte (s.extract 1 s.size).data.toList 39 + 2).toNat))
theorem quoted_any (s : ByteArray) (w : World) (h0 : 0 < s.size) (hs : s.size ≤ maxLen) : Calls prog 189 #[.string s] w fun e w' => e = .returned (.tuple #[.string (quoP s).1, .bool (quoP s).2]) ∧ w = w' := by
 have hm := hs
 unfold maxLen at hs
 have h1 : (1 : Int) ≤ s.size := by omega
 have H1 := hid (fun W => Tryz.strings_IndexByte (s.extract 1 s.size) 39 W)
 have hge := Lib.indexByte_ge (s.extract 1 s.size).data.toList 39
 have hs1 : ∀ o : Nat, Lib.indexByte (s.extract 1 s.size).data.toList 39 = o → o + 2 ≤ s.size := by
  intro o ho
  have := (Lib.indexByte_some ho).1
  have hlt := (List.getElem?_eq_some_iff.1 this).1
  have e : (s.extract 1 s.size).data.toList.length = s.size - 1 := by rw [ba_len]; simp
  omega
 unfold quoP
 generalize hg : Lib.indexByte (s.extract 1 s.size).data.toList 39 = i at hge hs1 ⊢
 have H2 := hid (fun W => show Calls prog 219 #[.string (s.extract 1 s.size), .int .u8 39] W fun e w' => e = .returned (.int .i64 i) ∧ w' = W by rw [← hg]; exact H1.out W)
 clear H1 hg
 by_cases hi : i < 0
 ·rw [if_pos hi]
  go_enter func189, ntmps189
  go_wp2_with (go_at_call 219; refine (H2.out _).mono ?_; rintro e w1 ⟨rfl, rfl⟩)
  go_ret2
  exact ⟨rfl, rfl⟩
 ·rw [if_neg hi]
  obtain ⟨o, rfl⟩ := Int.eq_ofNat_of_zero_le (show 0 ≤ i by omega)
  have ho := hs1 o rfl
  have e2 : ((o : Int) + 2).toNat = o + 2 := by omega
  rw [e2]
  have hp : (s.extract 0 (o + 2)).size ≤ maxLen := by simp; omega
  have H3 := hid (fun W => implPlain_any (s.extract 0 (o + 2)) W hp)
  clear hs1 hp e2
  go_enter func189, ntmps189
  go_wp2_with (first | (go_at_call 219; refine (H2.out _).mono ?_; rintro e w1 ⟨rfl, rfl⟩) | (go_at_call 193; refine (H3.out _).mono ?_; rintro e w1 ⟨rfl, rfl⟩))
  go_ret2
  exact ⟨rfl, rfl⟩
def mark2B (s : ByteArray) : Bool := s.toList == [38, 38] || s.toList == [124, 124] || s.toList == [61, 61] || s.toList == [61, 62] || s.toList == [46, 46]
def mark1B (c : UInt8) : Bool := decide (0 ≤ Lib.indexByte [40, 41, 123, 125, 91, 93, 59, 44, 46, 61, 43, 45, 42, 60, 63, 58] c)
def markB (s : ByteArray) : Bool := mark2B s || (match s.data.toList with | [c] => mark1B c | _ => false)
theorem one_byte {s : ByteArray} (h : s.size = 1) : ∃ c, s = ⟨#[c]⟩ := by
 obtain ⟨⟨l⟩⟩ := s
 match l, h with
 | [c], _ => exact ⟨c, rfl⟩
 | [], h => exact absurd h (by decide)
 | a :: b :: l, h => exact absurd (show l.length + 1 + 1 = 1 from h) (by omega)
theorem toList_ne_len {s : ByteArray} {l : List UInt8} (h : s.size ≠ l.length) : (s.toList == l) = false := by
 rw [beq_eq_false_iff_ne]
 intro e
 rw [ByteArray.toList_eq] at e
 apply h
 rw [← ba_len, e]
theorem implMark_any (s : ByteArray) (w : World) (hs : s.size ≤ 2) : Calls prog 194 #[.string s] w fun e w' => e = .returned (.bool (markB s)) ∧ w = w' := by
 cases h0 : (s.toList == [38, 38]) with
 | true =>
  have hk : markB s = true := by unfold markB mark2B; simp only [h0, Bool.or_true, Bool.true_or]
  rw [hk]; clear hk
  go_enter func194, ntmps194
  go_wp2
  go_ret
  exact ⟨rfl, rfl⟩
 | false =>
 cases h1 : (s.toList == [124, 124]) with
 | true =>
  have hk : markB s = true := by unfold markB mark2B; simp only [h1, Bool.or_true, Bool.true_or]
  rw [hk]; clear hk
  go_enter func194, ntmps194
  go_wp2
  go_ret
  exact ⟨rfl, rfl⟩
 | false =>
 cases h2 : (s.toList == [61, 61]) with
 | true =>
  have hk : markB s = true := by unfold markB mark2B; simp only [h2, Bool.or_true, Bool.true_or]
  rw [hk]; clear hk
  go_enter func194, ntmps194
  go_wp2
  go_ret
  exact ⟨rfl, rfl⟩
 | false =>
 cases h3 : (s.toList == [61, 62]) with
 | true =>
  have hk : markB s = true := by unfold markB mark2B; simp only [h3, Bool.or_true, Bool.true_or]
  rw [hk]; clear hk
  go_enter func194, ntmps194
  go_wp2
  go_ret
  exact ⟨rfl, rfl⟩
 | false =>
 cases h4 : (s.toList == [46, 46]) with
 | true =>
  have hk : markB s = true := by unfold markB mark2B; simp only [h4, Bool.or_true, Bool.true_or]
  rw [hk]; clear hk
  go_enter func194, ntmps194
  go_wp2
  go_ret
  exact ⟨rfl, rfl⟩
 | false =>
 by_cases hz : s.size = 1
 ·obtain ⟨c, hc⟩ := one_byte hz
  have hk : markB s = mark1B c := by unfold markB mark2B; simp only [h0, h1, h2, h3, h4, Bool.or_self, Bool.false_or]; rw [hc]
  rw [hk]; clear hk
  have H1 := hid (fun W => show Calls prog 222 #[.string ⟨#[40, 41, 123, 125, 91, 93, 59, 44, 46, 61, 43, 45, 42, 60, 63, 58]⟩, .string s] W fun e w' => e = .returned (.bool (mark1B c)) ∧ w' = W by rw [hc]; exact Tryz.strings_Contains_one ⟨#[40, 41, 123, 125, 91, 93, 59, 44, 46, 61, 43, 45, 42, 60, 63, 58]⟩ c W)
  clear hc
  go_enter func194, ntmps194
  go_wp2_with (go_at_call 222; refine (H1.out _).mono ?_; rintro e w1 ⟨rfl, rfl⟩)
  go_ret
  exact ⟨rfl, rfl⟩
 ·have hk : markB s = false := by
   unfold markB mark2B; simp only [h0, h1, h2, h3, h4, Bool.or_self, Bool.false_or]
   match hl : s.data.toList with
   | [] => rfl
   | [c] => exact absurd (by rw [← ba_len, hl]; rfl) hz
   | a :: b :: l => rfl
  rw [hk]; clear hk
  have hz2 : ((s.size : Int) == 1) = false := by rw [beq_eq_false_iff_ne]; omega
  go_enter func194, ntmps194
  go_wp2
  go_ret
  exact ⟨rfl, rfl⟩
def markN (s : ByteArray) : Nat := if 2 ≤ s.size ∧ markB (s.extract 0 2) = true then 2 else if markB (s.extract 0 1) = true then 1 else 0
theorem signAt_name (s : ByteArray) (w : World) (h0 : 0 < s.size) (hs : s.size ≤ maxLen) (hb : firstC s[0] = true) :
  Calls prog 149 #[.string s] w fun e w' => e = .returned (.tuple #[.int .i64 1, .string (runT innerC s), .int .i64 (runT innerC s).size, .bool (decide (((runT innerC s).size : Int) ≤ 30))]) ∧ w = w' := by
 have hm := hid hs
 unfold maxLen at hs
 have H1 := hid (fun (W : World) => show Calls prog 185 #[.int .u8 (s[0].toNat : Int)] W fun e w' => e = .returned (.bool true) ∧ W = w' by rw [← hb]; exact implFirst_any _ W)
 have H2 := hid (fun W => runInner_any s W hm.out)
 have hz : (runT innerC s).size ≤ 9223372036854775807 := by rw [runT_size]; have := runN_le innerC s.data.toList; rw [ba_len] at this; omega
 clear hb
 generalize runT innerC s = t at H2 hz ⊢
 go_enter func149, ntmps149
 go_wp2_with (first | (go_at_call 185; refine (H1.out _).mono ?_; rintro e w1 ⟨rfl, rfl⟩) | (go_at_call 186; refine (H2.out _).mono ?_; rintro e w1 ⟨rfl, rfl⟩))
 refine bodyPost_ret (by simp [results, Tryz.results149, go_sem,]; try rfl) rfl ?_
 exact ⟨rfl, rfl⟩
theorem signAt_num (s : ByteArray) (w : World) (h0 : 0 < s.size) (hs : s.size ≤ maxLen) (hb : firstC s[0] = false) (hg : figC s[0] = true) :
  Calls prog 149 #[.string s] w fun e w' => e = .returned (.tuple #[.int .i64 2, .string (runT figC s), .int .i64 (runT figC s).size, .bool (decide (((runT figC s).size : Int) ≤ 12))]) ∧ w = w' := by
 have hm := hid hs
 unfold maxLen at hs
 have H1 := hid (fun (W : World) => show Calls prog 185 #[.int .u8 (s[0].toNat : Int)] W fun e w' => e = .returned (.bool false) ∧ W = w' by rw [← hb]; exact implFirst_any _ W)
 have H3 := hid (fun (W : World) => show Calls prog 188 #[.int .u8 (s[0].toNat : Int)] W fun e w' => e = .returned (.bool true) ∧ W = w' by rw [← hg]; exact implFigure_any _ W)
 have H2 := hid (fun W => runFigure_any s W hm.out)
 have hz : (runT figC s).size ≤ 9223372036854775807 := by rw [runT_size]; have := runN_le figC s.data.toList; rw [ba_len] at this; omega
 clear hb hg
 generalize runT figC s = t at H2 hz ⊢
 go_enter func149, ntmps149
 go_wp2_with (first | (go_at_call 185; refine (H1.out _).mono ?_; rintro e w1 ⟨rfl, rfl⟩) | (go_at_call 188; refine (H3.out _).mono ?_; rintro e w1 ⟨rfl, rfl⟩) | (go_at_call 186; refine (H2.out _).mono ?_; rintro e w1 ⟨rfl, rfl⟩))
 refine bodyPost_ret (by simp [results, Tryz.results149, go_sem,]; try rfl) rfl ?_
 exact ⟨rfl, rfl⟩
theorem signAt_quo (s : ByteArray) (w : World) (h0 : 0 < s.size) (hs : s.size ≤ maxLen) (hb : firstC s[0] = false) (hg : figC s[0] = false) (hq : s[0] = 39) :
  Calls prog 149 #[.string s] w fun e w' => e = .returned (.tuple #[.int .i64 3, .string (quoP s).1, .int .i64 (quoP s).1.size, .bool (quoP s).2]) ∧ w = w' := by
 have hm := hid hs
 unfold maxLen at hs
 have H1 := hid (fun (W : World) => show Calls prog 185 #[.int .u8 (s[0].toNat : Int)] W fun e w' => e = .returned (.bool false) ∧ W = w' by rw [← hb]; exact implFirst_any _ W)
 have H3 := hid (fun (W : World) => show Calls prog 188 #[.int .u8 (s[0].toNat : Int)] W fun e w' => e = .returned (.bool false) ∧ W = w' by rw [← hg]; exact implFigure_any _ W)
 have H2 := hid (fun W => quoted_any s W h0 hm.out)
 have hq2 : ((s[0].toNat : Int) == 39) = true := by rw [hq]; rfl
 have hz : (quoP s).1.size ≤ 9223372036854775807 := by
  unfold quoP
  split
  ·exact Nat.zero_le _
  ·simp; omega
 clear hb hg hq
 generalize (quoP s).1 = t at H2 hz ⊢
 generalize (quoP s).2 = u at H2 ⊢
 go_enter func149, ntmps149
 go_wp2_with (first | (go_at_call 185; refine (H1.out _).mono ?_; rintro e w1 ⟨rfl, rfl⟩) | (go_at_call 188; refine (H3.out _).mono ?_; rintro e w1 ⟨rfl, rfl⟩) | (go_at_call 189; refine (H2.out _).mono ?_; rintro e w1 ⟨rfl, rfl⟩))
 refine bodyPost_ret (by simp [results, Tryz.results149, go_sem,]; try rfl) rfl ?_
 exact ⟨rfl, rfl⟩
theorem signAt_note (s : ByteArray) (w : World) (h0 : 0 < s.size) (hs : s.size ≤ maxLen) (hb : firstC s[0] = false) (hg : figC s[0] = false) (hq : ¬ s[0] = 39) (hp : Lib.hasPrefix s.data.toList [47, 47] = true) :
  Calls prog 149 #[.string s] w fun e w' => e = .returned (.tuple #[.int .i64 5, .string (trimT (runT notEnd s)), .int .i64 (runT notEnd s).size, .bool (allB plainC (runT notEnd s))]) ∧ w = w' := by
 have hm := hid hs
 unfold maxLen at hs
 have H1 := hid (fun (W : World) => show Calls prog 185 #[.int .u8 (s[0].toNat : Int)] W fun e w' => e = .returned (.bool false) ∧ W = w' by rw [← hb]; exact implFirst_any _ W)
 have H3 := hid (fun (W : World) => show Calls prog 188 #[.int .u8 (s[0].toNat : Int)] W fun e w' => e = .returned (.bool false) ∧ W = w' by rw [← hg]; exact implFigure_any _ W)
 have hq2 : ((s[0].toNat : Int) == 39) = false := by
  rw [beq_eq_false_iff_ne]; intro e; apply hq; apply UInt8.toNat_inj.1; show s[0].toNat = 39; omega
 have H5 := hid (fun (W : World) => show Calls prog 190 #[.string s, .string ⟨#[47, 47]⟩] W fun e w' => e = .returned (.bool true) ∧ w' = W by rw [← hp]; exact Tryz.strings_HasPrefix s ⟨#[47, 47]⟩ W)
 have H2 := hid (fun W => runLine_any s W hm.out)
 have hz : (runT notEnd s).size ≤ 9223372036854775807 := by rw [runT_size]; have := runN_le notEnd s.data.toList; rw [ba_len] at this; omega
 have H6 := hid (fun W => implTrimmed_any (runT notEnd s) W hz)
 have H7 := hid (fun W => implPlain_any (runT notEnd s) W hz)
 clear hb hg hq hp
 generalize runT notEnd s = t at H2 hz H6 H7 ⊢
 go_enter func149, ntmps149
 go_wp2_with (first | (go_at_call 185; refine (H1.out _).mono ?_; rintro e w1 ⟨rfl, rfl⟩) | (go_at_call 188; refine (H3.out _).mono ?_; rintro e w1 ⟨rfl, rfl⟩) | (go_at_call 190; refine (H5.out _).mono ?_; rintro e w1 ⟨rfl, rfl⟩) | (go_at_call 186; refine (H2.out _).mono ?_; rintro e w1 ⟨rfl, rfl⟩) | (go_at_call 192; refine (H6.out _).mono ?_; rintro e w1 ⟨rfl, rfl⟩) | (go_at_call 193; refine (H7.out _).mono ?_; rintro e w1 ⟨rfl, rfl⟩))
 refine bodyPost_ret (by simp [results, Tryz.results149, go_sem,]; try rfl) rfl ?_
 exact ⟨rfl, rfl⟩
theorem markN_two {s : ByteArray} (h : 2 ≤ s.size) (hm : markB (s.extract 0 2) = true) : markN s = 2 := by unfold markN; rw [if_pos ⟨h, hm⟩]
theorem markN_one {s : ByteArray} (h : 2 ≤ s.size → markB (s.extract 0 2) = false) (hm : markB (s.extract 0 1) = true) : markN s = 1 := by
 unfold markN; rw [if_neg (by rintro ⟨h1, h2⟩; rw [h h1] at h2; cases h2), if_pos hm]
theorem markN_none {s : ByteArray} (h : 2 ≤ s.size → markB (s.extract 0 2) = false) (hm : markB (s.extract 0 1) = false) : markN s = 0 := by
 unfold markN; rw [if_neg (by rintro ⟨h1, h2⟩; rw [h h1] at h2; cases h2), if_neg (by rw [hm]; decide)]
def markR (s : ByteArray) : Value := if markN s = 0 then .tuple #[.int .i64 0, .string ⟨#[]⟩, .int .i64 0, .bool false] else .tuple #[.int .i64 4, .string (s.extract 0 (markN s)), .int .i64 (markN s), .bool true]
theorem markR_some {s : ByteArray} {k : Nat} (h : markN s = k) (hk : 0 < k) : markR s = .tuple #[.int .i64 4, .string (s.extract 0 k), .int .i64 k, .bool true] := by unfold markR; rw [h, if_neg (by omega)]
theorem markR_none {s : ByteArray} (h : markN s = 0) : markR s = .tuple #[.int .i64 0, .string ⟨#[]⟩, .int .i64 0, .bool false] := by unfold markR; rw [if_pos h]
theorem signAt_mark (s : ByteArray) (w : World) (h0 : 0 < s.size) (hs : s.size ≤ maxLen) (hb : firstC s[0] = false) (hg : figC s[0] = false) (hq : ¬ s[0] = 39) (hp : Lib.hasPrefix s.data.toList [47, 47] = false) :
  Calls prog 149 #[.string s] w fun e w' => e = .returned (markR s) ∧ Below w.heap.size w w' := by
 have hm := hid hs
 unfold maxLen at hs
 have H1 := hid (fun (W : World) => show Calls prog 185 #[.int .u8 (s[0].toNat : Int)] W fun e w' => e = .returned (.bool false) ∧ W = w' by rw [← hb]; exact implFirst_any _ W)
 have H3 := hid (fun (W : World) => show Calls prog 188 #[.int .u8 (s[0].toNat : Int)] W fun e w' => e = .returned (.bool false) ∧ W = w' by rw [← hg]; exact implFigure_any _ W)
 have hq2 : ((s[0].toNat : Int) == 39) = false := by
  rw [beq_eq_false_iff_ne]; intro e; apply hq; apply UInt8.toNat_inj.1; show s[0].toNat = 39; omega
 have H5 := hid (fun (W : World) => show Calls prog 190 #[.string s, .string ⟨#[47, 47]⟩] W fun e w' => e = .returned (.bool false) ∧ w' = W by rw [← hp]; exact Tryz.strings_HasPrefix s ⟨#[47, 47]⟩ W)
 have H8 := hid (fun (k : Nat) (hk : k ≤ 2) (b : Bool) (hb : markB (s.extract 0 k) = b) (W : World) => show Calls prog 194 #[.string (s.extract 0 k)] W fun e w' => e = .returned (.bool b) ∧ W = w' by rw [← hb]; exact implMark_any _ W (by simp; omega))
 clear hb hg hq hp
 go_enter func149, ntmps149
 go_wp2_with (first | (go_at_call 185; refine (H1.out _).mono ?_; rintro e w1 ⟨rfl, rfl⟩) | (go_at_call 188; refine (H3.out _).mono ?_; rintro e w1 ⟨rfl, rfl⟩) | (go_at_call 190; refine (H5.out _).mono ?_; rintro e w1 ⟨rfl, rfl⟩))
 go_loop [12] (fun i => ∃ k : Nat, k ≤ 2 ∧ k ≤ s.size ∧ Hid (k < 2 → 2 ≤ s.size → markB (s.extract 0 2) = false) ∧ Hid (k < 1 → markB (s.extract 0 1) = false) ∧ i = .int .i64 k) (fun i => (intOf i).toNat)
 case atStart =>
  by_cases h2 : 2 ≤ s.size
  ·refine ⟨2, by omega, h2, (show _ → _ → _ = _ from fun h => absurd h (by omega)), (show _ → _ = _ from fun h => absurd h (by omega)), ?_⟩
   go_num
  ·refine ⟨1, by omega, by omega, (show _ → _ → _ = _ from fun _ h => absurd h h2), (show _ → _ = _ from fun h => absurd h (by omega)), ?_⟩
   go_num
 case round =>
  obtain ⟨k, hk, hks, HA, HB, rfl⟩ := hrel
  by_cases hk0 : 0 < k
  ·cases hmb : markB (s.extract 0 k) with
   | true =>
    have H9 := hid (H8.out k hk _ hmb)
    have hmn : markN s = k := by
     by_cases hk2 : k = 2
     ·subst hk2; exact markN_two hks hmb
     ·obtain rfl : k = 1 := by omega
      exact markN_one (HA.out (by omega)) hmb
    have HE := hid (markR_some hmn hk0)
    clear H8 hmb hmn HA HB H1 H3 H5
    go_wp2_with (first | (go_at_call 194; refine (H9.out _).mono ?_; rintro e w1 ⟨rfl, rfl⟩))
    go_quiet (fail)
    go_wp2
    refine bodyPost_ret (by simp [results, Tryz.results149, go_sem,]; try rfl) rfl ?_
    exact ⟨by rw [HE.out], grow_⟩
   | false =>
    have H9 := hid (H8.out k hk _ hmb)
    have HM := hid hmb
    clear H8 hmb H1 H3 H5
    go_wp2_with (first | (go_at_call 194; refine (H9.out _).mono ?_; rintro e w1 ⟨rfl, rfl⟩))
    go_round
    case rel =>
     refine ⟨k - 1, by omega, by omega, ?_, ?_, by go_num⟩
     ·show _ → _ → _ = _
      intro h1 h2
      by_cases hk2 : k = 2
      ·subst hk2; exact HM.out
      ·exact HA.out (by omega) h2
     ·show _ → _ = _
      intro h1
      obtain rfl : k = 1 := by omega
      exact HM.out
    case measure => simp [intOf]; omega
  ·obtain rfl : k = 0 := by omega
   have HE := hid (markR_none (markN_none (HA.out (by omega)) (HB.out (by omega))))
   clear H8 HA HB H1 H3 H5
   go_wp2
   refine bodyPost_ret (by simp [results, Tryz.results149, go_sem,]; try rfl) rfl ?_
   exact ⟨by rw [HE.out], grow_⟩
def isR (ok : Bool) (k kind : Int) (t s : ByteArray) (z : Int) : Bool := ok && (k == kind) && (t.toList == s.toList) && (z == (s.size : Int))
theorem isSign_of (s : ByteArray) (kind k z : Int) (t : ByteArray) (ok : Bool) (w : World) (h0 : 0 < s.size)
  (H : Hid (∀ W, Calls prog 149 #[.string s] W fun e w' => e = .returned (.tuple #[.int .i64 k, .string t, .int .i64 z, .bool ok]) ∧ Below W.heap.size W w')) :
  Calls prog 211 #[.string s, .int .i64 kind] w fun e w' => e = .returned (.bool (isR ok k kind t s z)) ∧ Below w.heap.size w w' := by
 have hne : (s.toList == []) = false := toList_ne_len (show s.size ≠ 0 by omega)
 cases ok with
 | false =>
  have hr : isR false k kind t s z = false := rfl
  rw [hr]
  go_enter func211, ntmps211
  go_wp2_with (go_at_call 149; refine (H.out _).mono ?_; rintro e w1 ⟨rfl, h2⟩)
  go_ret
  exact ⟨rfl, grow_⟩
 | true =>
  cases h1 : (k == kind) with
  | false =>
   have hr : isR true k kind t s z = false := by unfold isR; rw [h1]; rfl
   rw [hr]
   go_enter func211, ntmps211
   go_wp2_with (go_at_call 149; refine (H.out _).mono ?_; rintro e w1 ⟨rfl, h2⟩)
   go_ret
   exact ⟨rfl, grow_⟩
  | true =>
   cases h3 : (t.toList == s.toList) with
   | false =>
    have hr : isR true k kind t s z = false := by unfold isR; rw [h1, h3]; rfl
    rw [hr]
    go_enter func211, ntmps211
    go_wp2_with (go_at_call 149; refine (H.out _).mono ?_; rintro e w1 ⟨rfl, h2⟩)
    go_ret
    exact ⟨rfl, grow_⟩
   | true =>
    have hr : isR true k kind t s z = (z == (s.size : Int)) := by unfold isR; rw [h1, h3]; rfl
    rw [hr]
    go_enter func211, ntmps211
    go_wp2_with (go_at_call 149; refine (H.out _).mono ?_; rintro e w1 ⟨rfl, h2⟩)
    go_ret
    exact ⟨rfl, grow_⟩
theorem isSign_empty (s : ByteArray) (kind : Int) (w : World) (h0 : s.size = 0) :
  Calls prog 211 #[.string s, .int .i64 kind] w fun e w' => e = .returned (.bool false) ∧ Below w.heap.size w w' := by
 have hne : (s.toList == []) = true := by
  rw [beq_iff_eq, ByteArray.toList_eq]
  exact List.eq_nil_of_length_eq_zero (by rw [ba_len]; exact h0)
 go_enter func211, ntmps211
 go_wp2
 go_ret
 exact ⟨rfl, grow_⟩
def quoR : List UInt8 → Nat
 | [] => 0
 | c :: l => if c = 39 then 1 else if plainC c = true then (if quoR l = 0 then 0 else quoR l + 1) else 0
def quoN (l : List UInt8) : Nat := if quoR (l.drop 1) = 0 then 0 else quoR (l.drop 1) + 1
def noteN (l : List UInt8) : Nat := if Lib.hasPrefix l [47, 47] = true ∧ (l.take (runN notEnd l)).all plainC = true then runN notEnd l else 0
def firstH (s : ByteArray) : Bool := match s.data.toList with | c :: _ => firstC c | [] => false
def nameW (s : ByteArray) : Bool := decide (s.size ≤ 30) && firstH s && allB innerC s
def nameB (s : ByteArray) : Bool := nameW s && !keyB s
def numB (s : ByteArray) : Bool := decide (0 < s.size ∧ s.size ≤ 12) && allB figC s
def quoB (s : ByteArray) : Bool := decide (1 < s.size) && (match s.data.toList with | c :: _ => decide (c = 39) | [] => false) && decide (quoN s.data.toList = s.size)
def noteB (s : ByteArray) : Bool := decide (1 < s.size) && decide (noteN s.data.toList = s.size) && decide (trimT s = s)
theorem tl_beq (t s : ByteArray) : (t.toList == s.toList) = decide (t = s) := by
 by_cases h : t = s
 ·subst h; rw [decide_eq_true rfl]; exact beq_self_eq_true _
 ·rw [str_ne h, decide_eq_false h]
theorem extract_whole {s : ByteArray} {n : Nat} (hn : n ≤ s.size) : s.extract 0 n = s ↔ n = s.size := by
 constructor
 ·intro h
  have := congrArg ByteArray.size h
  simp at this; omega
 ·intro h; subst h; simp
theorem head_of {s : ByteArray} (h : 0 < s.size) : ∃ l, s.data.toList = s[0] :: l := by
 have hl : s.data.toList.length = s.size := ba_len s
 match hd : s.data.toList with
 | [] => rw [hd] at hl; simp at hl; omega
 | c :: l =>
  refine ⟨l, ?_⟩
  have : s[0] = s.data.toList[0]'(by omega) := rfl
  rw [this]
  simp only [hd, List.getElem_cons_zero]
theorem fig_not_first {c : UInt8} (h : figC c = true) : firstC c = false := by
 unfold figC at h; unfold firstC
 have := of_decide_eq_true h
 exact decide_eq_false (by omega)
theorem first_not_fig {c : UInt8} (h : firstC c = true) : figC c = false := by
 cases hf : figC c with
 | false => rfl
 | true => rw [fig_not_first hf] at h; cases h
theorem plain_notEnd {c : UInt8} (h : plainC c = true) : notEnd c = true := by
 unfold plainC at h
 have := of_decide_eq_true h
 unfold notEnd
 rw [bne_iff_ne]
 intro e; subst e
 revert this; decide
theorem runT_self (p : UInt8 → Bool) (s : ByteArray) : runT p s = s ↔ allB p s = true := by
 unfold runT
 have h := runN_le p s.data.toList
 rw [ba_len] at h
 rw [extract_whole h]
 exact run_whole p s
theorem quoR_eq (l : List UInt8) : quoR l = if Lib.indexByte l 39 < 0 then 0 else if (l.take (Lib.indexByte l 39).toNat).all plainC = true then (Lib.indexByte l 39).toNat + 1 else 0 := by
 induction l with
 | nil => rfl
 | cons c l ih =>
  have hge := Lib.indexByte_ge l 39
  unfold quoR Lib.indexByte
  by_cases h : c = 39
  ·subst h
   simp
  ·have hb : (c == 39) = false := by rw [beq_eq_false_iff_ne]; exact h
   rw [if_neg h, hb]
   simp only [Bool.false_eq_true, if_false]
   by_cases h1 : Lib.indexByte l 39 = -1
   ·have e1 : (Lib.indexByte l 39 == -1) = true := by rw [h1]; rfl
    rw [if_pos e1, ih, h1]
    simp
   ·have e1 : (Lib.indexByte l 39 == -1) = false := by rw [beq_eq_false_iff_ne]; exact h1
    rw [e1]
    simp only [Bool.false_eq_true, if_false]
    rw [ih]
    obtain ⟨o, ho⟩ := Int.eq_ofNat_of_zero_le (show 0 ≤ Lib.indexByte l 39 by omega)
    rw [ho]
    have e2 : ¬ ((o : Int) < 0) := by omega
    have e3 : ¬ ((o : Int) + 1 < 0) := by omega
    have e4 : ((o : Int) + 1).toNat = o + 1 := by omega
    rw [if_neg e2, if_neg e3, e4, List.take_succ_cons, List.all_cons, Int.toNat_natCast]
    cases hp : plainC c with
    | true =>
     simp only [if_true, Bool.true_and]
     by_cases hq : (l.take o).all plainC = true
     ·rw [if_pos hq, if_neg (by omega), if_pos hq]
     ·rw [if_neg hq, if_pos rfl, if_neg hq]
    | false =>
     simp
section
variable {s : ByteArray}
theorem nameW_no (h0 : 0 < s.size) (h : firstC s[0] = false) : nameW s = false := by
 obtain ⟨l, hl⟩ := head_of h0
 have : firstH s = false := by unfold firstH; rw [hl]; exact h
 unfold nameW; rw [this, Bool.and_false, Bool.false_and]
theorem numB_no (h0 : 0 < s.size) (h : figC s[0] = false) : numB s = false := by
 unfold numB; rw [allTo_no h0 h, Bool.and_false]
theorem quoB_no (h0 : 0 < s.size) (h : ¬ s[0] = 39) : quoB s = false := by
 obtain ⟨l, hl⟩ := head_of h0
 unfold quoB; simp only [hl]; rw [decide_eq_false h, Bool.and_false, Bool.false_and]
theorem noteB_no (h : Lib.hasPrefix s.data.toList [47, 47] = false) : noteB s = false := by
 have : noteN s.data.toList = 0 := by unfold noteN; rw [h]; simp
 unfold noteB; rw [this]
 by_cases h1 : 1 < s.size
 ·rw [decide_eq_false (show ¬ 0 = s.size by omega), Bool.and_false, Bool.false_and]
 ·rw [decide_eq_false h1, Bool.false_and, Bool.false_and]
theorem pre_head (h0 : 0 < s.size) (h : Lib.hasPrefix s.data.toList [47, 47] = true) : s[0] = 47 := by
 obtain ⟨l, hl⟩ := head_of h0
 rw [hl] at h
 unfold Lib.hasPrefix at h
 simp only [List.isPrefixOf, Bool.and_eq_true, beq_iff_eq] at h
 exact h.1.symm
theorem pre_no (h0 : 0 < s.size) (h : ¬ s[0] = 47) : Lib.hasPrefix s.data.toList [47, 47] = false := by
 cases hp : Lib.hasPrefix s.data.toList [47, 47] with
 | false => rfl
 | true => exact absurd (pre_head h0 hp) h
theorem isR_kind (ok : Bool) {k kind : Int} (t s : ByteArray) (z : Int) (h : k ≠ kind) : isR ok k kind t s z = false := by
 have : (k == kind) = false := by rw [beq_eq_false_iff_ne]; exact h
 unfold isR; rw [this, Bool.and_false, Bool.false_and, Bool.false_and]
theorem isR_same (ok : Bool) (k : Int) (t s : ByteArray) (z : Nat) : isR ok k k t s z = (ok && decide (t = s) && decide (z = s.size)) := by
 have e1 : (k == k) = true := by rw [beq_iff_eq]
 have e2 : ((z : Int) == (s.size : Int)) = decide (z = s.size) := by
  by_cases h : z = s.size
  ·rw [decide_eq_true h, h]; exact beq_self_eq_true _
  ·rw [decide_eq_false h, beq_eq_false_iff_ne]; omega
 unfold isR; rw [e1, tl_beq, e2, Bool.and_true]
theorem name_eq (h0 : 0 < s.size) (hb : firstC s[0] = true) :
  isR (decide (((runT innerC s).size : Int) ≤ 30)) 1 1 (runT innerC s) s (runT innerC s).size = nameW s := by
 obtain ⟨l, hl⟩ := head_of h0
 have hf : firstH s = true := by unfold firstH; rw [hl]; exact hb
 rw [isR_same]
 unfold nameW
 rw [hf, Bool.and_true]
 by_cases h : runT innerC s = s
 ·rw [h, decide_eq_true rfl, decide_eq_true rfl, (runT_self innerC s).1 h, Bool.and_true, Bool.and_true, Bool.and_true]
  by_cases h2 : s.size ≤ 30
  ·rw [decide_eq_true h2, decide_eq_true (by omega)]
  ·rw [decide_eq_false h2, decide_eq_false (by omega)]
 ·have : allB innerC s = false := by
   cases hc : allB innerC s with
   | false => rfl
   | true => exact absurd ((runT_self innerC s).2 hc) h
  rw [decide_eq_false h, this, Bool.and_false, Bool.and_false, Bool.false_and]
theorem num_eq (h0 : 0 < s.size) :
  isR (decide (((runT figC s).size : Int) ≤ 12)) 2 2 (runT figC s) s (runT figC s).size = numB s := by
 rw [isR_same]
 unfold numB
 by_cases h : runT figC s = s
 ·rw [h, decide_eq_true rfl, decide_eq_true rfl, (runT_self figC s).1 h, Bool.and_true, Bool.and_true, Bool.and_true]
  by_cases h2 : s.size ≤ 12
  ·rw [decide_eq_true (⟨h0, h2⟩ : 0 < s.size ∧ s.size ≤ 12), decide_eq_true (by omega)]
  ·rw [decide_eq_false (show ¬ (0 < s.size ∧ s.size ≤ 12) by omega), decide_eq_false (by omega)]
 ·have : allB figC s = false := by
   cases hc : allB figC s with
   | false => rfl
   | true => exact absurd ((runT_self figC s).2 hc) h
  rw [decide_eq_false h, this, Bool.and_false, Bool.and_false, Bool.false_and]
theorem note_eq (h0 : 0 < s.size) (hp : Lib.hasPrefix s.data.toList [47, 47] = true) :
  isR (allB plainC (runT notEnd s)) 5 5 (trimT (runT notEnd s)) s (runT notEnd s).size = noteB s := by
 have hlen : 2 ≤ s.size := by have := (List.isPrefixOf_iff_prefix.1 (show List.isPrefixOf [47, 47] s.data.toList = true from hp)).length_le; rw [ba_len] at this; exact this
 rw [isR_same]
 unfold noteB
 rw [decide_eq_true (show 1 < s.size by omega), Bool.true_and]
 have hn := runN_le notEnd s.data.toList
 rw [ba_len] at hn
 have hsz := runT_size notEnd s
 have hall : allB plainC (runT notEnd s) = (s.data.toList.take (runN notEnd s.data.toList)).all plainC := by
  unfold allB runT
  rw [show (s.extract 0 (runN notEnd s.data.toList)).data.toList = s.data.toList.take (runN notEnd s.data.toList) by rw [ByteArray.data_extract]; simp]
 by_cases hz : runN notEnd s.data.toList = s.size
 ·have ht : runT notEnd s = s := by rw [runT_self]; exact (run_whole notEnd s).1 hz
  rw [ht]
  rw [ht] at hall
  rw [hall]
  unfold noteN
  rw [hp, hz]
  cases hq : (s.data.toList.take s.size).all plainC with
  | true => simp
  | false =>
   simp
   intro _
   omega
 ·rw [decide_eq_false (show ¬ (runT notEnd s).size = s.size by rw [hsz]; exact hz), Bool.and_false]
  have : noteN s.data.toList ≠ s.size := by
   unfold noteN
   split
   ·exact hz
   ·omega
  rw [decide_eq_false this, Bool.false_and]
theorem quo_eq (h0 : 0 < s.size) (hq : s[0] = 39) : isR (quoP s).2 3 3 (quoP s).1 s (quoP s).1.size = quoB s := by
 obtain ⟨l, hl⟩ := head_of h0
 rw [hq] at hl
 have hll : l.length + 1 = s.size := by have := ba_len s; rw [hl] at this; simpa using this
 have hex : (s.extract 1 s.size).data.toList = l := by
  rw [ByteArray.data_extract]
  simp only [Array.toList_extract, List.extract_eq_take_drop, hl, List.drop_succ_cons, List.drop_zero]
  exact List.take_of_length_le (by omega)
 rw [isR_same]
 unfold quoB quoP
 rw [hex, hl]
 simp only [decide_true, Bool.and_true]
 have hqn : quoN (39 :: l) = if quoR l = 0 then 0 else quoR l + 1 := rfl
 rw [hqn, quoR_eq]
 by_cases hi : Lib.indexByte l 39 < 0
 ·rw [if_pos hi, if_pos hi]
  simp only [if_true, Bool.false_and]
  by_cases h1 : 1 < s.size
  ·rw [decide_eq_true h1, decide_eq_false (by omega), Bool.and_false]
  ·rw [decide_eq_false h1, Bool.false_and]
 ·rw [if_neg hi, if_neg hi]
  obtain ⟨o, ho⟩ := Int.eq_ofNat_of_zero_le (show 0 ≤ Lib.indexByte l 39 by omega)
  have hsome := Lib.indexByte_some ho
  have holt : o < l.length := (List.getElem?_eq_some_iff.1 hsome.1).1
  rw [ho, Int.toNat_natCast, show ((o : Int) + 2).toNat = o + 2 by omega]
  have hs2 : o + 2 ≤ s.size := by omega
  have hszz : (s.extract 0 (o + 2)).size = o + 2 := by simp; omega
  rw [decide_eq_true (show 1 < s.size by omega), Bool.true_and]
  have hall : allB plainC (s.extract 0 (o + 2)) = (l.take o).all plainC := by
   unfold allB
   rw [show (s.extract 0 (o + 2)).data.toList = s.data.toList.take (o + 2) by rw [ByteArray.data_extract]; simp, hl, List.take_succ_cons, List.all_cons]
   rw [show plainC 39 = true from rfl, Bool.true_and]
   rw [List.take_add_one, hsome.1, List.all_append]
   simp [show plainC 39 = true from rfl]
  rw [hall, hszz]
  cases hc : (l.take o).all plainC with
  | false =>
   simp only [Bool.false_and, Bool.false_eq_true, if_false, if_true]
   rw [decide_eq_false (by omega)]
  | true =>
   simp only [if_true, Bool.true_and]
   rw [if_neg (by omega)]
   by_cases hw : o + 2 = s.size
   ·rw [decide_eq_true ((extract_whole hs2).2 hw), decide_eq_true hw]
    rfl
   ·rw [decide_eq_false hw, Bool.and_false]
end
def signB (s : ByteArray) (kind : Int) : Bool := if kind = 1 then nameW s else if kind = 2 then numB s else if kind = 3 then quoB s else noteB s
theorem signB_empty {s : ByteArray} (h : s.size = 0) (kind : Int) : signB s kind = false := by
 have hl : s.data.toList = [] := List.eq_nil_of_length_eq_zero (by rw [ba_len]; exact h)
 unfold signB
 split
 ·unfold nameW firstH; rw [hl]; simp
 ·split
  ·unfold numB; rw [decide_eq_false (by omega), Bool.false_and]
  ·split
   ·unfold quoB; rw [decide_eq_false (by omega), Bool.false_and, Bool.false_and]
   ·unfold noteB; rw [decide_eq_false (by omega), Bool.false_and, Bool.false_and]
theorem implIsSign_any (s : ByteArray) (kind : Int) (w : World) (hs : s.size ≤ maxLen) (hk : kind = 1 ∨ kind = 2 ∨ kind = 3 ∨ kind = 5) :
  Calls prog 211 #[.string s, .int .i64 kind] w fun e w' => e = .returned (.bool (signB s kind)) ∧ Below w.heap.size w w' := by
 by_cases h0 : 0 < s.size
 ·have key : ∀ (k z : Int) (t : ByteArray) (ok : Bool), isR ok k kind t s z = signB s kind → (∀ W, Calls prog 149 #[.string s] W fun e w' => e = .returned (.tuple #[.int .i64 k, .string t, .int .i64 z, .bool ok]) ∧ Below W.heap.size W w') → Calls prog 211 #[.string s, .int .i64 kind] w fun e w' => e = .returned (.bool (signB s kind)) ∧ Below w.heap.size w w' := by
   intro k z t ok he H
   rw [← he]
   exact isSign_of s kind k z t ok w h0 (hid H)
  have still : ∀ {v : Value} (W : World), (Calls prog 149 #[.string s] W fun e w' => e = .returned v ∧ W = w') → Calls prog 149 #[.string s] W fun e w' => e = .returned v ∧ Below W.heap.size W w' := fun W h => h.mono fun e w' ⟨h1, h2⟩ => ⟨h1, by subst h2; exact Below.refl _ _⟩
  cases hb : firstC s[0] with
  | true =>
   refine key 1 _ _ _ ?_ (fun W => still W (signAt_name s W h0 hs hb))
   have hg := first_not_fig hb
   rcases hk with rfl | rfl | rfl | rfl
   ·exact name_eq h0 hb
   ·rw [isR_kind _ _ _ _ (by decide)]; exact (numB_no h0 hg).symm
   ·rw [isR_kind _ _ _ _ (by decide)]; exact (quoB_no h0 (by intro e; rw [e] at hb; revert hb; decide)).symm
   ·rw [isR_kind _ _ _ _ (by decide)]; exact (noteB_no (pre_no h0 (by intro e; rw [e] at hb; revert hb; decide))).symm
  | false =>
   cases hg : figC s[0] with
   | true =>
    refine key 2 _ _ _ ?_ (fun W => still W (signAt_num s W h0 hs hb hg))
    rcases hk with rfl | rfl | rfl | rfl
    ·rw [isR_kind _ _ _ _ (by decide)]; exact (nameW_no h0 hb).symm
    ·exact num_eq h0
    ·rw [isR_kind _ _ _ _ (by decide)]; exact (quoB_no h0 (by intro e; rw [e] at hg; revert hg; decide)).symm
    ·rw [isR_kind _ _ _ _ (by decide)]; exact (noteB_no (pre_no h0 (by intro e; rw [e] at hg; revert hg; decide))).symm
   | false =>
    by_cases hq : s[0] = 39
    ·refine key 3 _ _ _ ?_ (fun W => still W (signAt_quo s W h0 hs hb hg hq))
     rcases hk with rfl | rfl | rfl | rfl
     ·rw [isR_kind _ _ _ _ (by decide)]; exact (nameW_no h0 hb).symm
     ·rw [isR_kind _ _ _ _ (by decide)]; exact (numB_no h0 hg).symm
     ·exact quo_eq h0 hq
     ·rw [isR_kind _ _ _ _ (by decide)]; exact (noteB_no (pre_no h0 (by rw [hq]; decide))).symm
    ·cases hp : Lib.hasPrefix s.data.toList [47, 47] with
     | true =>
      refine key 5 _ _ _ ?_ (fun W => still W (signAt_note s W h0 hs hb hg hq hp))
      rcases hk with rfl | rfl | rfl | rfl
      ·rw [isR_kind _ _ _ _ (by decide)]; exact (nameW_no h0 hb).symm
      ·rw [isR_kind _ _ _ _ (by decide)]; exact (numB_no h0 hg).symm
      ·rw [isR_kind _ _ _ _ (by decide)]; exact (quoB_no h0 hq).symm
      ·exact note_eq h0 hp
     | false =>
      have hno : signB s kind = false := by
       rcases hk with rfl | rfl | rfl | rfl
       ·exact nameW_no h0 hb
       ·exact numB_no h0 hg
       ·exact quoB_no h0 hq
       ·exact noteB_no hp
      have hm : ∀ W, Calls prog 149 #[.string s] W fun e w' => e = .returned (markR s) ∧ Below W.heap.size W w' := fun W => signAt_mark s W h0 hs hb hg hq hp
      by_cases hz : markN s = 0
      ·rw [markR_none hz] at hm
       exact key 0 0 ⟨#[]⟩ false (by rw [hno]; rfl) hm
      ·rw [markR_some rfl (Nat.pos_of_ne_zero hz)] at hm
       exact key 4 _ _ true (by rw [hno]; exact isR_kind _ _ _ _ (by rcases hk with rfl | rfl | rfl | rfl <;> decide)) hm
 ·rw [signB_empty (by omega)]
  exact isSign_empty s kind w (by omega)
theorem implIsName_any (s : ByteArray) (w : World) (hs : s.size ≤ maxLen) : Calls prog 210 #[.string s] w fun e w' => e = .returned (.bool (nameB s)) ∧ Below w.heap.size w w' := by
 have H1 := hid (fun (b : Bool) (hb : nameW s = b) (W : World) => show Calls prog 211 #[.string s, .int .i64 1] W fun e w' => e = .returned (.bool b) ∧ Below W.heap.size W w' by rw [← hb]; exact implIsSign_any s 1 W hs (.inl rfl))
 cases hb : nameW s with
 | false =>
  have H2 := hid (H1.out _ hb)
  have hr : nameB s = false := by unfold nameB; rw [hb]; rfl
  rw [hr]
  clear H1 hb hr
  go_enter func210, ntmps210
  go_wp2_with (go_at_call 211; refine (H2.out _).mono ?_; rintro e w1 ⟨rfl, h2⟩)
  go_ret
  exact ⟨rfl, grow_⟩
 | true =>
  have H2 := hid (H1.out _ hb)
  have hr : nameB s = !keyB s := by unfold nameB; rw [hb]; rfl
  rw [hr]
  have H3 := hid (fun W => implKey_any s W)
  clear H1 hb hr
  generalize keyB s = u at H3 ⊢
  go_enter func210, ntmps210
  go_wp2_with (first | (go_at_call 211; refine (H2.out _).mono ?_; rintro e w1 ⟨rfl, h2⟩) | (go_at_call 244; refine (H3.out _).mono ?_; rintro e w1 ⟨rfl, rfl⟩))
  go_ret
  exact ⟨rfl, grow_⟩
def textB (kind : Int) (s : ByteArray) : Bool :=
 if kind = 1 ∨ kind = 6 ∨ kind = 12 ∨ kind = 13 ∨ kind = 20 ∨ kind = 21 then nameB s
 else if kind = 2 then numB s else if kind = 3 then quoB s else if kind = 19 then noteB s else if kind = 7 then chainB s else decide (s.size = 0)
theorem textB_name {kind : Int} (h : kind = 1 ∨ kind = 6 ∨ kind = 12 ∨ kind = 13 ∨ kind = 20 ∨ kind = 21) (s : ByteArray) : textB kind s = nameB s := by unfold textB; rw [if_pos h]
theorem textB_sign {kind : Int} {j : Int} (h : (kind = 2 ∧ j = 2) ∨ (kind = 3 ∧ j = 3) ∨ (kind = 19 ∧ j = 5)) (s : ByteArray) : textB kind s = signB s j := by
 rcases h with ⟨rfl, rfl⟩ | ⟨rfl, rfl⟩ | ⟨rfl, rfl⟩ <;> rfl
theorem textB_chain (s : ByteArray) : textB 7 s = chainB s := rfl
theorem textB_rest {kind : Int} (h : kind ≠ 1 ∧ kind ≠ 6 ∧ kind ≠ 12 ∧ kind ≠ 13 ∧ kind ≠ 20 ∧ kind ≠ 21 ∧ kind ≠ 2 ∧ kind ≠ 3 ∧ kind ≠ 19 ∧ kind ≠ 7) (s : ByteArray) : textB kind s = decide (s.size = 0) := by
 unfold textB; rw [if_neg (by omega), if_neg (by omega), if_neg (by omega), if_neg (by omega), if_neg (by omega)]
theorem size_zero_beq (s : ByteArray) : (s.toList == []) = decide (s.size = 0) := by
 by_cases h : s.size = 0
 ·rw [decide_eq_true h, beq_iff_eq, ByteArray.toList_eq]; exact List.eq_nil_of_length_eq_zero (by rw [ba_len]; exact h)
 ·rw [decide_eq_false h]; exact toList_ne_len h
theorem textFits_name (kind : Int) (s : ByteArray) (A : Option Addr) (n c : Nat) (z : Bool) (w : World) (hs : s.size ≤ maxLen) (hk : kind = 1 ∨ kind = 6 ∨ kind = 12 ∨ kind = 13 ∨ kind = 20 ∨ kind = 21) :
  Calls prog 175 #[.agg #[.int .i64 kind, .string s, .slice A n c, .bool z]] w fun e w' => e = .returned (.bool (textB kind s)) ∧ Below w.heap.size w w' := by
 rw [textB_name hk]
 have H := hid (fun W => implIsName_any s W hs)
 generalize nameB s = u at H ⊢
 rcases hk with rfl | rfl | rfl | rfl | rfl | rfl
 all_goals
  go_enter func175, ntmps175
  go_wp2_with (go_at_call 210; refine (H.out _).mono ?_; rintro e w1 ⟨rfl, h2⟩)
  go_ret
  exact ⟨rfl, below_box h2⟩
theorem textFits_sign (kind : Int) (s : ByteArray) (A : Option Addr) (n c : Nat) (z : Bool) (w : World) (hs : s.size ≤ maxLen) (j : Int) (hk : (kind = 2 ∧ j = 2) ∨ (kind = 3 ∧ j = 3) ∨ (kind = 19 ∧ j = 5)) :
  Calls prog 175 #[.agg #[.int .i64 kind, .string s, .slice A n c, .bool z]] w fun e w' => e = .returned (.bool (textB kind s)) ∧ Below w.heap.size w w' := by
 rw [textB_sign hk]
 have H := hid (fun W => implIsSign_any s j W hs (by omega))
 generalize signB s j = u at H ⊢
 rcases hk with ⟨rfl, rfl⟩ | ⟨rfl, rfl⟩ | ⟨rfl, rfl⟩
 all_goals
  go_enter func175, ntmps175
  go_wp2_with (go_at_call 211; refine (H.out _).mono ?_; rintro e w1 ⟨rfl, h2⟩)
  go_ret
  exact ⟨rfl, below_box h2⟩
theorem textFits_chain (s : ByteArray) (A : Option Addr) (n c : Nat) (z : Bool) (w : World) :
  Calls prog 175 #[.agg #[.int .i64 7, .string s, .slice A n c, .bool z]] w fun e w' => e = .returned (.bool (textB 7 s)) ∧ Below w.heap.size w w' := by
 rw [textB_chain]
 cases h0 : (s.toList == [38, 38]) with
 | true =>
  have hk : chainB s = true := by unfold chainB; simp only [h0, Bool.or_true, Bool.true_or]
  rw [hk]; clear hk
  go_enter func175, ntmps175
  go_wp2
  go_ret
  exact ⟨rfl, grow_⟩
 | false =>
 cases h1 : (s.toList == [124, 124]) with
 | true =>
  have hk : chainB s = true := by unfold chainB; simp only [h1, Bool.or_true, Bool.true_or]
  rw [hk]; clear hk
  go_enter func175, ntmps175
  go_wp2
  go_ret
  exact ⟨rfl, grow_⟩
 | false =>
 cases h2 : (s.toList == [61, 61]) with
 | true =>
  have hk : chainB s = true := by unfold chainB; simp only [h2, Bool.or_true, Bool.true_or]
  rw [hk]; clear hk
  go_enter func175, ntmps175
  go_wp2
  go_ret
  exact ⟨rfl, grow_⟩
 | false =>
 cases h3 : (s.toList == [60]) with
 | true =>
  have hk : chainB s = true := by unfold chainB; simp only [h3, Bool.or_true, Bool.true_or]
  rw [hk]; clear hk
  go_enter func175, ntmps175
  go_wp2
  go_ret
  exact ⟨rfl, grow_⟩
 | false =>
 cases h4 : (s.toList == [43]) with
 | true =>
  have hk : chainB s = true := by unfold chainB; simp only [h4, Bool.or_true, Bool.true_or]
  rw [hk]; clear hk
  go_enter func175, ntmps175
  go_wp2
  go_ret
  exact ⟨rfl, grow_⟩
 | false =>
 cases h5 : (s.toList == [45]) with
 | true =>
  have hk : chainB s = true := by unfold chainB; simp only [h5, Bool.or_true, Bool.true_or]
  rw [hk]; clear hk
  go_enter func175, ntmps175
  go_wp2
  go_ret
  exact ⟨rfl, grow_⟩
 | false =>
 cases h6 : (s.toList == [42]) with
 | true =>
  have hk : chainB s = true := by unfold chainB; simp only [h6, Bool.or_true, Bool.true_or]
  rw [hk]; clear hk
  go_enter func175, ntmps175
  go_wp2
  go_ret
  exact ⟨rfl, grow_⟩
 | false =>
 have hk : chainB s = false := by unfold chainB; simp only [h0, h1, h2, h3, h4, h5, h6, Bool.or_self]
 rw [hk]; clear hk
 go_enter func175, ntmps175
 go_wp2
 go_ret
 exact ⟨rfl, grow_⟩
theorem textFits_rest (kind : Int) (s : ByteArray) (A : Option Addr) (n c : Nat) (z : Bool) (w : World) (hs : s.size ≤ maxLen) (hk : kind ≠ 1 ∧ kind ≠ 6 ∧ kind ≠ 12 ∧ kind ≠ 13 ∧ kind ≠ 20 ∧ kind ≠ 21 ∧ kind ≠ 2 ∧ kind ≠ 3 ∧ kind ≠ 19 ∧ kind ≠ 7) :
  Calls prog 175 #[.agg #[.int .i64 kind, .string s, .slice A n c, .bool z]] w fun e w' => e = .returned (.bool (textB kind s)) ∧ Below w.heap.size w w' := by
 rw [textB_rest hk, ← size_zero_beq]
 have d1 : (kind == 1) = false := by rw [beq_eq_false_iff_ne]; omega
 have d6 : (kind == 6) = false := by rw [beq_eq_false_iff_ne]; omega
 have d12 : (kind == 12) = false := by rw [beq_eq_false_iff_ne]; omega
 have d13 : (kind == 13) = false := by rw [beq_eq_false_iff_ne]; omega
 have d20 : (kind == 20) = false := by rw [beq_eq_false_iff_ne]; omega
 have d21 : (kind == 21) = false := by rw [beq_eq_false_iff_ne]; omega
 have d2 : (kind == 2) = false := by rw [beq_eq_false_iff_ne]; omega
 have d3 : (kind == 3) = false := by rw [beq_eq_false_iff_ne]; omega
 have d19 : (kind == 19) = false := by rw [beq_eq_false_iff_ne]; omega
 have d7 : (kind == 7) = false := by rw [beq_eq_false_iff_ne]; omega
 clear hk hs
 go_enter func175, ntmps175
 go_wp2
 go_ret
 refine ⟨ret_bool ?_, grow_⟩
 first | rfl | exact List.isEmpty_eq_beq_nil | simp
theorem textFits_any (kind : Int) (s : ByteArray) (A : Option Addr) (n c : Nat) (z : Bool) (w : World) (hs : s.size ≤ maxLen) :
  Calls prog 175 #[.agg #[.int .i64 kind, .string s, .slice A n c, .bool z]] w fun e w' => e = .returned (.bool (textB kind s)) ∧ Below w.heap.size w w' := by
 by_cases h1 : kind = 1 ∨ kind = 6 ∨ kind = 12 ∨ kind = 13 ∨ kind = 20 ∨ kind = 21
 ·exact textFits_name kind s A n c z w hs h1
 ·by_cases h2 : kind = 2
  ·exact textFits_sign kind s A n c z w hs 2 (.inl ⟨h2, rfl⟩)
  ·by_cases h3 : kind = 3
   ·exact textFits_sign kind s A n c z w hs 3 (.inr (.inl ⟨h3, rfl⟩))
   ·by_cases h4 : kind = 19
    ·exact textFits_sign kind s A n c z w hs 5 (.inr (.inr ⟨h4, rfl⟩))
    ·by_cases h5 : kind = 7
     ·subst h5; exact textFits_chain s A n c z w
     ·exact textFits_rest kind s A n c z w hs (by omega)
theorem still_below {P : Program} {f : FuncId} {args : Array Value} {W : World} {v : Value} (h : Calls P f args W fun e w' => e = .returned v ∧ W = w') : Calls P f args W fun e w' => e = .returned v ∧ Below W.heap.size W w' :=
 h.mono fun e w' ⟨h1, h2⟩ => ⟨h1, by subst h2; exact Below.refl _ _⟩
theorem l01In_is' {a b c : Int} {v : Bool} (h : inB a b c = v) (w : World) : Calls prog 97 #[.int .i64 a, .int .i64 b, .int .i64 c] w fun e w' => e = .returned (.bool v) ∧ w = w' := by rw [← h]; exact l01In_b a b c w
theorem drop_get {s : ByteArray} {n : Nat} (h : n < s.size) : s.data.toList.drop n = s[n] :: s.data.toList.drop (n + 1) := by
 rw [List.drop_eq_getElem_cons (by rw [ba_len]; exact h)]
 rfl
def quoK (j r : Nat) : Nat := if r = 0 then 0 else r + j
theorem quoR_end {c : UInt8} {l : List UInt8} (h : c = 39) : quoR (c :: l) = 1 := by unfold quoR; rw [if_pos h]
theorem quoR_bad {c : UInt8} {l : List UInt8} (h : ¬ c = 39) (hp : plainC c = false) : quoR (c :: l) = 0 := by unfold quoR; rw [if_neg h, hp]; rfl
theorem quoR_more {c : UInt8} {l : List UInt8} (j : Nat) (h : ¬ c = 39) (hp : plainC c = true) : quoK j (quoR (c :: l)) = quoK (j + 1) (quoR l) := by
 rw [show quoR (c :: l) = if c = 39 then 1 else if plainC c = true then (if quoR l = 0 then 0 else quoR l + 1) else 0 from rfl, if_neg h, if_pos hp]
 unfold quoK
 by_cases h0 : quoR l = 0
 ·rw [if_pos h0, if_pos rfl, if_pos h0]
 ·rw [if_neg h0, if_neg (by omega), if_neg h0]; omega
theorem quoN_of {l : List UInt8} {r : Nat} (h : quoR (l.drop 1) = r) : quoN l = if r = 0 then 0 else r + 1 := by unfold quoN; rw [h]
theorem ne_39 {c : UInt8} (h : ¬ c = 39) : ((c.toNat : Int) == 39) = false := by
 rw [beq_eq_false_iff_ne]; intro e; apply h; apply UInt8.toNat_inj.1; show c.toNat = 39; omega
theorem l04Quoted_any (s : ByteArray) (q : Nat) (w : World) (hq : q ≤ s.size) (hs : s.size ≤ 4611686018427387904) :
  Calls prog 138 #[.string s, .int .i64 q] w fun e w' => e = .returned (.int .i64 (quoN (s.data.toList.drop q) : Nat)) ∧ w = w' := by
 have hd : (s.data.toList.drop q).drop 1 = s.data.toList.drop (q + 1) := by rw [List.drop_drop]
 have HN := hid (fun r (h : quoR (s.data.toList.drop (q + 1)) = r) => quoN_of (show quoR ((s.data.toList.drop q).drop 1) = r by rw [hd]; exact h))
 clear hd
 generalize quoN (s.data.toList.drop q) = N at HN ⊢
 go_enter func138, ntmps138
 go_wp2
 go_loop [5] (fun i => ∃ n : Nat, q + 1 ≤ n ∧ n ≤ s.size + 1 ∧ Hid (quoK (n - (q + 1)) (quoR (s.data.toList.drop n)) = quoR (s.data.toList.drop (q + 1))) ∧ i = .int .i64 n) (fun i => s.size + 1 - (intOf i).toNat)
 case atStart => exact ⟨q + 1, by omega, by omega, (show _ = _ by rw [Nat.sub_self]; unfold quoK; split <;> omega), by go_num⟩
 case round =>
  obtain ⟨n, hn1, hn2, HK, rfl⟩ := hrel
  by_cases hlt : n < s.size
  ·by_cases h39 : s[n] = 39
   ·have hN : N = n + 1 - q := by
     have h1 := HK.out
     rw [drop_get hlt, quoR_end h39] at h1
     have h2 := HN.out _ h1.symm
     rw [show quoK (n - (q + 1)) 1 = 1 + (n - (q + 1)) by unfold quoK; rw [if_neg (by decide)], if_neg (by omega)] at h2
     omega
    have e39 : ((s[n].toNat : Int) == 39) = true := by rw [h39]; rfl
    have eN : ((n : Int) + 1) - q = (N : Nat) := by omega
    clear HN HK h39 hN
    go_wp2
    go_ret
    exact ⟨ret_int (by omega), rfl⟩
   ·have e39 := ne_39 h39
    have HC := hid (fun (b : Bool) (hb : plainC s[n] = b) (W : World) => show Calls prog 169 #[.int .u8 (s[n].toNat : Int)] W fun e w' => e = .returned (.bool b) ∧ W = w' by rw [← hb]; exact specPlain_any _ W)
    cases hp : plainC s[n] with
    | true =>
     have H2 := hid (HC.out _ hp)
     have HK2 : Hid (quoK (n + 1 - (q + 1)) (quoR (s.data.toList.drop (n + 1))) = quoR (s.data.toList.drop (q + 1))) := by
      show _ = _
      rw [← HK.out, drop_get hlt, quoR_more _ h39 hp, show n + 1 - (q + 1) = n - (q + 1) + 1 by omega]
     clear HC hp HK HN h39
     go_wp2_with (go_at_call 169; refine (H2.out _).mono ?_; rintro e w1 ⟨rfl, rfl⟩)
     go_round
     case rel => exact ⟨n + 1, by omega, by omega, HK2, by go_num⟩
     case measure => simp [intOf]; omega
    | false =>
     have H2 := hid (HC.out _ hp)
     have hN : N = 0 := by
      have h1 := HK.out
      rw [drop_get hlt, quoR_bad h39 hp] at h1
      have h2 := HN.out _ h1.symm
      unfold quoK at h2
      simpa using h2
     subst hN
     clear HC hp HK HN h39
     go_wp2_with (go_at_call 169; refine (H2.out _).mono ?_; rintro e w1 ⟨rfl, rfl⟩)
     go_ret
     exact ⟨rfl, rfl⟩
  ·have hN : N = 0 := by
    have h1 := HK.out
    rw [List.drop_of_length_le (by rw [ba_len]; omega)] at h1
    have h2 := HN.out _ h1.symm
    simpa [quoK, quoR] using h2
   subst hN
   clear HN HK
   go_wp2
   go_ret
   exact ⟨rfl, rfl⟩
theorem runN_at {p : UInt8 → Bool} : ∀ {l : List UInt8} {k : Nat}, (l.take k).all p = true → (∀ (h : k < l.length), p l[k] = false) → k ≤ l.length → runN p l = k := by
 intro l
 induction l with
 | nil => intro k h _ hk; simp at hk; subst hk; rfl
 | cons c l ih =>
  intro k h hc hk
  cases k with
  | zero =>
   have := hc (by simp)
   simp only [List.getElem_cons_zero] at this
   unfold runN; rw [if_neg (by rw [this]; decide)]
  | succ k =>
   simp only [List.take_succ_cons, List.all_cons, Bool.and_eq_true] at h
   unfold runN
   rw [if_pos h.1, ih h.2 (fun hl => by have := hc (by simpa using hl); simpa using this) (by simpa using hk)]
theorem all_imp {l : List UInt8} {p q : UInt8 → Bool} (hpq : ∀ c, p c = true → q c = true) (h : l.all p = true) : l.all q = true := by
 rw [List.all_eq_true] at h ⊢
 exact fun x hx => hpq x (h x hx)
theorem noteN_stop {l : List UInt8} {k : Nat} (hp : Lib.hasPrefix l [47, 47] = true) (h : (l.take k).all plainC = true) (hk : k ≤ l.length) (hc : ∀ (hl : k < l.length), l[k] = 10) : noteN l = k := by
 have hr : runN notEnd l = k := runN_at (all_imp (fun c => plain_notEnd) h) (fun hl => by rw [hc hl]; rfl) hk
 unfold noteN; rw [hr, if_pos ⟨hp, h⟩]
theorem runN_gt {p : UInt8 → Bool} : ∀ {l : List UInt8} {k : Nat}, (l.take (k + 1)).all p = true → k < l.length → k < runN p l := by
 intro l
 induction l with
 | nil => intro k _ h; simp at h
 | cons c l ih =>
  intro k h hk
  simp only [List.take_succ_cons, List.all_cons, Bool.and_eq_true] at h
  unfold runN; rw [if_pos h.1]
  cases k with
  | zero => omega
  | succ k => have := ih h.2 (by simpa using hk); omega
theorem noteN_bad {l : List UInt8} {k : Nat} (h : (l.take k).all plainC = true) (hk : k < l.length) (hn : ¬ l[k] = 10) (hb : plainC l[k] = false) : noteN l = 0 := by
 unfold noteN
 rw [if_neg]
 rintro ⟨_, h2⟩
 have hgt : k < runN notEnd l := by
  refine runN_gt ?_ hk
  rw [List.take_succ_eq_append_getElem hk, List.all_append, all_imp (fun c => plain_notEnd) h]
  simp only [List.all_cons, List.all_nil, Bool.and_true, Bool.true_and]
  unfold notEnd; rw [bne_iff_ne]; exact hn
 rw [List.all_eq_true] at h2
 have := h2 l[k] (by rw [List.mem_take_iff_getElem]; exact ⟨k, by omega, rfl⟩)
 rw [hb] at this; cases this
theorem noteN_none {l : List UInt8} (hp : Lib.hasPrefix l [47, 47] = false) : noteN l = 0 := by unfold noteN; rw [hp]; simp
theorem pre_extract {s : ByteArray} {q : Nat} (hq : q + 2 ≤ s.size) : ((s.extract q (q + 2)).toList == [47, 47]) = Lib.hasPrefix (s.data.toList.drop q) [47, 47] := by
 have e : (s.extract q (q + 2)).toList = [s[q], s[q + 1]] := by
  rw [ByteArray.toList_eq, ByteArray.data_extract]
  simp only [Array.toList_extract, List.extract_eq_take_drop, show q + 2 - q = 2 by omega]
  rw [drop_get (by omega), drop_get (by omega)]
  rfl
 rw [e, drop_get (by omega), drop_get (show q + 1 < s.size by omega)]
 unfold Lib.hasPrefix
 simp only [List.isPrefixOf, Bool.and_true]
 by_cases h1 : s[q] = 47
 ·by_cases h2 : s[q + 1] = 47
  ·rw [h1, h2]; rfl
  ·rw [h1]
   have e1 : ([(47 : UInt8), s[q + 1]] == [47, 47]) = false := by rw [beq_eq_false_iff_ne]; intro e; injection e with _ e; injection e with e _; exact h2 e
   have e2 : ((47 : UInt8) == s[q + 1]) = false := by rw [beq_eq_false_iff_ne]; exact fun e => h2 e.symm
   rw [e1, e2, Bool.and_false]
 ·have e1 : ([s[q], s[q + 1]] == [47, 47]) = false := by rw [beq_eq_false_iff_ne]; intro e; injection e with e _; exact h1 e
  have e2 : ((47 : UInt8) == s[q]) = false := by rw [beq_eq_false_iff_ne]; exact fun e => h1 e.symm
  rw [e1, e2, Bool.false_and]
theorem ne_10 {c : UInt8} (h : ¬ c = 10) : ((c.toNat : Int) == 10) = false := by
 rw [beq_eq_false_iff_ne]; intro e; apply h; apply UInt8.toNat_inj.1; show c.toNat = 10; omega
theorem drop_len {s : ByteArray} {q : Nat} : (s.data.toList.drop q).length = s.size - q := by rw [List.length_drop, ba_len]
theorem drop_at {s : ByteArray} {q n : Nat} (hq : q ≤ n) (h : n < s.size) : ∀ (hl : n - q < (s.data.toList.drop q).length), (s.data.toList.drop q)[n - q] = s[n] := by
 intro hl
 rw [List.getElem_drop]
 have : q + (n - q) = n := by omega
 simp only [this]
 rfl
theorem l04Note_any (s : ByteArray) (q : Nat) (w : World) (hq : q ≤ s.size) (hs : s.size ≤ 4611686018427387904) :
  Calls prog 134 #[.string s, .int .i64 q] w fun e w' => e = .returned (.int .i64 (noteN (s.data.toList.drop q) : Nat)) ∧ w = w' := by
 by_cases h2 : q + 2 ≤ s.size
 ·have g2 : ¬ ((s.size : Int) < q + 2) := by omega
  have d2 : decide ((s.size : Int) < q + 2) = false := decide_eq_false g2
  have hpe := pre_extract h2
  have hsl : ∀ W : World, (Instr.slice 9 (.string s) (some (.int .i64 (q : Int))) (some (.int .i64 ((q : Int) + 2))) none).run prog W = .ok (.string (s.extract q (q + 2))) W := fun W => by
   have h := run_slice_string (P := prog) W 9 s .i64 .i64 (q : Int) ((q : Int) + 2) underlying9 (by omega) (by omega) (by omega)
   rwa [show ((q : Int) + 2).toNat = q + 2 by omega, Int.toNat_natCast] at h
  cases hp : Lib.hasPrefix (s.data.toList.drop q) [47, 47] with
  | false =>
   rw [noteN_none hp]
   rw [hp] at hpe
   clear hp
   go_enter func134, ntmps134
   go_wp2
   go_ret
   exact ⟨rfl, rfl⟩
  | true =>
   rw [hp] at hpe
   have HS := hid (fun (k : Nat) => noteN_stop (l := s.data.toList.drop q) (k := k) hp)
   have HB := hid (fun (k : Nat) => noteN_bad (l := s.data.toList.drop q) (k := k))
   clear hp
   have hll := drop_len (s := s) (q := q)
   generalize hN : noteN (s.data.toList.drop q) = N at HS HB ⊢
   clear hN
   go_enter func134, ntmps134
   go_wp2
   go_loop [5] (fun i => ∃ n : Nat, q ≤ n ∧ n ≤ s.size ∧ Hid (((s.data.toList.drop q).take (n - q)).all plainC = true) ∧ i = .int .i64 n) (fun i => s.size - (intOf i).toNat)
   case atStart => exact ⟨q, by omega, by omega, (show _ = _ by rw [Nat.sub_self]; rfl), rfl⟩
   case round =>
    obtain ⟨n, hn1, hn2, HA, rfl⟩ := hrel
    by_cases hlt : n < s.size
    ·have hat := drop_at hn1 hlt (by rw [hll]; omega)
     by_cases h10 : s[n] = 10
     ·have hNn : N = n - q := HS.out _ HA.out (by omega) (fun _ => by rw [hat]; exact h10)
      have e10 : ((s[n].toNat : Int) == 10) = true := by rw [h10]; rfl
      have eN : (n : Int) - q = (N : Nat) := by omega
      clear HS HB HA hat h10 hNn hll
      go_wp2
      go_ret
      exact ⟨ret_int (by omega), rfl⟩
     ·have e10 := ne_10 h10
      have HC := hid (fun (b : Bool) (hb : plainC s[n] = b) (W : World) => show Calls prog 169 #[.int .u8 (s[n].toNat : Int)] W fun e w' => e = .returned (.bool b) ∧ W = w' by rw [← hb]; exact specPlain_any _ W)
      cases hp : plainC s[n] with
      | true =>
       have H2 := hid (HC.out _ hp)
       have HA2 : Hid (((s.data.toList.drop q).take (n + 1 - q)).all plainC = true) := by
        show _ = _
        rw [show n + 1 - q = n - q + 1 by omega, List.take_succ_eq_append_getElem (by rw [hll]; omega), List.all_append, HA.out, hat]
        simp [hp]
       clear HC hp HS HB HA hat h10 hll
       go_wp2_with (go_at_call 169; refine (H2.out _).mono ?_; rintro e w1 ⟨rfl, rfl⟩)
       go_round
       case rel => exact ⟨n + 1, by omega, by omega, HA2, by go_num⟩
       case measure => simp [intOf]; omega
      | false =>
       have H2 := hid (HC.out _ hp)
       have hN0 : N = 0 := HB.out _ HA.out (by rw [hll]; omega) (by rw [hat]; exact h10) (by rw [hat]; exact hp)
       subst hN0
       clear HC hp HS HB HA hat h10 hll
       go_wp2_with (go_at_call 169; refine (H2.out _).mono ?_; rintro e w1 ⟨rfl, rfl⟩)
       go_ret
       exact ⟨rfl, rfl⟩
    ·have hNn : N = n - q := HS.out _ HA.out (by omega) (fun hl => by rw [hll] at hl; omega)
     have eN : (n : Int) - q = (N : Nat) := by omega
     clear HS HB HA hNn hll
     go_wp2
     go_ret
     exact ⟨ret_int (by omega), rfl⟩
 ·have g2 : (s.size : Int) < q + 2 := by omega
  have d2 : decide ((s.size : Int) < q + 2) = true := decide_eq_true g2
  have hn : noteN (s.data.toList.drop q) = 0 := by
   apply noteN_none
   cases hp : Lib.hasPrefix (s.data.toList.drop q) [47, 47] with
   | false => rfl
   | true =>
    have := (List.isPrefixOf_iff_prefix.1 (show List.isPrefixOf [47, 47] (s.data.toList.drop q) = true from hp)).length_le
    rw [drop_len] at this
    simp at this; omega
  rw [hn]
  clear hn
  go_enter func134, ntmps134
  go_wp2
  go_ret
  exact ⟨rfl, rfl⟩
theorem specTrimmed_any (s : ByteArray) (w : World) (hs : s.size ≤ maxLen) : Calls prog 135 #[.string s] w fun e w' => e = .returned (.string (trimT s)) ∧ w = w' := by
 unfold maxLen at hs
 have HT := hid (fun (k : Nat) (hk : k ≤ s.size) h1 h2 => show s.extract 0 k = trimT s from by
  have h := Lib.trimRightB_take s.data.toList 32 k (by rw [ba_len]; exact hk) h1 h2
  unfold trimT
  rw [h]
  apply ba_ext
  rw [ByteArray.data_extract]
  simp)
 generalize trimT s = T at HT ⊢
 go_enter func135, ntmps135
 go_wp2
 go_loop [3] (fun i => ∃ k : Nat, k ≤ s.size ∧ Hid (∀ (j : Nat) b, k ≤ j → s.data.toList[j]? = some b → b = 32) ∧ i = .int .i64 k) (fun i => (intOf i).toNat)
 case atStart => exact ⟨s.size, Nat.le_refl _, (show ∀ _ _, _ from fun j b hj hb => by have := (List.getElem?_eq_some_iff.1 hb).1; rw [ba_len] at this; omega), rfl⟩
 case round =>
  obtain ⟨k, hk, HA, rfl⟩ := hrel
  by_cases h0 : 0 < k
  ·obtain ⟨j, rfl⟩ : ∃ j, k = j + 1 := ⟨k - 1, by omega⟩
   have hlt : j < s.size := by omega
   have ej : ((j + 1 : Nat) : Int) - 1 = (j : Nat) := by omega
   have hget : s.data.toList[j]? = some s[j] := by rw [List.getElem?_eq_getElem (by rw [ba_len]; exact hlt)]; rfl
   by_cases h32 : s[j] = 32
   ·have e32 : ((s[j].toNat : Int) == 32) = true := by rw [h32]; rfl
    have HA2 : Hid (∀ (i : Nat) b, j ≤ i → s.data.toList[i]? = some b → b = 32) := by
     show ∀ _ _, _
     intro i b hi hb
     by_cases hij : i = j
     ·subst hij; rw [hget] at hb; obtain rfl := Option.some.inj hb; exact h32
     ·exact HA.out i b (by omega) hb
    clear HT HA h32 hget
    go_wp2
    go_round
    case rel => exact ⟨j, by omega, HA2, by go_num⟩
    case measure => simp [intOf] <;> omega
   ·have e32 : ((s[j].toNat : Int) == 32) = false := by
     rw [beq_eq_false_iff_ne]; intro e; apply h32; apply UInt8.toNat_inj.1; show s[j].toNat = 32; omega
    have HE := hid (HT.out (j + 1) hk HA.out (fun b _ hb => by
     rw [Nat.add_sub_cancel, hget] at hb; obtain rfl := Option.some.inj hb; exact h32))
    clear HT HA h32 hget
    go_wp2
    go_ret
    exact ⟨ret_str HE.out, rfl⟩
  ·obtain rfl : k = 0 := by omega
   have HE := hid (HT.out 0 hk HA.out (fun b h => absurd h (by omega)))
   clear HT HA
   go_wp2
   go_ret
   exact ⟨ret_str (by rw [← HE.out]; simp), rfl⟩
theorem specNum_any (s : ByteArray) (w : World) (hs : s.size ≤ maxLen) : Calls prog 239 #[.string s] w fun e w' => e = .returned (.bool (numB s)) ∧ Below w.heap.size w w' := by
 unfold maxLen at hs
 apply still_below
 have hbase : ∀ (h : allB figC s = true), numB s = inB s.size 1 12 := by
  intro h
  unfold numB inB; rw [h, Bool.and_true]
  by_cases h2 : 0 < s.size ∧ s.size ≤ 12
  ·rw [decide_eq_true h2, decide_eq_true (by omega)]
  ·rw [decide_eq_false h2, decide_eq_false (by omega)]
 have hno : ∀ (h : allB figC s = false), numB s = false := by intro h; unfold numB; rw [h, Bool.and_false]
 have H1 := hid (fun W => l01In_b (s.size : Int) 1 12 W)
 have HB := hid hbase
 have HO := hid hno
 clear hbase hno
 generalize inB (s.size : Int) 1 12 = u at H1 HB
 generalize numB s = N at HB HO ⊢
 go_enter func239, ntmps239
 go_wp2
 go_loop [3] (fun i => ∃ k : Nat, k ≤ s.size ∧ AllTo figC s k ∧ i = .int .i64 k) (fun i => s.size - (intOf i).toNat)
 case atStart => exact ⟨0, Nat.zero_le _, allTo_zero _ s, rfl⟩
 case round =>
  obtain ⟨k, hk, ha, rfl⟩ := hrel
  by_cases hlt : k < s.size
  ·have HC := hid (fun (b : Bool) (hb : figC s[k] = b) (W : World) => show Calls prog 137 #[.int .u8 (s[k].toNat : Int)] W fun e w' => e = .returned (.bool b) ∧ W = w' by rw [← hb]; exact specFigure_any _ W)
   cases hp : figC s[k] with
   | false =>
    have hN : N = false := HO.out (allTo_no hlt hp)
    have HC2 := hid (HC.out _ hp)
    subst hN
    clear HC hp HB HO H1
    go_wp2_with (go_at_call 137; refine (HC2.out _).mono ?_; rintro e w1 ⟨rfl, rfl⟩)
    go_ret
    exact ⟨rfl, rfl⟩
   | true =>
    have hn := allTo_step ha hlt hp
    have HC2 := hid (HC.out _ hp)
    clear HC hp HB HO H1
    go_wp2_with (go_at_call 137; refine (HC2.out _).mono ?_; rintro e w1 ⟨rfl, rfl⟩)
    go_round
    case rel => exact ⟨k + 1, by omega, hn, by go_num⟩
    case measure => simp [intOf]; omega
  ·have hN : N = u := HB.out (allTo_all ha (by omega))
   subst hN
   clear HB HO
   go_wp2_with (go_at_call 97; refine (H1.out _).mono ?_; rintro e w1 ⟨rfl, rfl⟩)
   go_ret
   exact ⟨rfl, rfl⟩
theorem specName_any (s : ByteArray) (w : World) (hs : s.size ≤ maxLen) : Calls prog 238 #[.string s] w fun e w' => e = .returned (.bool (nameB s)) ∧ Below w.heap.size w w' := by
 unfold maxLen at hs
 apply still_below
 by_cases h1 : 1 ≤ s.size ∧ s.size ≤ 30
 ·have h0 : 0 < s.size := h1.1
  have H1 := hid (fun W => l01In_is' (show inB (s.size : Int) 1 30 = true from decide_eq_true (by omega)) W)
  have HF := hid (fun (b : Bool) (hb : firstC s[0] = b) (W : World) => show Calls prog 136 #[.int .u8 (s[0].toNat : Int)] W fun e w' => e = .returned (.bool b) ∧ W = w' by rw [← hb]; exact specFirst_any _ W)
  cases hb : firstC s[0] with
  | false =>
   have hr : nameB s = false := by unfold nameB; rw [nameW_no h0 hb]; rfl
   rw [hr]
   have H2 := hid (HF.out _ hb)
   clear HF hb hr
   go_enter func238, ntmps238
   go_wp2_with (first | (go_at_call 97; refine (H1.out _).mono ?_; rintro e w1 ⟨rfl, rfl⟩) | (go_at_call 136; refine (H2.out _).mono ?_; rintro e w1 ⟨rfl, rfl⟩))
   go_ret
   exact ⟨rfl, rfl⟩
  | true =>
   have H2 := hid (HF.out _ hb)
   have HK := hid (fun (b : Bool) (hb : keyB s = b) (W : World) => show Calls prog 140 #[.string s] W fun e w' => e = .returned (.bool b) ∧ W = w' by rw [← hb]; exact specKey_any _ W)
   cases hkey : keyB s with
   | true =>
    have hr : nameB s = false := by unfold nameB; rw [hkey]; simp
    rw [hr]
    have H3 := hid (HK.out _ hkey)
    clear HF hb hr HK hkey
    go_enter func238, ntmps238
    go_wp2_with (first | (go_at_call 97; refine (H1.out _).mono ?_; rintro e w1 ⟨rfl, rfl⟩) | (go_at_call 136; refine (H2.out _).mono ?_; rintro e w1 ⟨rfl, rfl⟩) | (go_at_call 140; refine (H3.out _).mono ?_; rintro e w1 ⟨rfl, rfl⟩))
    go_ret
    exact ⟨rfl, rfl⟩
   | false =>
    have H3 := hid (HK.out _ hkey)
    have hr : nameB s = allB innerC s := by
     obtain ⟨l, hl⟩ := head_of h0
     have hf : firstH s = true := by unfold firstH; rw [hl]; exact hb
     unfold nameB nameW
     rw [hkey, hf, decide_eq_true h1.2]; simp
    rw [hr]
    clear HF hb hr HK hkey
    go_enter func238, ntmps238
    go_wp2_with (first | (go_at_call 97; refine (H1.out _).mono ?_; rintro e w1 ⟨rfl, rfl⟩) | (go_at_call 136; refine (H2.out _).mono ?_; rintro e w1 ⟨rfl, rfl⟩) | (go_at_call 140; refine (H3.out _).mono ?_; rintro e w1 ⟨rfl, rfl⟩))
    clear H1 H2 H3
    go_loop [3] (fun i => ∃ k : Nat, k ≤ s.size ∧ AllTo innerC s k ∧ i = .int .i64 k) (fun i => s.size - (intOf i).toNat)
    case atStart => exact ⟨0, Nat.zero_le _, allTo_zero _ s, rfl⟩
    case round =>
     obtain ⟨k, hk, ha, rfl⟩ := hrel
     by_cases hlt : k < s.size
     ·have HC := hid (fun (b : Bool) (hb : firstC s[k] = b) (W : World) => show Calls prog 136 #[.int .u8 (s[k].toNat : Int)] W fun e w' => e = .returned (.bool b) ∧ W = w' by rw [← hb]; exact specFirst_any _ W)
      have HG := hid (fun (b : Bool) (hb : figC s[k] = b) (W : World) => show Calls prog 137 #[.int .u8 (s[k].toNat : Int)] W fun e w' => e = .returned (.bool b) ∧ W = w' by rw [← hb]; exact specFigure_any _ W)
      cases hp : firstC s[k] with
      | true =>
       have hn := allTo_step ha hlt (show innerC s[k] = true by unfold innerC; rw [hp]; rfl)
       have HC2 := hid (HC.out _ hp)
       clear HC hp HG
       go_wp2_with (first | (go_at_call 136; refine (HC2.out _).mono ?_; rintro e w1 ⟨rfl, rfl⟩))
       go_round
       case rel => exact ⟨k + 1, by omega, hn, by go_num⟩
       case measure => simp [intOf]; omega
      | false =>
       have HC2 := hid (HC.out _ hp)
       cases hg : figC s[k] with
       | true =>
        have hn := allTo_step ha hlt (show innerC s[k] = true by unfold innerC; rw [hg, Bool.or_true])
        have HG2 := hid (HG.out _ hg)
        clear HC hp HG hg
        go_wp2_with (first | (go_at_call 136; refine (HC2.out _).mono ?_; rintro e w1 ⟨rfl, rfl⟩) | (go_at_call 137; refine (HG2.out _).mono ?_; rintro e w1 ⟨rfl, rfl⟩))
        go_round
        case rel => exact ⟨k + 1, by omega, hn, by go_num⟩
        case measure => simp [intOf]; omega
       | false =>
        have hn := hid (allTo_no hlt (show innerC s[k] = false by unfold innerC; rw [hp, hg]; rfl))
        have HG2 := hid (HG.out _ hg)
        clear HC hp HG hg
        go_wp2_with (first | (go_at_call 136; refine (HC2.out _).mono ?_; rintro e w1 ⟨rfl, rfl⟩) | (go_at_call 137; refine (HG2.out _).mono ?_; rintro e w1 ⟨rfl, rfl⟩))
        go_ret
        exact ⟨ret_bool hn.out.symm, rfl⟩
     ·have hn := hid (allTo_all ha (by omega))
      go_wp2
      go_ret
      exact ⟨ret_bool hn.out.symm, rfl⟩
 ·have H1 := hid (fun W => l01In_is' (show inB (s.size : Int) 1 30 = false from decide_eq_false (by omega)) W)
  have hr : nameB s = false := by
   unfold nameB nameW
   by_cases h0 : s.size = 0
   ·have hl : s.data.toList = [] := List.eq_nil_of_length_eq_zero (by rw [ba_len]; exact h0)
    unfold firstH; rw [hl]; simp
   ·rw [decide_eq_false (show ¬ s.size ≤ 30 by omega)]; simp
  rw [hr]
  clear hr
  go_enter func238, ntmps238
  go_wp2_with (first | (go_at_call 97; refine (H1.out _).mono ?_; rintro e w1 ⟨rfl, rfl⟩))
  go_ret
  exact ⟨rfl, rfl⟩
theorem specQuo_any (s : ByteArray) (w : World) (hs : s.size ≤ 4611686018427387904) : Calls prog 240 #[.string s] w fun e w' => e = .returned (.bool (quoB s)) ∧ Below w.heap.size w w' := by
 apply still_below
 by_cases h1 : 1 < s.size
 ·have g1 : (1 : Int) < s.size := by omega
  have h0 : 0 < s.size := by omega
  by_cases hq : s[0] = 39
  ·have e39 : ((s[0].toNat : Int) == 39) = true := by rw [hq]; rfl
   have H1 := hid (fun W => l04Quoted_any s 0 W (by omega) hs)
   have hr : quoB s = decide (quoN s.data.toList = s.size) := by
    obtain ⟨l, hl⟩ := head_of h0
    unfold quoB; rw [decide_eq_true h1]
    rw [hl]; simp [hq]
   have hi : ((quoN s.data.toList : Int) == (s.size : Int)) = decide (quoN s.data.toList = s.size) := by
    by_cases h : quoN s.data.toList = s.size
    ·rw [decide_eq_true h, h]; exact beq_self_eq_true _
    ·rw [decide_eq_false h, beq_eq_false_iff_ne]; omega
   rw [hr, ← hi]
   rw [show s.data.toList.drop 0 = s.data.toList from rfl] at H1
   clear hr hi hq
   generalize quoN s.data.toList = N at H1 ⊢
   go_enter func240, ntmps240
   go_wp2_with (go_at_call 138; refine (H1.out _).mono ?_; rintro e w1 ⟨rfl, rfl⟩)
   go_ret
   exact ⟨rfl, rfl⟩
  ·have e39 := ne_39 hq
   rw [quoB_no h0 hq]
   clear hq
   go_enter func240, ntmps240
   go_wp2
   go_ret
   exact ⟨rfl, rfl⟩
 ·have hr : quoB s = false := by unfold quoB; rw [decide_eq_false h1, Bool.false_and, Bool.false_and]
  have g1 : ¬ ((1 : Int) < s.size) := by omega
  rw [hr]
  go_enter func240, ntmps240
  go_wp2
  go_ret
  exact ⟨rfl, rfl⟩
theorem specNote_any (s : ByteArray) (w : World) (hs : s.size ≤ 4611686018427387904) : Calls prog 241 #[.string s] w fun e w' => e = .returned (.bool (noteB s)) ∧ Below w.heap.size w w' := by
 apply still_below
 by_cases h1 : 1 < s.size
 ·have g1 : (1 : Int) < s.size := by omega
  have H1 := hid (fun W => l04Note_any s 0 W (by omega) hs)
  rw [show s.data.toList.drop 0 = s.data.toList from rfl] at H1
  by_cases hn : noteN s.data.toList = s.size
  ·have H2 := hid (fun W => specTrimmed_any s W (by unfold maxLen; omega))
   have hr : noteB s = ((trimT s).toList == s.toList) := by
    rw [tl_beq]; unfold noteB; rw [decide_eq_true h1, decide_eq_true hn]; simp
   rw [hr]
   rw [hn] at H1
   clear hn hr
   generalize trimT s = T at H2 ⊢
   go_enter func241, ntmps241
   go_wp2_with (first | (go_at_call 134; refine (H1.out _).mono ?_; rintro e w1 ⟨rfl, rfl⟩) | (go_at_call 135; refine (H2.out _).mono ?_; rintro e w1 ⟨rfl, rfl⟩))
   go_ret
   exact ⟨rfl, rfl⟩
  ·have hr : noteB s = false := by unfold noteB; rw [decide_eq_false hn, Bool.and_false, Bool.false_and]
   rw [hr]
   have hi : ((noteN s.data.toList : Int) == (s.size : Int)) = false := by rw [beq_eq_false_iff_ne]; omega
   clear hr hn
   generalize noteN s.data.toList = N at H1 hi ⊢
   go_enter func241, ntmps241
   go_wp2_with (first | (go_at_call 134; refine (H1.out _).mono ?_; rintro e w1 ⟨rfl, rfl⟩))
   go_ret
   exact ⟨rfl, rfl⟩
 ·have hr : noteB s = false := by unfold noteB; rw [decide_eq_false h1, Bool.false_and, Bool.false_and]
  have g1 : ¬ ((1 : Int) < s.size) := by omega
  rw [hr]
  go_enter func241, ntmps241
  go_wp2
  go_ret
  exact ⟨rfl, rfl⟩
theorem l05Text_name (kind : Int) (s : ByteArray) (w : World) (hs : s.size ≤ 4611686018427387904) (hk : kind = 1 ∨ kind = 6 ∨ kind = 12 ∨ kind = 13 ∨ kind = 20 ∨ kind = 21) :
  Calls prog 207 #[.int .i64 kind, .string s] w fun e w' => e = .returned (.bool (textB kind s)) ∧ Below w.heap.size w w' := by
 rw [textB_name hk]
 have H := hid (fun W => specName_any s W (by unfold maxLen; omega))
 generalize nameB s = u at H ⊢
 rcases hk with rfl | rfl | rfl | rfl | rfl | rfl
 all_goals
  go_enter func207, ntmps207
  go_wp2_with (go_at_call 238; refine (H.out _).mono ?_; rintro e w1 ⟨rfl, h2⟩)
  go_ret
  exact ⟨rfl, h2⟩
theorem l05Text_num (kind : Int) (s : ByteArray) (w : World) (hs : s.size ≤ 4611686018427387904) (hk : kind = 2) :
  Calls prog 207 #[.int .i64 kind, .string s] w fun e w' => e = .returned (.bool (textB kind s)) ∧ Below w.heap.size w w' := by
 rw [textB_sign (j := 2) (.inl ⟨hk, rfl⟩)]
 have H := hid (fun W => show Calls prog 239 #[.string s] W fun e w' => e = .returned (.bool (signB s 2)) ∧ Below W.heap.size W w' from specNum_any s W (by unfold maxLen; omega))
 generalize signB s 2 = u at H ⊢
 subst hk
 all_goals
  go_enter func207, ntmps207
  go_wp2_with (go_at_call 239; refine (H.out _).mono ?_; rintro e w1 ⟨rfl, h2⟩)
  go_ret
  exact ⟨rfl, h2⟩
theorem l05Text_quo (kind : Int) (s : ByteArray) (w : World) (hs : s.size ≤ 4611686018427387904) (hk : kind = 3) :
  Calls prog 207 #[.int .i64 kind, .string s] w fun e w' => e = .returned (.bool (textB kind s)) ∧ Below w.heap.size w w' := by
 rw [textB_sign (j := 3) (.inr (.inl ⟨hk, rfl⟩))]
 have H := hid (fun W => show Calls prog 240 #[.string s] W fun e w' => e = .returned (.bool (signB s 3)) ∧ Below W.heap.size W w' from specQuo_any s W hs)
 generalize signB s 3 = u at H ⊢
 subst hk
 all_goals
  go_enter func207, ntmps207
  go_wp2_with (go_at_call 240; refine (H.out _).mono ?_; rintro e w1 ⟨rfl, h2⟩)
  go_ret
  exact ⟨rfl, h2⟩
theorem l05Text_note (kind : Int) (s : ByteArray) (w : World) (hs : s.size ≤ 4611686018427387904) (hk : kind = 19) :
  Calls prog 207 #[.int .i64 kind, .string s] w fun e w' => e = .returned (.bool (textB kind s)) ∧ Below w.heap.size w w' := by
 rw [textB_sign (j := 5) (.inr (.inr ⟨hk, rfl⟩))]
 have H := hid (fun W => show Calls prog 241 #[.string s] W fun e w' => e = .returned (.bool (signB s 5)) ∧ Below W.heap.size W w' from specNote_any s W hs)
 generalize signB s 5 = u at H ⊢
 subst hk
 all_goals
  go_enter func207, ntmps207
  go_wp2_with (go_at_call 241; refine (H.out _).mono ?_; rintro e w1 ⟨rfl, h2⟩)
  go_ret
  exact ⟨rfl, h2⟩
theorem l05Text_chain (kind : Int) (s : ByteArray) (w : World) (hs : s.size ≤ 4611686018427387904) (hk : kind = 7) :
  Calls prog 207 #[.int .i64 kind, .string s] w fun e w' => e = .returned (.bool (textB kind s)) ∧ Below w.heap.size w w' := by
 rw [show textB kind s = chainB s from by subst hk; rfl]
 have H := hid (fun W => show Calls prog 242 #[.string s] W fun e w' => e = .returned (.bool (chainB s)) ∧ Below W.heap.size W w' from (specChain_any s W).mono fun e w' ⟨h1, h2⟩ => ⟨h1, by subst h2; exact Below.refl _ _⟩)
 generalize chainB s = u at H ⊢
 subst hk
 all_goals
  go_enter func207, ntmps207
  go_wp2_with (go_at_call 242; refine (H.out _).mono ?_; rintro e w1 ⟨rfl, h2⟩)
  go_ret
  exact ⟨rfl, h2⟩
theorem l05Text_rest (kind : Int) (s : ByteArray) (w : World) (hs : s.size ≤ 4611686018427387904) (hk : kind ≠ 1 ∧ kind ≠ 6 ∧ kind ≠ 12 ∧ kind ≠ 13 ∧ kind ≠ 20 ∧ kind ≠ 21 ∧ kind ≠ 2 ∧ kind ≠ 3 ∧ kind ≠ 19 ∧ kind ≠ 7) :
  Calls prog 207 #[.int .i64 kind, .string s] w fun e w' => e = .returned (.bool (textB kind s)) ∧ Below w.heap.size w w' := by
 rw [textB_rest hk, ← size_zero_beq]
 have d1 : (kind == 1) = false := by rw [beq_eq_false_iff_ne]; omega
 have d6 : (kind == 6) = false := by rw [beq_eq_false_iff_ne]; omega
 have d12 : (kind == 12) = false := by rw [beq_eq_false_iff_ne]; omega
 have d13 : (kind == 13) = false := by rw [beq_eq_false_iff_ne]; omega
 have d20 : (kind == 20) = false := by rw [beq_eq_false_iff_ne]; omega
 have d21 : (kind == 21) = false := by rw [beq_eq_false_iff_ne]; omega
 have d2 : (kind == 2) = false := by rw [beq_eq_false_iff_ne]; omega
 have d3 : (kind == 3) = false := by rw [beq_eq_false_iff_ne]; omega
 have d19 : (kind == 19) = false := by rw [beq_eq_false_iff_ne]; omega
 have d7 : (kind == 7) = false := by rw [beq_eq_false_iff_ne]; omega
 clear hk hs
 go_enter func207, ntmps207
 go_wp2
 go_ret
 refine ⟨ret_bool ?_, grow_⟩
 first | rfl | simp
theorem l05Text_any (kind : Int) (s : ByteArray) (w : World) (hs : s.size ≤ 4611686018427387904) :
  Calls prog 207 #[.int .i64 kind, .string s] w fun e w' => e = .returned (.bool (textB kind s)) ∧ Below w.heap.size w w' := by
 by_cases h1 : kind = 1 ∨ kind = 6 ∨ kind = 12 ∨ kind = 13 ∨ kind = 20 ∨ kind = 21
 ·exact l05Text_name kind s w hs h1
 ·by_cases h2 : kind = 2
  ·exact l05Text_num kind s w hs h2
  ·by_cases h3 : kind = 3
   ·exact l05Text_quo kind s w hs h3
   ·by_cases h4 : kind = 19
    ·exact l05Text_note kind s w hs h4
    ·by_cases h5 : kind = 7
     ·exact l05Text_chain kind s w hs h5
     ·exact l05Text_rest kind s w hs (by omega)
end Go.Proofs.YtgaajcbklkchjaaGreatDoor

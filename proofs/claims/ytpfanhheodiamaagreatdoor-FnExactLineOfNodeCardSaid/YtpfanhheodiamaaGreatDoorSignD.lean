
/-
  SignD put together (merge.py): SignD1, SignD2, SignD3, SignD4, SignD5.
-/
import Derived.Test.YtpfanhheodiamaaGreatDoorSignC
namespace Go.Proofs.YtpfanhheodiamaaGreatDoor
open Go.RowKit
set_option linter.unusedVariables false

set_option maxRecDepth 100000 in
set_option maxHeartbeats 4000000 in
theorem signAt_name (s : ByteArray) (w : World) (h0 : 0 < s.size) (hs : s.size ≤ maxLen) (hb : firstC s[0] = true) :
    Calls Tryz.prog 80 #[.string s] w fun e w' => e = .returned (.tuple #[.int .i64 1, .string (runT innerC s), .int .i64 (runT innerC s).size, .bool (decide (((runT innerC s).size : Int) ≤ 30))]) ∧ w = w' := by
  have hm := Lib.hid hs
  unfold maxLen at hs
  have H1 := Lib.hid (fun (W : World) => show Calls Tryz.prog 121 #[.int .u8 (s[0].toNat : Int)] W fun e w' => e = .returned (.bool true) ∧ W = w' by rw [← hb]; exact implFirst_any _ W)
  have H2 := Lib.hid (fun W => runInner_any s W hm.out)
  have hz : (runT innerC s).size ≤ 9223372036854775807 := by rw [runT_size]; have := runN_le innerC s.data.toList; rw [ba_len] at this; omega
  clear hb
  generalize runT innerC s = t at H2 hz ⊢
  go_enter Tryz.func80, Tryz.ntmps80
  go_wp2_with (first | (go_at_call 121; refine (H1.out _).mono ?_; rintro e w1 ⟨rfl, rfl⟩) | (go_at_call 122; refine (H2.out _).mono ?_; rintro e w1 ⟨rfl, rfl⟩))
  refine bodyPost_ret (by simp [results, Tryz.results80, go_sem,]; try rfl) rfl ?_
  exact ⟨rfl, rfl⟩
set_option maxRecDepth 100000 in
set_option maxHeartbeats 4000000 in
theorem signAt_num (s : ByteArray) (w : World) (h0 : 0 < s.size) (hs : s.size ≤ maxLen) (hb : firstC s[0] = false) (hg : figC s[0] = true) :
    Calls Tryz.prog 80 #[.string s] w fun e w' => e = .returned (.tuple #[.int .i64 2, .string (runT figC s), .int .i64 (runT figC s).size, .bool (decide (((runT figC s).size : Int) ≤ 12))]) ∧ w = w' := by
  have hm := Lib.hid hs
  unfold maxLen at hs
  have H1 := Lib.hid (fun (W : World) => show Calls Tryz.prog 121 #[.int .u8 (s[0].toNat : Int)] W fun e w' => e = .returned (.bool false) ∧ W = w' by rw [← hb]; exact implFirst_any _ W)
  have H3 := Lib.hid (fun (W : World) => show Calls Tryz.prog 124 #[.int .u8 (s[0].toNat : Int)] W fun e w' => e = .returned (.bool true) ∧ W = w' by rw [← hg]; exact implFigure_any _ W)
  have H2 := Lib.hid (fun W => runFigure_any s W hm.out)
  have hz : (runT figC s).size ≤ 9223372036854775807 := by rw [runT_size]; have := runN_le figC s.data.toList; rw [ba_len] at this; omega
  clear hb hg
  generalize runT figC s = t at H2 hz ⊢
  go_enter Tryz.func80, Tryz.ntmps80
  go_wp2_with (first | (go_at_call 121; refine (H1.out _).mono ?_; rintro e w1 ⟨rfl, rfl⟩) | (go_at_call 124; refine (H3.out _).mono ?_; rintro e w1 ⟨rfl, rfl⟩) | (go_at_call 122; refine (H2.out _).mono ?_; rintro e w1 ⟨rfl, rfl⟩))
  refine bodyPost_ret (by simp [results, Tryz.results80, go_sem,]; try rfl) rfl ?_
  exact ⟨rfl, rfl⟩
set_option maxRecDepth 100000 in
set_option maxHeartbeats 4000000 in
theorem signAt_quo (s : ByteArray) (w : World) (h0 : 0 < s.size) (hs : s.size ≤ maxLen) (hb : firstC s[0] = false) (hg : figC s[0] = false) (hq : s[0] = 39) :
    Calls Tryz.prog 80 #[.string s] w fun e w' => e = .returned (.tuple #[.int .i64 3, .string (quoP s).1, .int .i64 (quoP s).1.size, .bool (quoP s).2]) ∧ w = w' := by
  have hm := Lib.hid hs
  unfold maxLen at hs
  have H1 := Lib.hid (fun (W : World) => show Calls Tryz.prog 121 #[.int .u8 (s[0].toNat : Int)] W fun e w' => e = .returned (.bool false) ∧ W = w' by rw [← hb]; exact implFirst_any _ W)
  have H3 := Lib.hid (fun (W : World) => show Calls Tryz.prog 124 #[.int .u8 (s[0].toNat : Int)] W fun e w' => e = .returned (.bool false) ∧ W = w' by rw [← hg]; exact implFigure_any _ W)
  have H2 := Lib.hid (fun W => quoted_any s W h0 hm.out)
  have hq2 : ((s[0].toNat : Int) == 39) = true := by rw [hq]; rfl
  have hz : (quoP s).1.size ≤ 9223372036854775807 := by
    unfold quoP
    split
    · exact Nat.zero_le _
    · simp; omega
  clear hb hg hq
  generalize (quoP s).1 = t at H2 hz ⊢
  generalize (quoP s).2 = u at H2 ⊢
  go_enter Tryz.func80, Tryz.ntmps80
  go_wp2_with (first | (go_at_call 121; refine (H1.out _).mono ?_; rintro e w1 ⟨rfl, rfl⟩) | (go_at_call 124; refine (H3.out _).mono ?_; rintro e w1 ⟨rfl, rfl⟩) | (go_at_call 125; refine (H2.out _).mono ?_; rintro e w1 ⟨rfl, rfl⟩))
  refine bodyPost_ret (by simp [results, Tryz.results80, go_sem,]; try rfl) rfl ?_
  exact ⟨rfl, rfl⟩
set_option maxRecDepth 100000 in
set_option maxHeartbeats 4000000 in
theorem signAt_note (s : ByteArray) (w : World) (h0 : 0 < s.size) (hs : s.size ≤ maxLen) (hb : firstC s[0] = false) (hg : figC s[0] = false) (hq : ¬ s[0] = 39) (hp : Lib.hasPrefix s.data.toList [47, 47] = true) :
    Calls Tryz.prog 80 #[.string s] w fun e w' => e = .returned (.tuple #[.int .i64 5, .string (trimT (runT notEnd s)), .int .i64 (runT notEnd s).size, .bool (allB plainC (runT notEnd s))]) ∧ w = w' := by
  have hm := Lib.hid hs
  unfold maxLen at hs
  have H1 := Lib.hid (fun (W : World) => show Calls Tryz.prog 121 #[.int .u8 (s[0].toNat : Int)] W fun e w' => e = .returned (.bool false) ∧ W = w' by rw [← hb]; exact implFirst_any _ W)
  have H3 := Lib.hid (fun (W : World) => show Calls Tryz.prog 124 #[.int .u8 (s[0].toNat : Int)] W fun e w' => e = .returned (.bool false) ∧ W = w' by rw [← hg]; exact implFigure_any _ W)
  have hq2 : ((s[0].toNat : Int) == 39) = false := by
    rw [beq_eq_false_iff_ne]; intro e; apply hq; apply UInt8.toNat_inj.1; show s[0].toNat = 39; omega
  have H5 := Lib.hid (fun (W : World) => show Calls Tryz.prog 126 #[.string s, .string ⟨#[47, 47]⟩] W fun e w' => e = .returned (.bool true) ∧ w' = W by rw [← hp]; exact Tryz.strings_HasPrefix s ⟨#[47, 47]⟩ W)
  have H2 := Lib.hid (fun W => runLine_any s W hm.out)
  have hz : (runT notEnd s).size ≤ 9223372036854775807 := by rw [runT_size]; have := runN_le notEnd s.data.toList; rw [ba_len] at this; omega
  have H6 := Lib.hid (fun W => implTrimmed_any (runT notEnd s) W hz)
  have H7 := Lib.hid (fun W => implPlain_any (runT notEnd s) W hz)
  clear hb hg hq hp
  generalize runT notEnd s = t at H2 hz H6 H7 ⊢
  go_enter Tryz.func80, Tryz.ntmps80
  go_wp2_with (first | (go_at_call 121; refine (H1.out _).mono ?_; rintro e w1 ⟨rfl, rfl⟩) | (go_at_call 124; refine (H3.out _).mono ?_; rintro e w1 ⟨rfl, rfl⟩) | (go_at_call 126; refine (H5.out _).mono ?_; rintro e w1 ⟨rfl, rfl⟩) | (go_at_call 122; refine (H2.out _).mono ?_; rintro e w1 ⟨rfl, rfl⟩) | (go_at_call 128; refine (H6.out _).mono ?_; rintro e w1 ⟨rfl, rfl⟩) | (go_at_call 129; refine (H7.out _).mono ?_; rintro e w1 ⟨rfl, rfl⟩))
  refine bodyPost_ret (by simp [results, Tryz.results80, go_sem,]; try rfl) rfl ?_
  exact ⟨rfl, rfl⟩
theorem markN_two {s : ByteArray} (h : 2 ≤ s.size) (hm : markB (s.extract 0 2) = true) : markN s = 2 := by unfold markN; rw [if_pos ⟨h, hm⟩]
theorem markN_one {s : ByteArray} (h : 2 ≤ s.size → markB (s.extract 0 2) = false) (hm : markB (s.extract 0 1) = true) : markN s = 1 := by
  unfold markN; rw [if_neg (by rintro ⟨h1, h2⟩; rw [h h1] at h2; cases h2), if_pos hm]
theorem markN_none {s : ByteArray} (h : 2 ≤ s.size → markB (s.extract 0 2) = false) (hm : markB (s.extract 0 1) = false) : markN s = 0 := by
  unfold markN; rw [if_neg (by rintro ⟨h1, h2⟩; rw [h h1] at h2; cases h2), if_neg (by rw [hm]; decide)]
def markR (s : ByteArray) : Value := if markN s = 0 then .tuple #[.int .i64 0, .string ⟨#[]⟩, .int .i64 0, .bool false] else .tuple #[.int .i64 4, .string (s.extract 0 (markN s)), .int .i64 (markN s), .bool true]
theorem markR_some {s : ByteArray} {k : Nat} (h : markN s = k) (hk : 0 < k) : markR s = .tuple #[.int .i64 4, .string (s.extract 0 k), .int .i64 k, .bool true] := by unfold markR; rw [h, if_neg (by omega)]
theorem markR_none {s : ByteArray} (h : markN s = 0) : markR s = .tuple #[.int .i64 0, .string ⟨#[]⟩, .int .i64 0, .bool false] := by unfold markR; rw [if_pos h]
set_option maxRecDepth 100000 in
set_option maxHeartbeats 4000000 in
theorem signAt_mark (s : ByteArray) (w : World) (h0 : 0 < s.size) (hs : s.size ≤ maxLen) (hb : firstC s[0] = false) (hg : figC s[0] = false) (hq : ¬ s[0] = 39) (hp : Lib.hasPrefix s.data.toList [47, 47] = false) :
    Calls Tryz.prog 80 #[.string s] w fun e w' => e = .returned (markR s) ∧ Below w.heap.size w w' := by
  have hm := Lib.hid hs
  unfold maxLen at hs
  have H1 := Lib.hid (fun (W : World) => show Calls Tryz.prog 121 #[.int .u8 (s[0].toNat : Int)] W fun e w' => e = .returned (.bool false) ∧ W = w' by rw [← hb]; exact implFirst_any _ W)
  have H3 := Lib.hid (fun (W : World) => show Calls Tryz.prog 124 #[.int .u8 (s[0].toNat : Int)] W fun e w' => e = .returned (.bool false) ∧ W = w' by rw [← hg]; exact implFigure_any _ W)
  have hq2 : ((s[0].toNat : Int) == 39) = false := by
    rw [beq_eq_false_iff_ne]; intro e; apply hq; apply UInt8.toNat_inj.1; show s[0].toNat = 39; omega
  have H5 := Lib.hid (fun (W : World) => show Calls Tryz.prog 126 #[.string s, .string ⟨#[47, 47]⟩] W fun e w' => e = .returned (.bool false) ∧ w' = W by rw [← hp]; exact Tryz.strings_HasPrefix s ⟨#[47, 47]⟩ W)
  have H8 := Lib.hid (fun (k : Nat) (hk : k ≤ 2) (b : Bool) (hb : markB (s.extract 0 k) = b) (W : World) => show Calls Tryz.prog 130 #[.string (s.extract 0 k)] W fun e w' => e = .returned (.bool b) ∧ W = w' by rw [← hb]; exact implMark_any _ W (by simp; omega))
  clear hb hg hq hp
  go_enter Tryz.func80, Tryz.ntmps80
  go_wp2_with (first | (go_at_call 121; refine (H1.out _).mono ?_; rintro e w1 ⟨rfl, rfl⟩) | (go_at_call 124; refine (H3.out _).mono ?_; rintro e w1 ⟨rfl, rfl⟩) | (go_at_call 126; refine (H5.out _).mono ?_; rintro e w1 ⟨rfl, rfl⟩))
  go_loop [12] (fun i => ∃ k : Nat, k ≤ 2 ∧ k ≤ s.size ∧ Hid (k < 2 → 2 ≤ s.size → markB (s.extract 0 2) = false) ∧ Hid (k < 1 → markB (s.extract 0 1) = false) ∧ i = .int .i64 k) (fun i => (intOf i).toNat)
  case atStart =>
    by_cases h2 : 2 ≤ s.size
    · refine ⟨2, by omega, h2, (show _ → _ → _ = _ from fun h => absurd h (by omega)), (show _ → _ = _ from fun h => absurd h (by omega)), ?_⟩
      go_num
    · refine ⟨1, by omega, by omega, (show _ → _ → _ = _ from fun _ h => absurd h h2), (show _ → _ = _ from fun h => absurd h (by omega)), ?_⟩
      go_num
  case round =>
    obtain ⟨k, hk, hks, HA, HB, rfl⟩ := hrel
    by_cases hk0 : 0 < k
    · cases hmb : markB (s.extract 0 k) with
      | true =>
        have H9 := Lib.hid (H8.out k hk _ hmb)
        have hmn : markN s = k := by
          by_cases hk2 : k = 2
          · subst hk2; exact markN_two hks hmb
          · obtain rfl : k = 1 := by omega
            exact markN_one (HA.out (by omega)) hmb
        have HE := Lib.hid (markR_some hmn hk0)
        clear H8 hmb hmn HA HB H1 H3 H5
        go_wp2_with (first | (go_at_call 130; refine (H9.out _).mono ?_; rintro e w1 ⟨rfl, rfl⟩))
        go_quiet (fail)
        go_wp2
        refine bodyPost_ret (by simp [results, Tryz.results80, go_sem,]; try rfl) rfl ?_
        exact ⟨by rw [HE.out], (by repeat' (first | (with_reducible exact Below.refl _ _) | (with_reducible assumption) | (with_reducible refine below_drewN ?_ _) | (with_reducible refine Below.drew ?_) | (with_reducible refine Below.alloc ?_ ?_ _) | (with_reducible refine Below.setCell ?_ ?_ _) | go_size))⟩
      | false =>
        have H9 := Lib.hid (H8.out k hk _ hmb)
        have HM := Lib.hid hmb
        clear H8 hmb H1 H3 H5
        go_wp2_with (first | (go_at_call 130; refine (H9.out _).mono ?_; rintro e w1 ⟨rfl, rfl⟩))
        go_round
        case rel =>
          refine ⟨k - 1, by omega, by omega, ?_, ?_, by go_num⟩
          · show _ → _ → _ = _
            intro h1 h2
            by_cases hk2 : k = 2
            · subst hk2; exact HM.out
            · exact HA.out (by omega) h2
          · show _ → _ = _
            intro h1
            obtain rfl : k = 1 := by omega
            exact HM.out
        case measure => simp [intOf]; omega
    · obtain rfl : k = 0 := by omega
      have HE := Lib.hid (markR_none (markN_none (HA.out (by omega)) (HB.out (by omega))))
      clear H8 HA HB H1 H3 H5
      go_wp2
      refine bodyPost_ret (by simp [results, Tryz.results80, go_sem,]; try rfl) rfl ?_
      exact ⟨by rw [HE.out], (by repeat' (first | (with_reducible exact Below.refl _ _) | (with_reducible assumption) | (with_reducible refine below_drewN ?_ _) | (with_reducible refine Below.drew ?_) | (with_reducible refine Below.alloc ?_ ?_ _) | (with_reducible refine Below.setCell ?_ ?_ _) | go_size))⟩
end Go.Proofs.YtpfanhheodiamaaGreatDoor

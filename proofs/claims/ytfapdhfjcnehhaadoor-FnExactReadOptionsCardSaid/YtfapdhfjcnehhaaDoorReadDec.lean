
/-
  Numerals read: plain words, the reference's way and the program's (ReadDecimal).
-/
import Derived.Test.YtfapdhfjcnehhaaDoorDec
import Derived.Test.YtfapdhfjcnehhaaDoorWords
namespace Go.Proofs.YtfapdhfjcnehhaaDoor
open Go.RowKit
set_option linter.unusedVariables false

def digB (c : UInt8) : Bool := decide (48 ≤ c.toNat ∧ c.toNat ≤ 57)
def valD (l : List UInt8) : Int := l.foldl (fun n c => 10 * n + ((c.toNat : Int) - 48)) 0
/-- The number that the first k figures tell. -/
def valTo (t : ByteArray) (k : Nat) : Int := valD (t.data.toList.take k)
theorem valTo_zero (t : ByteArray) : valTo t 0 = 0 := by simp [valTo, valD]
theorem valTo_step {t : ByteArray} {k : Nat} (hk : k < t.size) : valTo t (k + 1) = 10 * valTo t k + ((t[k].toNat : Int) - 48) := by
  unfold valTo valD
  rw [List.take_succ_eq_append_getElem (by rw [ba_len]; exact hk), List.foldl_append]
  rfl
theorem valTo_all {t : ByteArray} {k : Nat} (h : t.size ≤ k) : valTo t k = valD t.data.toList := by
  unfold valTo; rw [List.take_of_length_le (by rw [ba_len]; exact h)]
def readDec (t : ByteArray) : Int × Bool := if t.size ≤ 10 ∧ allB digB t = true ∧ valD t.data.toList ≤ 1000000000 ∧ decT (valD t.data.toList) = t then (valD t.data.toList, true) else (0, false)
theorem dec_long {t : ByteArray} (h : 10 < t.size) : readDec t = (0, false) := by unfold readDec; rw [if_neg]; rintro ⟨h1, _⟩; omega
theorem dec_dig {t : ByteArray} (h : allB digB t = false) : readDec t = (0, false) := by unfold readDec; rw [if_neg]; rintro ⟨_, h1, _⟩; rw [h] at h1; cases h1
theorem dec_big {t : ByteArray} (h : 1000000000 < valD t.data.toList) : readDec t = (0, false) := by unfold readDec; rw [if_neg]; rintro ⟨_, _, h1, _⟩; omega
theorem dec_other {t : ByteArray} (h : decT (valD t.data.toList) ≠ t) : readDec t = (0, false) := by unfold readDec; rw [if_neg]; rintro ⟨_, _, _, h1⟩; exact h h1
theorem dec_yes {t : ByteArray} (h1 : ¬ 10 < t.size) (h2 : allB digB t = true) (h3 : ¬ 1000000000 < valD t.data.toList) (h4 : decT (valD t.data.toList) = t) : readDec t = (valD t.data.toList, true) := by
  unfold readDec; rw [if_pos ⟨by omega, h2, by omega, h4⟩]
theorem dec_empty {t : ByteArray} (h : t.size = 0) : readDec t = (0, false) := by
  refine dec_other ?_
  have e : t.data.toList = [] := List.eq_nil_of_length_eq_zero (by rw [ba_len]; exact h)
  rw [e]
  intro h2
  have h3 : decT (valD []) = ⟨#[48]⟩ := by
    show decT ((0 : Nat) : Int) = _
    rw [decT, Lib.itoa_nonneg, Lib.decDigits_one (by omega)]; rfl
  rw [h3] at h2
  subst h2
  cases h
theorem dg_lo {c : UInt8} (h : (c.toNat : Int) < 48) : digB c = false := by unfold digB; exact decide_eq_false (by omega)
theorem dg_hi {c : UInt8} (h : (57 : Int) < c.toNat) : digB c = false := by unfold digB; exact decide_eq_false (by omega)
theorem dg_yes {c : UInt8} (h : ¬ (c.toNat : Int) < 48) (h2 : ¬ (57 : Int) < c.toNat) : digB c = true := by unfold digB; exact decide_eq_true (by omega)
theorem pow_ten {k : Nat} (h : k ≤ 10) : 10 ^ k ≤ 10000000000 := Nat.pow_le_pow_right (by decide) h
/-- A number read, and whether it is one. -/
def DecR (t : ByteArray) (w : World) (e : Ending) (w' : World) : Prop := e = .returned (.tuple #[.int .i64 (readDec t).1, .bool (readDec t).2]) ∧ Below w.heap.size w w'
theorem toList_neq {x y : ByteArray} (h : x ≠ y) : ¬ x.toList = y.toList := fun e => h (ba_ext (by rw [← ByteArray.toList_eq, ← ByteArray.toList_eq]; exact e))

set_option maxRecDepth 100000 in
set_option maxHeartbeats 1600000 in
theorem specReadDecimal_any (t : ByteArray) (w : World) (ht : t.size ≤ 4194304) : Calls Tryd.prog 99 #[.string t] w (DecR t w) := by
  by_cases h10 : 10 < t.size
  · have hst := Lib.hid (dec_long h10)
    go_enter Tryd.func99, Tryd.ntmps99
    go_wp2
    go_ret2
    exact ⟨by rw [hst.out]; rfl, (by repeat' (first | (with_reducible exact Below.refl _ _) | (with_reducible assumption) | (with_reducible refine below_drewN ?_ _) | (with_reducible refine Below.drew ?_) | (with_reducible refine Below.alloc ?_ ?_ _) | (with_reducible refine Below.setCell ?_ ?_ _) | go_size))⟩
  have hle : t.size ≤ 10 := by omega
  go_enter Tryd.func99, Tryd.ntmps99
  go_wp2
  go_loop [4, 5] (fun n i => ∃ (k : Nat) (v : Int), k ≤ t.size ∧ 0 ≤ v ∧ v + 1 ≤ (10 ^ k : Nat) ∧ Hid (AllP digB t k) ∧ Hid (valTo t k = v) ∧ n = .int .i64 v ∧ i = .int .i64 k) (fun _ i => t.size - (intOf i).toNat)
  case atStart => exact ⟨0, 0, Nat.zero_le _, by omega, by simp, allP_zero _ _, valTo_zero t, rfl, rfl⟩
  case round =>
    obtain ⟨k, v, hk, hv0, hv1, hat, HV, rfl, rfl⟩ := hrel
    have hp := pow_ten (show k ≤ 10 by omega)
    have hv2 : v ≤ 9999999999 := by omega
    by_cases hkn : k < t.size
    · by_cases c1 : (t[k].toNat : Int) < 48
      · have hst := Lib.hid (dec_dig (allP_no hkn (dg_lo c1)))
        clear hv1 hp
        go_wp2
        go_ret2
        exact ⟨by rw [hst.out]; rfl, (by repeat' (first | (with_reducible exact Below.refl _ _) | (with_reducible assumption) | (with_reducible refine below_drewN ?_ _) | (with_reducible refine Below.drew ?_) | (with_reducible refine Below.alloc ?_ ?_ _) | (with_reducible refine Below.setCell ?_ ?_ _) | go_size))⟩
      by_cases c2 : (57 : Int) < t[k].toNat
      · have hst := Lib.hid (dec_dig (allP_no hkn (dg_hi c2)))
        clear hv1 hp
        go_wp2
        go_ret2
        exact ⟨by rw [hst.out]; rfl, (by repeat' (first | (with_reducible exact Below.refl _ _) | (with_reducible assumption) | (with_reducible refine below_drewN ?_ _) | (with_reducible refine Below.drew ?_) | (with_reducible refine Below.alloc ?_ ?_ _) | (with_reducible refine Below.setCell ?_ ?_ _) | go_size))⟩
      have hpl2 := Lib.hid (allP_step hat.out hkn (dg_yes c1 c2))
      have hvs := Lib.hid (valTo_step hkn)
      have hv1' := Lib.hid hv1
      clear hv1 hp
      go_wp2
      go_round
      case rel =>
        refine ⟨k + 1, 10 * v + ((t[k].toNat : Int) - 48), by omega, by omega, ?_, hpl2.out, (show _ = _ by rw [hvs.out, HV.out]), by go_num, by go_num⟩
        have := hv1'.out
        rw [Nat.pow_succ]
        omega
      case measure => simp [intOf]; omega
    · have hall := allP_all hat.out (show t.size ≤ k by omega)
      have hv9 := Lib.hid (show valD t.data.toList = v by rw [← valTo_all (show t.size ≤ k by omega), HV.out])
      clear hv1 hp HV
      by_cases hbig : 1000000000 < v
      · have hst := Lib.hid (dec_big (by rw [hv9.out]; exact hbig))
        clear hall
        go_wp2
        go_ret2
        exact ⟨by rw [hst.out]; rfl, (by repeat' (first | (with_reducible exact Below.refl _ _) | (with_reducible assumption) | (with_reducible refine below_drewN ?_ _) | (with_reducible refine Below.drew ?_) | (with_reducible refine Below.alloc ?_ ?_ _) | (with_reducible refine Below.setCell ?_ ?_ _) | go_size))⟩
      · have H9 := Lib.hid (specDecimal_any v w (by omega) (by omega))
        have hsz := decT_size v (by omega) (by omega)
        by_cases hD : decT v = t
        · have hst := Lib.hid (dec_yes h10 hall (by rw [hv9.out]; exact hbig) (by rw [hv9.out]; exact hD))
          rw [hD] at H9
          clear hall hD hsz
          go_wp2_with (go_at_call 34; refine (H9.out).mono ?_; rintro e w2 ⟨rfl, h2⟩)
          go_ret2
          exact ⟨by rw [hst.out, hv9.out]; rfl, h2⟩
        · have hst := Lib.hid (dec_other (by rw [hv9.out]; exact hD))
          have hne := str_ne hD
          revert H9 hsz hne
          generalize decT v = D
          intro H9 hsz hne
          clear hall hD
          go_wp2_with (go_at_call 34; refine (H9.out).mono ?_; rintro e w2 ⟨rfl, h2⟩)
          go_ret2
          exact ⟨by rw [hst.out]; rfl, h2⟩

set_option maxRecDepth 100000 in
set_option maxHeartbeats 1600000 in
theorem implReadDecimal_any (t : ByteArray) (w : World) (ht : t.size ≤ 4194304) (hT : Tab w) : Calls Tryd.prog 102 #[.string t] w (DecR t w) := by
  by_cases h0 : t.size = 0
  · have hst := Lib.hid (dec_empty h0)
    obtain rfl : t = ⟨#[]⟩ := ba_ext (List.eq_nil_of_length_eq_zero (by rw [ba_len]; exact h0))
    clear hT
    go_enter Tryd.func102, Tryd.ntmps102
    go_wp2
    go_ret2
    exact ⟨by rw [hst.out]; rfl, (by repeat' (first | (with_reducible exact Below.refl _ _) | (with_reducible assumption) | (with_reducible refine below_drewN ?_ _) | (with_reducible refine Below.drew ?_) | (with_reducible refine Below.alloc ?_ ?_ _) | (with_reducible refine Below.setCell ?_ ?_ _) | go_size))⟩
  have h01 : (0 : Int) < t.size := by omega
  have h02 : ((t.size : Int) == 0) = false := by rw [beq_eq_false_iff_ne]; omega
  clear h0
  by_cases h10 : 10 < t.size
  · have hst := Lib.hid (dec_long h10)
    clear hT
    go_enter Tryd.func102, Tryd.ntmps102
    go_wp2
    go_ret2
    exact ⟨by rw [hst.out]; rfl, (by repeat' (first | (with_reducible exact Below.refl _ _) | (with_reducible assumption) | (with_reducible refine below_drewN ?_ _) | (with_reducible refine Below.drew ?_) | (with_reducible refine Below.alloc ?_ ?_ _) | (with_reducible refine Below.setCell ?_ ?_ _) | go_size))⟩
  have hle : t.size ≤ 10 := by omega
  have HT := Lib.hid hT
  clear hT
  go_enter Tryd.func102, Tryd.ntmps102
  go_wp2
  go_loop [4, 5] (fun n i => ∃ (k : Nat) (v : Int), k ≤ t.size ∧ 0 ≤ v ∧ v + 1 ≤ (10 ^ k : Nat) ∧ Hid (AllP digB t k) ∧ Hid (valTo t k = v) ∧ n = .int .i64 v ∧ i = .int .i64 k) (fun _ i => t.size - (intOf i).toNat)
  case atStart => exact ⟨0, 0, Nat.zero_le _, by omega, by simp, allP_zero _ _, valTo_zero t, rfl, rfl⟩
  case round =>
    obtain ⟨k, v, hk, hv0, hv1, hat, HV, rfl, rfl⟩ := hrel
    have hp := pow_ten (show k ≤ 10 by omega)
    have hv2 : v ≤ 9999999999 := by omega
    by_cases hkn : k < t.size
    · by_cases c1 : (t[k].toNat : Int) < 48
      · have hst := Lib.hid (dec_dig (allP_no hkn (dg_lo c1)))
        clear hv1 hp
        go_wp2
        go_ret2
        exact ⟨by rw [hst.out]; rfl, (by repeat' (first | (with_reducible exact Below.refl _ _) | (with_reducible assumption) | (with_reducible refine below_drewN ?_ _) | (with_reducible refine Below.drew ?_) | (with_reducible refine Below.alloc ?_ ?_ _) | (with_reducible refine Below.setCell ?_ ?_ _) | go_size))⟩
      by_cases c2 : (57 : Int) < t[k].toNat
      · have hst := Lib.hid (dec_dig (allP_no hkn (dg_hi c2)))
        clear hv1 hp
        go_wp2
        go_ret2
        exact ⟨by rw [hst.out]; rfl, (by repeat' (first | (with_reducible exact Below.refl _ _) | (with_reducible assumption) | (with_reducible refine below_drewN ?_ _) | (with_reducible refine Below.drew ?_) | (with_reducible refine Below.alloc ?_ ?_ _) | (with_reducible refine Below.setCell ?_ ?_ _) | go_size))⟩
      have hpl2 := Lib.hid (allP_step hat.out hkn (dg_yes c1 c2))
      have hvs := Lib.hid (valTo_step hkn)
      have hv1' := Lib.hid hv1
      clear hv1 hp
      go_wp2
      go_round
      case rel =>
        refine ⟨k + 1, 10 * v + ((t[k].toNat : Int) - 48), by omega, by omega, ?_, hpl2.out, (show _ = _ by rw [hvs.out, HV.out]), by go_num, by go_num⟩
        have := hv1'.out
        rw [Nat.pow_succ]
        omega
      case measure => simp [intOf]; omega
    · have hall := allP_all hat.out (show t.size ≤ k by omega)
      have hv9 := Lib.hid (show valD t.data.toList = v by rw [← valTo_all (show t.size ≤ k by omega), HV.out])
      clear hv1 hp HV
      by_cases hbig : 1000000000 < v
      · have hst := Lib.hid (dec_big (by rw [hv9.out]; exact hbig))
        clear hall
        go_wp2
        go_ret2
        exact ⟨by rw [hst.out]; rfl, (by repeat' (first | (with_reducible exact Below.refl _ _) | (with_reducible assumption) | (with_reducible refine below_drewN ?_ _) | (with_reducible refine Below.drew ?_) | (with_reducible refine Below.alloc ?_ ?_ _) | (with_reducible refine Below.setCell ?_ ?_ _) | go_size))⟩
      · have H9 := Lib.hid (implDecimal_any v w (by omega) (by omega) HT.out)
        have hsz := decT_size v (by omega) (by omega)
        by_cases hD : decT v = t
        · have hst := Lib.hid (dec_yes h10 hall (by rw [hv9.out]; exact hbig) (by rw [hv9.out]; exact hD))
          rw [hD] at H9
          clear hall hD hsz
          go_wp2_with (go_at_call 45; refine (H9.out).mono ?_; rintro e w2 ⟨rfl, h2⟩)
          go_ret2
          exact ⟨by rw [hst.out, hv9.out]; rfl, h2⟩
        · have hst := Lib.hid (dec_other (by rw [hv9.out]; exact hD))
          have hne := str_ne hD
          revert H9 hsz hne
          generalize decT v = D
          intro H9 hsz hne
          clear hall hD
          go_wp2_with (go_at_call 45; refine (H9.out).mono ?_; rintro e w2 ⟨rfl, h2⟩)
          go_ret2
          exact ⟨by rw [hst.out]; rfl, h2⟩
end Go.Proofs.YtfapdhfjcnehhaaDoor

/-
  Contracts: whether a cache is right.
-/
import Derived.Test.YtbddfbgbjlfocaaCacheD
import Derived.Test.YtbddfbgbjlfocaaOptions
import Derived.Deep.RegionHeld3
namespace Go.Proofs.Ytbddfbgbjlfocaa
open Go.RowKit
set_option linter.unusedVariables false

def headOk (m : Int) (n : Nat) (h k : Int) : Bool := inB m 1 8 && decide ((n : Int) ≤ m) && decide (0 ≤ h) && decide (0 ≤ k)
def entBad (l : List EntryD) (k : Nat) : Bool := match l[k]? with | none => false | some e => decide (firstIx (sameE e.1 e.2.1 e.2.2.1) l 0 ≠ k)
def EntTo (l : List EntryD) (k : Nat) : Prop := ∀ j, j < k → entBad l j = false
def entsGood (l : List EntryD) : Bool := (List.range l.length).all (fun k => !entBad l k)
def cacheOkB (m : Int) (n : Nat) (h k : Int) (l : List EntryD) : Bool := headOk m n h k && entsGood l
theorem entTo_step {l : List EntryD} {k : Nat} (h : EntTo l k) (hk : entBad l k = false) : EntTo l (k + 1) := fun j hj => by
  by_cases e : j = k
  · subst e; exact hk
  · exact h j (by omega)
theorem entTo_all {l : List EntryD} {k : Nat} (h : EntTo l k) (hk : k = l.length) : entsGood l = true := by
  unfold entsGood
  rw [List.all_eq_true]
  intro j hj
  rw [h j (by have := List.mem_range.1 hj; omega)]; rfl
theorem entTo_no {l : List EntryD} {k : Nat} (hk : k < l.length) (h : entBad l k = true) : entsGood l = false := by
  unfold entsGood
  exact List.all_eq_false.2 ⟨k, List.mem_range.2 hk, by simp [h]⟩

set_option maxRecDepth 100000 in
set_option maxHeartbeats 1600000 in
theorem specCacheOk_any (m h q : Int) (A : Option Addr) (n c : Nat) (l : List EntryD) (w : World) (hn : n ≤ 4194304) (hl : Hid (l.length = n)) (hr : Rd w 5 A n (l.flatMap entryCells)) :
    Calls Try.prog 66 #[.agg #[.int .i64 m, .slice A n c, .int .i64 h, .int .i64 q]] w fun e w' => e = .returned (.bool (cacheOkB m n h q l)) ∧ Below w.heap.size w w' := by
  have hr0 := Lib.hid (hr.alloc (.cells #[.int .i64 m, .slice A n c, .int .i64 h, .int .i64 q] 66))
  have hK0 := Blk.new w 66 #[.int .i64 m, .slice A n c, .int .i64 h, .int .i64 q]
  clear hr
  cases hd : headOk m n h q with
  | false =>
    have hz := Lib.hid (show cacheOkB m n h q l = false by rw [cacheOkB, hd]; rfl)
    clear hK0 hr0
    cases hi : inB m 1 8 with
    | false =>
      clear hd
      go_enter Try.func66, Try.ntmps66
      go_wp2_with (go_at_call 77; refine (l01In_b _ _ _ _).mono ?_; rintro e w1 ⟨rfl, rfl⟩)
      go_ret
      exact ⟨ret_bool hz.out.symm, (by repeat' (first | (with_reducible exact Below.refl _ _) | (with_reducible assumption) | (with_reducible refine below_drewN ?_ _) | (with_reducible refine Below.drew ?_) | (with_reducible refine Below.alloc ?_ ?_ _) | (with_reducible refine Below.setCell ?_ ?_ _) | go_size))⟩
    | true =>
      by_cases g1 : m < (n : Int)
      · clear hd
        go_enter Try.func66, Try.ntmps66
        go_wp2_with (go_at_call 77; refine (l01In_b _ _ _ _).mono ?_; rintro e w1 ⟨rfl, rfl⟩)
        go_ret
        exact ⟨ret_bool hz.out.symm, (by repeat' (first | (with_reducible exact Below.refl _ _) | (with_reducible assumption) | (with_reducible refine below_drewN ?_ _) | (with_reducible refine Below.drew ?_) | (with_reducible refine Below.alloc ?_ ?_ _) | (with_reducible refine Below.setCell ?_ ?_ _) | go_size))⟩
      · by_cases g2 : h < 0
        · clear hd
          go_enter Try.func66, Try.ntmps66
          go_wp2_with (go_at_call 77; refine (l01In_b _ _ _ _).mono ?_; rintro e w1 ⟨rfl, rfl⟩)
          go_ret
          exact ⟨ret_bool hz.out.symm, (by repeat' (first | (with_reducible exact Below.refl _ _) | (with_reducible assumption) | (with_reducible refine below_drewN ?_ _) | (with_reducible refine Below.drew ?_) | (with_reducible refine Below.alloc ?_ ?_ _) | (with_reducible refine Below.setCell ?_ ?_ _) | go_size))⟩
        · have g3 : q < 0 := by
            have h1 : headOk m n h q = decide (0 ≤ q) := by
              unfold headOk; rw [hi, decide_eq_true (show (n : Int) ≤ m by omega), decide_eq_true (show 0 ≤ h by omega)]; rfl
            rw [h1] at hd
            have := of_decide_eq_false hd
            omega
          clear hd
          go_enter Try.func66, Try.ntmps66
          go_wp2_with (go_at_call 77; refine (l01In_b _ _ _ _).mono ?_; rintro e w1 ⟨rfl, rfl⟩)
          go_ret
          exact ⟨ret_bool hz.out.symm, (by repeat' (first | (with_reducible exact Below.refl _ _) | (with_reducible assumption) | (with_reducible refine below_drewN ?_ _) | (with_reducible refine Below.drew ?_) | (with_reducible refine Below.alloc ?_ ?_ _) | (with_reducible refine Below.setCell ?_ ?_ _) | go_size))⟩
  | true =>
    simp only [headOk, Bool.and_eq_true, decide_eq_true_eq] at hd
    obtain ⟨⟨⟨d1, d2⟩, d3⟩, d4⟩ := hd
    have dd2 : ¬ m < (n : Int) := by omega
    go_enter Try.func66, Try.ntmps66
    go_wp2_with (go_at_call 77; refine (l01In_b _ _ _ _).mono ?_; rintro e w1 ⟨rfl, rfl⟩)
    go_loopw [3] (fun i wr => ∃ k : Nat, k ≤ n ∧ EntTo l k ∧ i = .int .i64 k ∧ Blk wr w.heap.size 66 #[.int .i64 m, .slice A n c, .int .i64 h, .int .i64 q] ∧ Hid (Rd wr 5 A n (l.flatMap entryCells)) ∧ Below w.heap.size w wr) (fun i _ => n - (intOf i).toNat)
    case atStart => exact ⟨0, Nat.zero_le _, fun j hj => absurd hj (by omega), rfl, hK0, hr0, (by repeat' (first | (with_reducible exact Below.refl _ _) | (with_reducible assumption) | (with_reducible refine below_drewN ?_ _) | (with_reducible refine Below.drew ?_) | (with_reducible refine Below.alloc ?_ ?_ _) | (with_reducible refine Below.setCell ?_ ?_ _) | go_size))⟩
    case round =>
      clear hK0 hr0
      obtain ⟨k, hk, het, rfl, hK, hr, hb⟩ := hrel
      have cK := hK.cell
      have zK := hK.lt
      by_cases hkn : k < n
      · obtain ⟨⟨x0, x1, x2, x3, x4⟩, hd⟩ : ∃ d, l[k]? = some d := ⟨_, List.getElem?_eq_getElem (by have := hl.out; omega)⟩
        obtain ⟨b', off, rfl, hblt, c0, c1, c2, c3, c4⟩ := entry_at hr.out hkn hd
        have HD := Lib.hid hd
        clear hd
        have b0 : wr.cell? ⟨w.heap.size, 0, none⟩ = some (.int .i64 m) := hK.cell 0
        have b1 : wr.cell? ⟨w.heap.size, 1, none⟩ = some (.slice (some ⟨b', off, none⟩) n c) := hK.cell 1
        have b2 : wr.cell? ⟨w.heap.size, 2, none⟩ = some (.int .i64 h) := hK.cell 2
        have b3 : wr.cell? ⟨w.heap.size, 3, none⟩ = some (.int .i64 q) := hK.cell 3
        have HC := Lib.hid (fun (X : Int) (hX : firstIx (sameE x0 x1 x2) l 0 = X) (wq : World) (hrq : Rd wq 5 (some ⟨b', off, none⟩) n (l.flatMap entryCells)) => show Calls Try.prog 57 #[.agg #[.int .i64 m, .slice (some ⟨b', off, none⟩) n c, .int .i64 h, .int .i64 q], .string x0, .int .i64 x1, .int .i64 x2] wq fun e w' => e = .returned (.int .i64 X) ∧ Below wq.heap.size wq w' by
          have h := specCacheAt_any m h q (some ⟨b', off, none⟩) n c l x0 x1 x2 wq hn hl hrq
          rwa [hX] at h)
        obtain ⟨X, hX⟩ : ∃ X, firstIx (sameE x0 x1 x2) l 0 = X := ⟨_, rfl⟩
        have HX := Lib.hid hX
        have H9 := Lib.hid (HC.out X hX)
        clear hX cK
        go_upto_region 6 with fail
        go_cut [54] (fun s wx => s = .bool (X != (k : Int)) ∧ Below wr.heap.size wr wx)
        case first =>
          go_region_held3 (fun w' => w'.cell? ⟨w.heap.size, 0, none⟩ = some (.int .i64 m) ∧ w'.cell? ⟨w.heap.size, 1, none⟩ = some (.slice (some ⟨b', off, none⟩) n c) ∧ w'.cell? ⟨w.heap.size, 2, none⟩ = some (.int .i64 h) ∧ w'.cell? ⟨w.heap.size, 3, none⟩ = some (.int .i64 q) ∧ w'.cell? ⟨b', off + k * 5, none⟩ = some (.string x0) ∧ w'.cell? ⟨b', off + k * 5 + 1, none⟩ = some (.int .i64 x1) ∧ w'.cell? ⟨b', off + k * 5 + 2, none⟩ = some (.int .i64 x2))
            (first | exact ⟨b0, b1, b2, b3, c0, c1, c2⟩ | exact ⟨u0, u1, u2, u3, u4, u5, u6⟩)
            (first
              | (go_at_call 57; refine (H9.out _ (by first | exact hr.out | exact hr.out.drew)).mono ?_; rintro e w9 ⟨rfl, h9⟩
                 have h9' : Below wr.heap.size wr w9 := (by first | exact h9 | exact (Below.refl _ wr).drew.trans h9)
                 have u0 := ((bcell h9').1 _ _ zK).trans b0
                 have u1 := ((bcell h9').1 _ _ zK).trans b1
                 have u2 := ((bcell h9').1 _ _ zK).trans b2
                 have u3 := ((bcell h9').1 _ _ zK).trans b3
                 have u4 := ((bcell h9').1 _ _ hblt).trans c0
                 have u5 := ((bcell h9').1 _ _ hblt).trans c1
                 have u6 := ((bcell h9').1 _ _ hblt).trans c2))
          all_goals (go_wp2_with fail; go_meet; exact ⟨rfl, h9'⟩)
        case rest =>
        obtain ⟨rfl, h2⟩ := hcut
        have hb2 := hb.trans (h2.mono hb.size)
        have hK2 := hK.next h2
        have hr2 := Lib.hid (hr.out.next h2)
        clear b0 b1 b2 b3 c0 c1 c2 c3 c4 hblt hb hK hr zK h2 H9 HC
        by_cases hXk : X = k
        · have hst := entTo_step het (show entBad l k = false by simp only [entBad, HD.out]; rw [HX.out, hXk]; simp)
          have hne : (X != (k : Int)) = false := by rw [hXk]; simp
          clear hXk
          go_wp2
          go_roundw
          case rel => exact ⟨k + 1, by omega, hst, by go_num, hK2, hr2, hb2⟩
          case measure => simp [intOf]; omega
        · have hst := Lib.hid (entTo_no (l := l) (k := k) (by have := hl.out; omega) (show entBad l k = true by simp only [entBad, HD.out]; rw [HX.out]; exact decide_eq_true hXk))
          have hne : (X != (k : Int)) = true := by rw [bne_iff_ne]; exact hXk
          clear hXk
          go_wp2
          go_ret
          exact ⟨ret_bool (by rw [cacheOkB, hst.out]; simp), hb2⟩
      · have hst := Lib.hid (entTo_all het (by have := hl.out; omega))
        go_wp2
        go_ret
        exact ⟨ret_bool (by rw [cacheOkB, hst.out]; simp [headOk, d1, d2, d3, d4]), hb⟩
set_option maxRecDepth 100000 in
set_option maxHeartbeats 1600000 in
theorem implCacheOk_any (m h q : Int) (A : Option Addr) (n c : Nat) (l : List EntryD) (w : World) (hn : n ≤ 4194304) (hl : Hid (l.length = n)) (hr : Rd w 5 A n (l.flatMap entryCells)) :
    Calls Try.prog 67 #[.agg #[.int .i64 m, .slice A n c, .int .i64 h, .int .i64 q]] w fun e w' => e = .returned (.bool (cacheOkB m n h q l)) ∧ Below w.heap.size w w' := by
  have hr0 := Lib.hid (hr.alloc (.cells #[.int .i64 m, .slice A n c, .int .i64 h, .int .i64 q] 66))
  have hK0 := Blk.new w 66 #[.int .i64 m, .slice A n c, .int .i64 h, .int .i64 q]
  clear hr
  cases hd : headOk m n h q with
  | false =>
    have hz := Lib.hid (show cacheOkB m n h q l = false by rw [cacheOkB, hd]; rfl)
    clear hK0 hr0
    cases hi : inB m 1 8 with
    | false =>
      clear hd
      go_enter Try.func67, Try.ntmps67
      go_wp2_with (go_at_call 97; refine (inRange_b _ _ _ _).mono ?_; rintro e w1 ⟨rfl, rfl⟩)
      go_ret
      exact ⟨ret_bool hz.out.symm, (by repeat' (first | (with_reducible exact Below.refl _ _) | (with_reducible assumption) | (with_reducible refine below_drewN ?_ _) | (with_reducible refine Below.drew ?_) | (with_reducible refine Below.alloc ?_ ?_ _) | (with_reducible refine Below.setCell ?_ ?_ _) | go_size))⟩
    | true =>
      by_cases g1 : m < (n : Int)
      · clear hd
        go_enter Try.func67, Try.ntmps67
        go_wp2_with (go_at_call 97; refine (inRange_b _ _ _ _).mono ?_; rintro e w1 ⟨rfl, rfl⟩)
        go_ret
        exact ⟨ret_bool hz.out.symm, (by repeat' (first | (with_reducible exact Below.refl _ _) | (with_reducible assumption) | (with_reducible refine below_drewN ?_ _) | (with_reducible refine Below.drew ?_) | (with_reducible refine Below.alloc ?_ ?_ _) | (with_reducible refine Below.setCell ?_ ?_ _) | go_size))⟩
      · by_cases g2 : h < 0
        · clear hd
          go_enter Try.func67, Try.ntmps67
          go_wp2_with (go_at_call 97; refine (inRange_b _ _ _ _).mono ?_; rintro e w1 ⟨rfl, rfl⟩)
          go_ret
          exact ⟨ret_bool hz.out.symm, (by repeat' (first | (with_reducible exact Below.refl _ _) | (with_reducible assumption) | (with_reducible refine below_drewN ?_ _) | (with_reducible refine Below.drew ?_) | (with_reducible refine Below.alloc ?_ ?_ _) | (with_reducible refine Below.setCell ?_ ?_ _) | go_size))⟩
        · have g3 : q < 0 := by
            have h1 : headOk m n h q = decide (0 ≤ q) := by
              unfold headOk; rw [hi, decide_eq_true (show (n : Int) ≤ m by omega), decide_eq_true (show 0 ≤ h by omega)]; rfl
            rw [h1] at hd
            have := of_decide_eq_false hd
            omega
          clear hd
          go_enter Try.func67, Try.ntmps67
          go_wp2_with (go_at_call 97; refine (inRange_b _ _ _ _).mono ?_; rintro e w1 ⟨rfl, rfl⟩)
          go_ret
          exact ⟨ret_bool hz.out.symm, (by repeat' (first | (with_reducible exact Below.refl _ _) | (with_reducible assumption) | (with_reducible refine below_drewN ?_ _) | (with_reducible refine Below.drew ?_) | (with_reducible refine Below.alloc ?_ ?_ _) | (with_reducible refine Below.setCell ?_ ?_ _) | go_size))⟩
  | true =>
    simp only [headOk, Bool.and_eq_true, decide_eq_true_eq] at hd
    obtain ⟨⟨⟨d1, d2⟩, d3⟩, d4⟩ := hd
    have dd2 : ¬ m < (n : Int) := by omega
    go_enter Try.func67, Try.ntmps67
    go_wp2_with (go_at_call 97; refine (inRange_b _ _ _ _).mono ?_; rintro e w1 ⟨rfl, rfl⟩)
    go_loopw [30] (fun i wr => ∃ k : Nat, k ≤ n ∧ EntTo l k ∧ i = .int .i64 k ∧ Blk wr w.heap.size 66 #[.int .i64 m, .slice A n c, .int .i64 h, .int .i64 q] ∧ Hid (Rd wr 5 A n (l.flatMap entryCells)) ∧ Below w.heap.size w wr) (fun i _ => n - (intOf i).toNat)
    case atStart => exact ⟨0, Nat.zero_le _, fun j hj => absurd hj (by omega), rfl, hK0, hr0, (by repeat' (first | (with_reducible exact Below.refl _ _) | (with_reducible assumption) | (with_reducible refine below_drewN ?_ _) | (with_reducible refine Below.drew ?_) | (with_reducible refine Below.alloc ?_ ?_ _) | (with_reducible refine Below.setCell ?_ ?_ _) | go_size))⟩
    case round =>
      clear hK0 hr0
      obtain ⟨k, hk, het, rfl, hK, hr, hb⟩ := hrel
      have cK := hK.cell
      have zK := hK.lt
      by_cases hkn : k < n
      · obtain ⟨⟨x0, x1, x2, x3, x4⟩, hd⟩ : ∃ d, l[k]? = some d := ⟨_, List.getElem?_eq_getElem (by have := hl.out; omega)⟩
        obtain ⟨b', off, rfl, hblt, c0, c1, c2, c3, c4⟩ := entry_at hr.out hkn hd
        have HD := Lib.hid hd
        clear hd
        have b0 : wr.cell? ⟨w.heap.size, 0, none⟩ = some (.int .i64 m) := hK.cell 0
        have b1 : wr.cell? ⟨w.heap.size, 1, none⟩ = some (.slice (some ⟨b', off, none⟩) n c) := hK.cell 1
        have b2 : wr.cell? ⟨w.heap.size, 2, none⟩ = some (.int .i64 h) := hK.cell 2
        have b3 : wr.cell? ⟨w.heap.size, 3, none⟩ = some (.int .i64 q) := hK.cell 3
        have HC := Lib.hid (fun (X : Int) (hX : firstIx (sameE x0 x1 x2) l 0 = X) (wq : World) (hrq : Rd wq 5 (some ⟨b', off, none⟩) n (l.flatMap entryCells)) => show Calls Try.prog 59 #[.agg #[.int .i64 m, .slice (some ⟨b', off, none⟩) n c, .int .i64 h, .int .i64 q], .string x0, .int .i64 x1, .int .i64 x2] wq fun e w' => e = .returned (.int .i64 X) ∧ Below wq.heap.size wq w' by
          have h := implCacheAt_any m h q (some ⟨b', off, none⟩) n c l x0 x1 x2 wq hn hl hrq
          rwa [hX] at h)
        obtain ⟨X, hX⟩ : ∃ X, firstIx (sameE x0 x1 x2) l 0 = X := ⟨_, rfl⟩
        have HX := Lib.hid hX
        have H9 := Lib.hid (HC.out X hX)
        clear hX cK
        go_wp2_with fail
        refine (H9.out _ (hr.out.alloc _)).mono ?_
        rintro e w9 ⟨rfl, h2⟩
        have hb2 := below_next1 hb h2
        have hK2 := hK.next1 h2
        have hr2 := Lib.hid (hr.out.next1 h2)
        clear b0 b1 b2 b3 c0 c1 c2 c3 c4 hblt hb hK hr zK h2 H9 HC
        by_cases hXk : X = k
        · have hst := entTo_step het (show entBad l k = false by simp only [entBad, HD.out]; rw [HX.out, hXk]; simp)
          have hne : (X != (k : Int)) = false := by rw [hXk]; simp
          clear hXk
          go_wp2
          go_roundw
          case rel => exact ⟨k + 1, by omega, hst, by go_num, hK2, hr2, hb2⟩
          case measure => simp [intOf]; omega
        · have hst := Lib.hid (entTo_no (l := l) (k := k) (by have := hl.out; omega) (show entBad l k = true by simp only [entBad, HD.out]; rw [HX.out]; exact decide_eq_true hXk))
          have hne : (X != (k : Int)) = true := by rw [bne_iff_ne]; exact hXk
          clear hXk
          go_wp2
          go_ret
          exact ⟨ret_bool (by rw [cacheOkB, hst.out]; simp), hb2⟩
      · have hst := Lib.hid (entTo_all het (by have := hl.out; omega))
        go_wp2
        go_ret
        exact ⟨ret_bool (by rw [cacheOkB, hst.out]; simp [headOk, d1, d2, d3, d4]), hb⟩
end Go.Proofs.Ytbddfbgbjlfocaa

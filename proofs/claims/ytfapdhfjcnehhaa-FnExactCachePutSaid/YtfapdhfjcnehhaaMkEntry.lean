
/-
  Contracts: marks written into a slice, and looked for (laws.markEntryS, heldEntryS). Written by program (family2.py).
-/
import Derived.Test.YtfapdhfjcnehhaaMarkP
import Derived.Deep.DeepCutAuto
import Derived.Deep.LoopGhost
import Derived.Deep.RegionWith
namespace Go.Proofs.Ytfapdhfjcnehhaa
open Go.RowKit
set_option linter.unusedVariables false

def entryMk (k : Int) : List Value := [.string (mkT (k)), .int .i64 (k + 1), .int .i64 (k + 1 + 1), .string (mkT (k + 1 + 1 + 1)), .int .i64 (k + 1 + 1 + 1 + 1)]
theorem entryMk_len (k : Int) : (entryMk k).length = 5 := rfl
set_option maxRecDepth 100000 in
set_option maxHeartbeats 1600000 in
theorem markEntryS_any (g n c cap : Nat) (k : Int) (xs : List Value) (w : World) (hown : Own w g 47 cap xs) (hlen : xs.length = n * 5) (h0 : 1 ≤ k) (h1 : k + (5 * n : Nat) ≤ 1073741824) :
    Calls Try.prog 49 #[.slice (some ⟨g, 0, none⟩) n c, .int .i64 k] w fun e w' => e = .returned (.int .i64 (k + (5 * n : Nat))) ∧ Own w' g 47 cap (marksOf entryMk 5 k n) ∧ w.grownBy w' (some g) := by
  have HX := Lib.hid hlen
  have HK := Lib.hid h1
  have hn : n ≤ 1073741824 := by omega
  clear hlen h1
  go_enter Try.func49, Try.ntmps49
  go_wp2
  go_loopw [1, 5] (fun s i wr => ∃ (j : Nat) (q : Int) (ys : List Value), j ≤ n ∧ Hid (q = k + (5 * j : Nat)) ∧ i = .int .i64 j ∧ s = .int .i64 q ∧ Own wr g 47 cap ys ∧ MarkedTo ys (marksOf entryMk 5 k n) 5 j ∧ w.grownBy wr (some g)) (fun _ i _ => n - (intOf i).toNat)
  case atStart => exact ⟨0, k, xs, Nat.zero_le _, (show k = k + ((5 * 0 : Nat) : Int) by simp), rfl, rfl, hown, marked_zero (by rw [marks_len entryMk_len]; exact HX.out), ⟨rfl, rfl, rfl, Nat.le_refl _, fun _ _ _ => rfl⟩⟩
  case round =>
    obtain ⟨j, q, ys, hj, HQ, rfl, rfl, how, hmk, hg⟩ := hrel
    by_cases hjn : j < n
    · have hq0 : 1 ≤ q := by have := HQ.out; omega
      have hq1 : q + 5 ≤ 1073741824 := by have := HQ.out; have := HK.out; omega
      have hys := Lib.hid (show ys.length = n * 5 by rw [hmk.1, marks_len entryMk_len])
      have HM := Lib.hid hmk
      clear hmk hown
      have hz := how.lt
      have fz := how.frozen
      obtain ⟨o0, e0⟩ := how.there (i := j * 5) (by have := how.fits; have := hys.out; omega)
      obtain ⟨o1, e1⟩ := how.there (i := j * 5 + 1) (by have := how.fits; have := hys.out; omega)
      obtain ⟨o2, e2⟩ := how.there (i := j * 5 + 2) (by have := how.fits; have := hys.out; omega)
      obtain ⟨o3, e3⟩ := how.there (i := j * 5 + 3) (by have := how.fits; have := hys.out; omega)
      obtain ⟨o4, e4⟩ := how.there (i := j * 5 + 4) (by have := how.fits; have := hys.out; omega)
      go_wp2_with fail
      refine (markText_any _ _ (by omega) (by omega)).mono ?_
      rintro e w2 ⟨rfl, h2⟩
      have hg2 := grow_below hg h2
      replace how := Own.next how h2
      replace hg := hg2
      clear hg2 h2 hz fz e0 e1 e2 e3 e4
      have hz := how.lt
      have fz := how.frozen
      obtain ⟨o0, e0⟩ := how.there (i := j * 5) (by have := how.fits; (try simp only [List.length_set] at this); have := hys.out; omega)
      obtain ⟨o1, e1⟩ := how.there (i := j * 5 + 1) (by have := how.fits; (try simp only [List.length_set] at this); have := hys.out; omega)
      obtain ⟨o2, e2⟩ := how.there (i := j * 5 + 2) (by have := how.fits; (try simp only [List.length_set] at this); have := hys.out; omega)
      obtain ⟨o3, e3⟩ := how.there (i := j * 5 + 3) (by have := how.fits; (try simp only [List.length_set] at this); have := hys.out; omega)
      obtain ⟨o4, e4⟩ := how.there (i := j * 5 + 4) (by have := how.fits; (try simp only [List.length_set] at this); have := hys.out; omega)
      go_wp2_with fail
      refine (markText_any _ _ (by omega) (by omega)).mono ?_
      rintro e w2 ⟨rfl, h2⟩
      have hg2 := grow_below (grow_set (grow_set (grow_set hg _ _) _ _) _ _) h2
      replace how := Own.next (((how.set (i := j * 5) (by (try simp only [List.length_set]); have := hys.out; omega) _).set (i := j * 5 + 1) (by (try simp only [List.length_set]); have := hys.out; omega) _).set (i := j * 5 + 2) (by (try simp only [List.length_set]); have := hys.out; omega) _) h2
      replace hg := hg2
      clear hg2 h2 hz fz e0 e1 e2 e3 e4
      have hz := how.lt
      have fz := how.frozen
      obtain ⟨o0, e0⟩ := how.there (i := j * 5) (by have := how.fits; (try simp only [List.length_set] at this); have := hys.out; omega)
      obtain ⟨o1, e1⟩ := how.there (i := j * 5 + 1) (by have := how.fits; (try simp only [List.length_set] at this); have := hys.out; omega)
      obtain ⟨o2, e2⟩ := how.there (i := j * 5 + 2) (by have := how.fits; (try simp only [List.length_set] at this); have := hys.out; omega)
      obtain ⟨o3, e3⟩ := how.there (i := j * 5 + 3) (by have := how.fits; (try simp only [List.length_set] at this); have := hys.out; omega)
      obtain ⟨o4, e4⟩ := how.there (i := j * 5 + 4) (by have := how.fits; (try simp only [List.length_set] at this); have := hys.out; omega)
      go_wp2
      go_roundw
      case rel =>
        refine ⟨j + 1, _, _, by omega, ?_, by go_num, rfl, ((how.set (i := j * 5 + 3) (by (try simp only [List.length_set]); have := hys.out; omega) _).set (i := j * 5 + 4) (by (try simp only [List.length_set]); have := hys.out; omega) _), ?_, (grow_set (grow_set hg _ _) _ _)⟩
        · show _ = _
          have := HQ.out
          omega
        · have hst := marked_step (row := entryMk q) (size := 5) (j := j) HM.out rfl (by rw [marks_len entryMk_len]; omega) (fun y hy => by rw [marks_get entryMk_len k n j hjn y hy, HQ.out])
          exact hst
      case measure => simp [intOf]; omega
    · obtain rfl : j = n := by omega
      obtain rfl := marked_all hmk (marks_len entryMk_len k j)
      go_wp2
      go_ret
      exact ⟨ret_int HQ.out, how, hg⟩
set_option maxHeartbeats 400000 in
theorem markEntryS_nil (A : Option Addr) (c : Nat) (k : Int) (w : World) :
    Calls Try.prog 49 #[.slice A 0 c, .int .i64 k] w fun e w' => e = .returned (.int .i64 k) ∧ w = w' := by
  go_enter Try.func49, Try.ntmps49
  go_wp2
  refine wp_loop_rounds 1 ?_
  rw [rounds_succ]
  go_wp2
  go_ret
  exact ⟨rfl, rfl⟩
set_option maxRecDepth 100000 in
set_option maxHeartbeats 1600000 in
theorem heldEntryS_any (A : Option Addr) (n c : Nat) (k : Int) (w : World) (hr : Rd w 5 A n (marksOf entryMk 5 k n)) (h0 : 1 ≤ k) (h1 : k + (5 * n : Nat) ≤ 1073741824) :
    Calls Try.prog 50 #[.slice A n c, .int .i64 k] w fun e w' => e = .returned (.int .i64 (k + (5 * n : Nat))) ∧ Below w.heap.size w w' := by
  have HK := Lib.hid h1
  have hn : n ≤ 1073741824 := by omega
  clear h1
  go_enter Try.func50, Try.ntmps50
  go_wp2
  go_loopw [1, 5] (fun s i wr => ∃ (j : Nat) (q : Int), j ≤ n ∧ Hid (q = k + (5 * j : Nat)) ∧ i = .int .i64 j ∧ s = .int .i64 q ∧ Below w.heap.size w wr) (fun _ i _ => n - (intOf i).toNat)
  case atStart => exact ⟨0, k, Nat.zero_le _, (show k = k + ((5 * 0 : Nat) : Int) by simp), rfl, rfl, Below.refl _ _⟩
  case round =>
    obtain ⟨j, q, hj, HQ, rfl, rfl, hb⟩ := hrel
    by_cases hjn : j < n
    · have hq0 : 1 ≤ q := by have := HQ.out; omega
      have hq1 : q + 5 ≤ 1073741824 := by have := HQ.out; have := HK.out; omega
      obtain ⟨b, off, rfl, hblt, hcell⟩ := (hr.below hb).at_ (by omega)
      have c0 : wr.cell? ⟨b, off + j * 5, none⟩ = some (.string (mkT (q))) := hcell _ _ (marks_one entryMk_len hjn HQ.out (y := 0) rfl)
      have c1 : wr.cell? ⟨b, off + j * 5 + 1, none⟩ = some (.int .i64 (q + 1)) := hcell _ _ (marks_one entryMk_len hjn HQ.out (y := 1) rfl)
      have c2 : wr.cell? ⟨b, off + j * 5 + 2, none⟩ = some (.int .i64 (q + 1 + 1)) := hcell _ _ (marks_one entryMk_len hjn HQ.out (y := 2) rfl)
      have c3 : wr.cell? ⟨b, off + j * 5 + 3, none⟩ = some (.string (mkT (q + 1 + 1 + 1))) := hcell _ _ (marks_one entryMk_len hjn HQ.out (y := 3) rfl)
      have c4 : wr.cell? ⟨b, off + j * 5 + 4, none⟩ = some (.int .i64 (q + 1 + 1 + 1 + 1)) := hcell _ _ (marks_one entryMk_len hjn HQ.out (y := 4) rfl)
      clear hcell hr
      go_upto_region 4 with fail
      go_cut [19] (fun s wx => s = .bool false ∧ Below wr.heap.size wr wx)
      case first =>
        go_region_with (go_at_call 34; refine (markText_any _ _ (by omega) (by omega)).mono ?_; rintro e w2 ⟨rfl, h2⟩; have hcc := ((bcell h2).1 _ _ hblt).trans c0; have h3 : Below wr.heap.size wr w2 := (Below.refl _ wr).drew.trans h2)
        all_goals (go_wp2_with fail; go_meet; exact ⟨rfl, (by repeat' (first | (with_reducible exact Below.refl _ _) | (with_reducible assumption) | (with_reducible refine below_drewN ?_ _) | (with_reducible refine Below.drew ?_) | (with_reducible refine Below.alloc ?_ ?_ _) | (with_reducible refine Below.setCell ?_ ?_ _) | go_size))⟩)
      case rest =>
      obtain ⟨rfl, h2⟩ := hcut
      replace hb := hb.trans (h2.mono hb.size)
      replace c0 := ((bcell h2).1 _ _ hblt).trans c0
      replace c1 := ((bcell h2).1 _ _ hblt).trans c1
      replace c2 := ((bcell h2).1 _ _ hblt).trans c2
      replace c3 := ((bcell h2).1 _ _ hblt).trans c3
      replace c4 := ((bcell h2).1 _ _ hblt).trans c4
      replace hblt := Nat.lt_of_lt_of_le hblt h2.size
      clear h2
      obtain ⟨wr, rfl⟩ : ∃ wo : World, wo = wc := ⟨_, rfl⟩
      go_upto_region 13 with fail
      go_cut [47] (fun s wx => s = .bool false ∧ Below wr.heap.size wr wx)
      case first =>
        go_region_with (go_at_call 34; refine (markText_any _ _ (by omega) (by omega)).mono ?_; rintro e w2 ⟨rfl, h2⟩; have hcc := ((bcell h2).1 _ _ hblt).trans c3; have h3 : Below wr.heap.size wr w2 := (Below.refl _ wr).drew.trans h2)
        all_goals (go_wp2_with fail; go_meet; exact ⟨rfl, (by repeat' (first | (with_reducible exact Below.refl _ _) | (with_reducible assumption) | (with_reducible refine below_drewN ?_ _) | (with_reducible refine Below.drew ?_) | (with_reducible refine Below.alloc ?_ ?_ _) | (with_reducible refine Below.setCell ?_ ?_ _) | go_size))⟩)
      case rest =>
      obtain ⟨rfl, h2⟩ := hcut
      replace hb := hb.trans (h2.mono hb.size)
      replace c0 := ((bcell h2).1 _ _ hblt).trans c0
      replace c1 := ((bcell h2).1 _ _ hblt).trans c1
      replace c2 := ((bcell h2).1 _ _ hblt).trans c2
      replace c3 := ((bcell h2).1 _ _ hblt).trans c3
      replace c4 := ((bcell h2).1 _ _ hblt).trans c4
      replace hblt := Nat.lt_of_lt_of_le hblt h2.size
      clear h2
      obtain ⟨wr, rfl⟩ : ∃ wo : World, wo = wc := ⟨_, rfl⟩
      go_wp2
      go_roundw
      case rel =>
        refine ⟨j + 1, _, by omega, ?_, by go_num, rfl, hb⟩
        show _ = _
        have := HQ.out
        omega
      case measure => simp [intOf]; omega
    · obtain rfl : j = n := by omega
      go_wp2
      go_ret
      exact ⟨ret_int HQ.out, hb⟩
end Go.Proofs.Ytfapdhfjcnehhaa

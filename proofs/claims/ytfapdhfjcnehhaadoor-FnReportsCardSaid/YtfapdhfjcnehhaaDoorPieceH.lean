
/-
  Contracts: whether a piece is right, of the reference (spec.PieceOk).
-/
import Derived.Test.YtfapdhfjcnehhaaDoorPieceG
import Derived.Deep.RegionHeld3
namespace Go.Proofs.YtfapdhfjcnehhaaDoor
open Go.RowKit
set_option linter.unusedVariables false

theorem l08Plain_is {s : ByteArray} {v : Bool} (h : plainB s = v) (hs : s.size ≤ maxLen) (w : World) : Calls Tryd.prog 97 #[.string s] w fun e w' => e = .returned (.bool v) ∧ w = w' := by
  rw [← h]; exact l08Plain_any s w hs
theorem pieceB_eq (m : Int) (l0 : List RuleD) (l1 : List ChunkD) (l2 : List SpanD) (l3 : List TieD) :
    pieceB m l0 l1 l2 l3 = (inB m 0 60 && (decide (l0.length ≤ 8) && (inB l1.length 1 80 && (decide (l2.length ≤ 40) && (decide (l3.length ≤ 20) && (allIx ruleB l0 && (allIx (chunkB l0 l1.length) l1 && (lastB l1 && (allIx (spanB l1.length) l2 && allIx (tieB l0.length) l3))))))))) := by
  unfold pieceB headB rulesB chunksB
  generalize inB m 0 60 = b0
  generalize decide (l0.length ≤ 8) = b1
  generalize inB l1.length 1 80 = b2
  generalize decide (l2.length ≤ 40) = b3
  generalize decide (l3.length ≤ 20) = b4
  generalize allIx ruleB l0 = b5
  generalize allIx (chunkB l0 l1.length) l1 = b6
  generalize lastB l1 = b7
  generalize allIx (spanB l1.length) l2 = b8
  generalize allIx (tieB l0.length) l3 = b9
  ac_rfl
theorem spanB_eq (n1 k : Nat) (x0 x1 x2 : Int) : spanB n1 k (x0, x1, x2) = (inB x1 0 ((n1 : Int) - 2) && (inB x0 0 x1 && inB x2 0 9)) := by
  unfold spanB inB
  rw [Bool.eq_iff_iff]
  simp only [Bool.and_eq_true, decide_eq_true_eq]
  constructor
  · rintro ⟨a, b, c, d⟩; exact ⟨by omega, by omega, d⟩
  · rintro ⟨a, b, c⟩; exact ⟨by omega, by omega, by omega, c⟩
set_option maxRecDepth 100000 in
set_option maxHeartbeats 3200000 in
theorem specPieceOk_any (m : Int) (A0 : Option Addr) (n0 c0 : Nat) (l0 : List RuleD) (A1 : Option Addr) (n1 c1 : Nat) (l1 : List ChunkD) (A2 : Option Addr) (n2 c2 : Nat) (l2 : List SpanD) (A3 : Option Addr) (n3 c3 : Nat) (l3 : List TieD) (w : World) (hl : Hid (LenP n0 l0 n1 l1 n2 l2 n3 l3)) (hr : RdP w A0 n0 l0 A1 n1 l1 A2 n2 l2 A3 n3 l3) (hn : n0 ≤ 1048576 ∧ n1 ≤ 1048576 ∧ n2 ≤ 1048576 ∧ n3 ≤ 1048576) (hs : Hid (∀ d ∈ l1, d.1.size ≤ maxLen)) :
    Calls Tryd.prog 64 #[.agg #[.int .i64 m, .slice A0 n0 c0, .slice A1 n1 c1, .slice A2 n2 c2, .slice A3 n3 c3]] w fun e w' => e = .returned (.bool (pieceB m l0 l1 l2 l3)) ∧ Below w.heap.size w w' := by
  have HR := Lib.hid (fun W (hW : Below w.heap.size w W) => hr.next hW)
  obtain ⟨q0, q1, q2, q3⟩ := hn
  have HD : Hid (pieceB m l0 l1 l2 l3 = (inB m 0 60 && (decide (n0 ≤ 8) && (inB n1 1 80 && (decide (n2 ≤ 40) && (decide (n3 ≤ 20) && (allIx ruleB l0 && (allIx (chunkB l0 n1) l1 && (lastB l1 && (allIx (spanB n1) l2 && allIx (tieB n0) l3)))))))))) := by
    obtain ⟨e0, e1, e2, e3⟩ := hl.out
    have h := pieceB_eq m l0 l1 l2 l3
    rw [e0, e1, e2, e3] at h
    exact Lib.hid h
  have HS8 := Lib.hid (fun (h8 : n0 ≤ 8) (hv : allIx ruleB l0 = true) (x1 x2 : Int) (x3 : Bool) (x4 : Int) (b : Bool) (hb : splitB l0 x1 x2 x4 = b) (W : World) (hR : RdP W A0 n0 l0 A1 n1 l1 A2 n2 l2 A3 n3 l3) => show Calls Tryd.prog 98 #[.agg #[.int .i64 m, .slice A0 n0 c0, .slice A1 n1 c1, .slice A2 n2 c2, .slice A3 n3 c3], .agg #[.int .i64 x1, .int .i64 x2, .bool x3, .int .i64 x4]] W fun e w' => e = .returned (.bool b) ∧ Below W.heap.size W w' by rw [← hb]; exact l08Split_any m A0 n0 c0 l0 A1 n1 c1 l1 A2 n2 c2 l2 A3 n3 c3 l3 x1 x2 x3 x4 W hl hR h8 (Lib.hid hv))
  clear hr
  cases h0 : inB m 0 60 with
  | false =>
    have hf := Lib.hid (show pieceB m l0 l1 l2 l3 = false by rw [HD.out, h0]; rfl)
    clear HD HS8
    go_enter Tryd.func64, Tryd.ntmps64
    go_wp2_with (go_at_call 44; refine (l01In_b _ _ _ _).mono ?_; rintro e w1 ⟨rfl, rfl⟩)
    go_ret
    exact ⟨ret_bool hf.out.symm, (by repeat' (first | (with_reducible exact Below.refl _ _) | (with_reducible assumption) | (with_reducible refine below_drewN ?_ _) | (with_reducible refine Below.drew ?_) | (with_reducible refine Below.alloc ?_ ?_ _) | (with_reducible refine Below.setCell ?_ ?_ _) | go_size))⟩
  | true =>
  by_cases h1 : n0 ≤ 8
  rotate_left
  ·
    have hf := Lib.hid (show pieceB m l0 l1 l2 l3 = false by rw [HD.out, decide_eq_false h1]; simp)
    clear HD HS8
    have h1' : (8 : Int) < (n0 : Int) := by omega
    go_enter Tryd.func64, Tryd.ntmps64
    go_wp2_with (go_at_call 44; refine (l01In_b _ _ _ _).mono ?_; rintro e w1 ⟨rfl, rfl⟩)
    go_ret
    exact ⟨ret_bool hf.out.symm, (by repeat' (first | (with_reducible exact Below.refl _ _) | (with_reducible assumption) | (with_reducible refine below_drewN ?_ _) | (with_reducible refine Below.drew ?_) | (with_reducible refine Below.alloc ?_ ?_ _) | (with_reducible refine Below.setCell ?_ ?_ _) | go_size))⟩
  cases h2 : inB (n1 : Int) 1 80 with
  | false =>
    have hf := Lib.hid (show pieceB m l0 l1 l2 l3 = false by rw [HD.out, h2]; simp)
    clear HD HS8
    go_enter Tryd.func64, Tryd.ntmps64
    go_wp2_with (go_at_call 44; refine (l01In_b _ _ _ _).mono ?_; rintro e w1 ⟨rfl, rfl⟩)
    go_ret
    exact ⟨ret_bool hf.out.symm, (by repeat' (first | (with_reducible exact Below.refl _ _) | (with_reducible assumption) | (with_reducible refine below_drewN ?_ _) | (with_reducible refine Below.drew ?_) | (with_reducible refine Below.alloc ?_ ?_ _) | (with_reducible refine Below.setCell ?_ ?_ _) | go_size))⟩
  | true =>
  by_cases h3 : n2 ≤ 40
  rotate_left
  ·
    have hf := Lib.hid (show pieceB m l0 l1 l2 l3 = false by rw [HD.out, decide_eq_false h3]; simp)
    clear HD HS8
    have h3' : (40 : Int) < (n2 : Int) := by omega
    go_enter Tryd.func64, Tryd.ntmps64
    go_wp2_with (go_at_call 44; refine (l01In_b _ _ _ _).mono ?_; rintro e w1 ⟨rfl, rfl⟩)
    go_ret
    exact ⟨ret_bool hf.out.symm, (by repeat' (first | (with_reducible exact Below.refl _ _) | (with_reducible assumption) | (with_reducible refine below_drewN ?_ _) | (with_reducible refine Below.drew ?_) | (with_reducible refine Below.alloc ?_ ?_ _) | (with_reducible refine Below.setCell ?_ ?_ _) | go_size))⟩
  by_cases h4 : n3 ≤ 20
  rotate_left
  ·
    have hf := Lib.hid (show pieceB m l0 l1 l2 l3 = false by rw [HD.out, decide_eq_false h4]; simp)
    clear HD HS8
    have h4' : (20 : Int) < (n3 : Int) := by omega
    go_enter Tryd.func64, Tryd.ntmps64
    go_wp2_with (go_at_call 44; refine (l01In_b _ _ _ _).mono ?_; rintro e w1 ⟨rfl, rfl⟩)
    go_ret
    exact ⟨ret_bool hf.out.symm, (by repeat' (first | (with_reducible exact Below.refl _ _) | (with_reducible assumption) | (with_reducible refine below_drewN ?_ _) | (with_reducible refine Below.drew ?_) | (with_reducible refine Below.alloc ?_ ?_ _) | (with_reducible refine Below.setCell ?_ ?_ _) | go_size))⟩
  have HD2 := Lib.hid (show pieceB m l0 l1 l2 l3 = (allIx ruleB l0 && (allIx (chunkB l0 n1) l1 && (lastB l1 && (allIx (spanB n1) l2 && allIx (tieB n0) l3)))) by rw [HD.out, h0, h2, decide_eq_true h1, decide_eq_true h3, decide_eq_true h4]; simp)
  obtain ⟨i1, i2⟩ := inB_ge h2
  clear HD
  go_enter Tryd.func64, Tryd.ntmps64
  go_wp2_with (go_at_call 44; refine (l01In_b _ _ _ _).mono ?_; rintro e w1 ⟨rfl, rfl⟩)
  clear h0 h2
  go_loopw [4] (fun i wr => ∃ k : Nat, k ≤ n0 ∧ AllK ruleB l0 k ∧ i = .int .i64 k ∧ Blk wr w.heap.size 52 #[.int .i64 m, .slice A0 n0 c0, .slice A1 n1 c1, .slice A2 n2 c2, .slice A3 n3 c3] ∧ Below w.heap.size w wr) (fun i _ => n0 - (intOf i).toNat)
  case atStart => exact ⟨0, Nat.zero_le _, allK_zero _ _, rfl, Blk.new _ _ _, (by repeat' (first | (with_reducible exact Below.refl _ _) | (with_reducible assumption) | (with_reducible refine below_drewN ?_ _) | (with_reducible refine Below.drew ?_) | (with_reducible refine Below.alloc ?_ ?_ _) | (with_reducible refine Below.setCell ?_ ?_ _) | go_size))⟩
  case round =>
  obtain ⟨k, hk, ha, rfl, K, hb⟩ := hrel
  by_cases hlt : k < n0
  · obtain ⟨⟨x0, x1⟩, hd⟩ : ∃ d, l0[k]? = some d := ⟨_, List.getElem?_eq_getElem (by have := hl.out.1; omega)⟩
    obtain ⟨b, off, hA, hblt, y0, y1⟩ := rule_at (HR.out _ hb).1 hlt hd
    have HAk := Lib.hid ha
    have HDk := Lib.hid hd
    have HP : Hid (ruleB k (x0, x1) = (inB x0 2 3 && inB x1 0 9)) := rfl
    have HF := Lib.hid (fun (h : ruleB k (x0, x1) = false) => show pieceB m l0 l1 l2 l3 = false by rw [HD2.out, allK_no HDk.out h]; rfl)
    have cK := K.cell
    have zK := K.lt
    subst hA
    clear ha hd HS8 HD2
    cases e0 : inB x0 2 3 with
    | false =>
      have hf := Lib.hid (HF.out (by rw [HP.out, e0]; rfl))
      go_wp2_with (go_at_call 44; refine (l01In_b _ _ _ _).mono ?_; rintro e w1 ⟨rfl, rfl⟩)
      go_ret
      exact ⟨ret_bool hf.out.symm, hb⟩
    | true =>
    cases e1 : inB x1 0 9 with
    | false =>
      have hf := Lib.hid (HF.out (by rw [HP.out, e0, e1]; rfl))
      go_wp2_with (go_at_call 44; refine (l01In_b _ _ _ _).mono ?_; rintro e w1 ⟨rfl, rfl⟩)
      go_ret
      exact ⟨ret_bool hf.out.symm, hb⟩
    | true =>
      have hst := allK_step HAk.out HDk.out (by rw [HP.out, e0, e1]; rfl)
      go_wp2_with (go_at_call 44; refine (l01In_b _ _ _ _).mono ?_; rintro e w1 ⟨rfl, rfl⟩)
      go_roundw
      case rel => exact ⟨k + 1, by omega, hst, by go_num, K, hb⟩
      case measure => simp [intOf]; omega
  have hra := allK_all ha (by have := hl.out.1; omega)
  have HD3 := Lib.hid (show pieceB m l0 l1 l2 l3 = (allIx (chunkB l0 n1) l1 && (lastB l1 && (allIx (spanB n1) l2 && allIx (tieB n0) l3))) by rw [HD2.out, hra]; rfl)
  have HS9 := Lib.hid (HS8.out h1 hra)
  have cK := K.cell
  have zK := K.lt
  clear ha HS8 HD2 hra
  go_wp2
  clear cK zK
  obtain ⟨wO, hwO⟩ : ∃ wO, wO = wr := ⟨_, rfl⟩
  subst hwO
  go_loopw [5] (fun i wr => ∃ k : Nat, k ≤ n1 ∧ AllK (chunkB l0 n1) l1 k ∧ i = .int .i64 k ∧ Blk wr w.heap.size 52 #[.int .i64 m, .slice A0 n0 c0, .slice A1 n1 c1, .slice A2 n2 c2, .slice A3 n3 c3] ∧ Below w.heap.size w wr) (fun i _ => n1 - (intOf i).toNat)
  case atStart => exact ⟨0, Nat.zero_le _, allK_zero _ _, rfl, K, hb⟩
  case round =>
  clear K hb
  obtain ⟨k, hk, ha, rfl, K, hb⟩ := hrel
  by_cases hlt : k < n1
  · obtain ⟨⟨x0, x1, x2, x3, x4⟩, hd⟩ : ∃ d, l1[k]? = some d := ⟨_, List.getElem?_eq_getElem (by have := hl.out.2.1; omega)⟩
    have HX := Lib.hid (hs.out _ (List.mem_of_getElem? hd))
    have HAk := Lib.hid ha
    have HDk := Lib.hid hd
    have HP : Hid (chunkB l0 n1 k (x0, x1, x2, x3, x4) = (plainB x0 && (decide (n1 ≤ k + 1) || splitB l0 x1 x2 x4))) := rfl
    have HF := Lib.hid (fun (h : chunkB l0 n1 k (x0, x1, x2, x3, x4) = false) => show pieceB m l0 l1 l2 l3 = false by rw [HD3.out, allK_no HDk.out h]; rfl)
    obtain ⟨b, off, hA, hblt, y0, y1, y2, y3, y4⟩ := chunk_at (HR.out _ hb).2.1 hlt hd
    have HRb := Lib.hid (HR.out _ hb)
    subst hA
    have zK := K.lt
    have k0 : wr.cell? ⟨w.heap.size, 0, none⟩ = some (.int .i64 m) := K.cell 0
    have k1 : wr.cell? ⟨w.heap.size, 1, none⟩ = some (.slice A0 n0 c0) := K.cell 1
    have k2 : wr.cell? ⟨w.heap.size, 2, none⟩ = some (.slice (some ⟨b, off, none⟩) n1 c1) := K.cell 2
    have k3 : wr.cell? ⟨w.heap.size, 3, none⟩ = some (.slice A2 n2 c2) := K.cell 3
    have k4 : wr.cell? ⟨w.heap.size, 4, none⟩ = some (.slice A3 n3 c3) := K.cell 4
    have ik0 : (0 : Int) ≤ (k : Int) := by omega
    have ik1 : (k : Int) < (n1 : Int) := by omega
    have wk : IntKind.i64.wrap ((k : Int) + 1) = (k : Int) + 1 := by rw [IntKind.wrap_i64]; omega
    have WK := Lib.hid wk
    clear ha hd HD3 wk
    -- what the test comes to
    have htest : ∃ (bad : Bool), (bad = true → chunkB l0 n1 k (x0, x1, x2, x3, x4) = false) ∧ (bad = false → chunkB l0 n1 k (x0, x1, x2, x3, x4) = true) ∧ bad = !chunkB l0 n1 k (x0, x1, x2, x3, x4) := ⟨_, by cases chunkB l0 n1 k (x0, x1, x2, x3, x4) <;> simp, by cases chunkB l0 n1 k (x0, x1, x2, x3, x4) <;> simp, rfl⟩
    obtain ⟨bad, ht1, ht2, ht3⟩ := htest
    have HT1 := Lib.hid ht1
    have HT2 := Lib.hid ht2
    have HT3 := Lib.hid ht3
    clear ht1 ht2 ht3
    go_upto_region 12 with fail
    go_cut [94] (fun s wx => s = .bool bad ∧ Below wr.heap.size wr wx)
    case first =>
      have wk := WK.out
      cases e0 : plainB x0 with
      | false =>
        have hbad : bad = true := by rw [HT3.out, HP.out, e0]; rfl
        have HB := Lib.hid hbad
        clear hbad
        go_quiet ((go_at_call 97; (with_reducible exact Calls.quiet_of_same ((l08Plain_is e0 HX.out _).mono fun _ _ h => ⟨h.1, h.2.symm⟩))))
        all_goals (go_wp2_with fail; go_meet; exact ⟨by rw [HB.out], (by repeat' (first | (with_reducible exact Below.refl _ _) | (with_reducible assumption) | (with_reducible refine below_drewN ?_ _) | (with_reducible refine Below.drew ?_) | (with_reducible refine Below.alloc ?_ ?_ _) | (with_reducible refine Below.setCell ?_ ?_ _) | go_size))⟩)
      | true =>
        by_cases hlast : n1 ≤ k + 1
        · have hbad : bad = false := by rw [HT3.out, HP.out, e0, decide_eq_true hlast]; rfl
          have HB := Lib.hid hbad
          have hq : ¬ ((k : Int) + 1 < (n1 : Int)) := by omega
          clear hbad
          go_quiet ((go_at_call 97; (with_reducible exact Calls.quiet_of_same ((l08Plain_is e0 HX.out _).mono fun _ _ h => ⟨h.1, h.2.symm⟩))))
          all_goals (go_wp2_with fail; go_meet; exact ⟨by rw [HB.out], (by repeat' (first | (with_reducible exact Below.refl _ _) | (with_reducible assumption) | (with_reducible refine below_drewN ?_ _) | (with_reducible refine Below.drew ?_) | (with_reducible refine Below.alloc ?_ ?_ _) | (with_reducible refine Below.setCell ?_ ?_ _) | go_size))⟩)
        · have hq : ((k : Int) + 1 < (n1 : Int)) := by omega
          have hbad : bad = !splitB l0 x1 x2 x4 := by rw [HT3.out, HP.out, e0, decide_eq_false hlast]; simp
          have HB := Lib.hid hbad
          clear hbad
          go_region_held3 (fun w' => w'.cell? ⟨w.heap.size, 0, none⟩ = some (.int .i64 m) ∧ w'.cell? ⟨w.heap.size, 1, none⟩ = some (.slice A0 n0 c0) ∧ w'.cell? ⟨w.heap.size, 2, none⟩ = some (.slice (some ⟨b, off, none⟩) n1 c1) ∧ w'.cell? ⟨w.heap.size, 3, none⟩ = some (.slice A2 n2 c2) ∧ w'.cell? ⟨w.heap.size, 4, none⟩ = some (.slice A3 n3 c3) ∧ w'.cell? ⟨b, off + k * 5, none⟩ = some (.string x0) ∧ w'.cell? ⟨b, off + k * 5 + 1, none⟩ = some (.int .i64 x1) ∧ w'.cell? ⟨b, off + k * 5 + 2, none⟩ = some (.int .i64 x2) ∧ w'.cell? ⟨b, off + k * 5 + 3, none⟩ = some (.bool x3) ∧ w'.cell? ⟨b, off + k * 5 + 4, none⟩ = some (.int .i64 x4)) (first | exact ⟨k0, k1, k2, k3, k4, y0, y1, y2, y3, y4⟩ | exact ⟨u0, u1, u2, u3, u4, u5, u6, u7, u8, u9⟩ | go_keep) (first | (go_at_call 97; (with_reducible refine (l08Plain_is e0 HX.out _).mono ?_); rintro e w8 ⟨rfl, rfl⟩) | (go_at_call 98; refine (HS9.out _ _ _ _ _ rfl _ (by first | exact HRb.out | exact HRb.out.drew)).mono ?_; rintro e w9 ⟨rfl, h9⟩; have h9' : Below wr.heap.size wr w9 := below_next (by repeat' (first | (with_reducible exact Below.refl _ _) | (with_reducible assumption) | (with_reducible refine below_drewN ?_ _) | (with_reducible refine Below.drew ?_) | (with_reducible refine Below.alloc ?_ ?_ _) | (with_reducible refine Below.setCell ?_ ?_ _) | go_size)) h9; have u0 := ((bcell h9').1 _ _ zK).trans k0; have u1 := ((bcell h9').1 _ _ zK).trans k1; have u2 := ((bcell h9').1 _ _ zK).trans k2; have u3 := ((bcell h9').1 _ _ zK).trans k3; have u4 := ((bcell h9').1 _ _ zK).trans k4; have u5 := ((bcell h9').1 _ _ hblt).trans y0; have u6 := ((bcell h9').1 _ _ hblt).trans y1; have u7 := ((bcell h9').1 _ _ hblt).trans y2; have u8 := ((bcell h9').1 _ _ hblt).trans y3; have u9 := ((bcell h9').1 _ _ hblt).trans y4))
          all_goals (go_wp2_with fail; go_meet; exact ⟨by rw [HB.out], h9'⟩)
    case rest =>
    obtain ⟨rfl, h2⟩ := hcut
    have hb2 := below_next hb h2
    have K2 := K.next h2
    clear hb K h2 k0 k1 k2 k3 k4 y0 y1 y2 y3 y4
    cases hbad : bad with
    | true =>
      have hf := Lib.hid (HF.out (HT1.out hbad))
      go_wp2
      go_ret
      exact ⟨ret_bool hf.out.symm, hb2⟩
    | false =>
      have hst := allK_step HAk.out HDk.out (HT2.out hbad)
      go_wp2
      go_roundw
      case rel => exact ⟨k + 1, by omega, hst, by go_num, K2, hb2⟩
      case measure => simp [intOf]; omega
  have hca := allK_all ha (by have := hl.out.2.1; omega)
  have HD4 := Lib.hid (show pieceB m l0 l1 l2 l3 = (lastB l1 && (allIx (spanB n1) l2 && allIx (tieB n0) l3)) by rw [HD3.out, hca]; rfl)
  obtain ⟨⟨x0, x1, x2, x3, x4⟩, hd⟩ : ∃ d, l1[n1 - 1]? = some d := ⟨_, List.getElem?_eq_getElem (by have := hl.out.2.1; omega)⟩
  have hlt2 : n1 - 1 < n1 := by omega
  obtain ⟨b, off, hA, hblt, y0, y1, y2, y3, y4⟩ := chunk_at (HR.out _ hb).2.1 hlt2 hd
  have HD5 := Lib.hid (show pieceB m l0 l1 l2 l3 = (zeroB (x0, x1, x2, x3, x4) && (allIx (spanB n1) l2 && allIx (tieB n0) l3)) by rw [HD4.out]; unfold lastB; rw [hl.out.2.1, hd])
  have hf := Lib.hid (fun (h : zeroB (x0, x1, x2, x3, x4) = false) => show pieceB m l0 l1 l2 l3 = false by rw [HD5.out, h]; rfl)
  have cK := K.cell
  have zK := K.lt
  have j0 : ((n1 - 1 : Nat) : Int) = (n1 : Int) - 1 := by omega
  have J0 := Lib.hid j0
  subst hA
  clear ha hd HD3 HD4 hca HS9 j0
  by_cases e1 : x1 = 0
  rotate_left
  ·
    have hf2 := Lib.hid (hf.out (by simp [zeroB, e1]))
    have be1 : (x1 == 0) = false := beq_eq_false_iff_ne.2 e1
    clear HD5
    go_wp2
    go_ret
    exact ⟨ret_bool hf2.out.symm, hb⟩
  subst e1
  by_cases e2 : x2 = 0
  rotate_left
  ·
    have hf2 := Lib.hid (hf.out (by simp [zeroB, e2]))
    have be2 : (x2 == 0) = false := beq_eq_false_iff_ne.2 e2
    clear HD5
    go_wp2
    go_ret
    exact ⟨ret_bool hf2.out.symm, hb⟩
  subst e2
  cases x3 with
  | true =>
    have hf2 := Lib.hid (hf.out (by simp [zeroB]))
    clear HD5
    go_wp2
    go_ret
    exact ⟨ret_bool hf2.out.symm, hb⟩
  | false =>
  by_cases e4 : x4 = 0
  rotate_left
  ·
    have hf2 := Lib.hid (hf.out (by simp [zeroB, e4]))
    have be4 : (x4 == 0) = false := beq_eq_false_iff_ne.2 e4
    clear HD5
    go_wp2
    go_ret
    exact ⟨ret_bool hf2.out.symm, hb⟩
  subst e4
  have HD6 := Lib.hid (show pieceB m l0 l1 l2 l3 = (allIx (spanB n1) l2 && allIx (tieB n0) l3) by rw [HD5.out]; rfl)
  clear HD5 hf
  go_wp2
  clear cK zK y0 y1 y2 y3 y4
  obtain ⟨wP, hwP⟩ : ∃ wP, wP = wr := ⟨_, rfl⟩
  subst hwP
  go_loopw [6] (fun i wr => ∃ k : Nat, k ≤ n2 ∧ AllK (spanB n1) l2 k ∧ i = .int .i64 k ∧ Blk wr w.heap.size 52 #[.int .i64 m, .slice A0 n0 c0, .slice (some ⟨b, off, none⟩) n1 c1, .slice A2 n2 c2, .slice A3 n3 c3] ∧ Below w.heap.size w wr) (fun i _ => n2 - (intOf i).toNat)
  case atStart => exact ⟨0, Nat.zero_le _, allK_zero _ _, rfl, K, hb⟩
  case round =>
  clear K hb hblt
  obtain ⟨k, hk, ha, rfl, K, hb⟩ := hrel
  by_cases hlt : k < n2
  · obtain ⟨⟨x0, x1, x2⟩, hd⟩ : ∃ d, l2[k]? = some d := ⟨_, List.getElem?_eq_getElem (by have := hl.out.2.2.1; omega)⟩
    obtain ⟨b', off', hA, hblt, y0, y1, y2⟩ := span_at (HR.out _ hb).2.2.1 hlt hd
    have HAk := Lib.hid ha
    have HDk := Lib.hid hd
    have HP := Lib.hid (spanB_eq n1 k x0 x1 x2)
    have HF := Lib.hid (fun (h : spanB n1 k (x0, x1, x2) = false) => show pieceB m l0 l1 l2 l3 = false by rw [HD6.out, allK_no HDk.out h]; rfl)
    have cK := K.cell
    have zK := K.lt
    have hz := hb.size
    subst hA
    clear ha hd HD6
    cases e0 : inB x1 0 ((n1 : Int) - 2) with
    | false =>
      have hf := Lib.hid (HF.out (by rw [HP.out, e0]; rfl))
      go_wp2_with (go_at_call 44; refine (l01In_b _ _ _ _).mono ?_; rintro e w1 ⟨rfl, rfl⟩)
      go_ret
      exact ⟨ret_bool hf.out.symm, (by repeat' (first | (with_reducible exact Below.refl _ _) | (with_reducible assumption) | (with_reducible refine below_drewN ?_ _) | (with_reducible refine Below.drew ?_) | (with_reducible refine Below.alloc ?_ ?_ _) | (with_reducible refine Below.setCell ?_ ?_ _) | go_size))⟩
    | true =>
    cases e1 : inB x0 0 x1 with
    | false =>
      have hf := Lib.hid (HF.out (by rw [HP.out, e0, e1]; rfl))
      go_wp2_with (go_at_call 44; refine (l01In_b _ _ _ _).mono ?_; rintro e w1 ⟨rfl, rfl⟩)
      go_ret
      exact ⟨ret_bool hf.out.symm, (by repeat' (first | (with_reducible exact Below.refl _ _) | (with_reducible assumption) | (with_reducible refine below_drewN ?_ _) | (with_reducible refine Below.drew ?_) | (with_reducible refine Below.alloc ?_ ?_ _) | (with_reducible refine Below.setCell ?_ ?_ _) | go_size))⟩
    | true =>
    cases e2 : inB x2 0 9 with
    | false =>
      have hf := Lib.hid (HF.out (by rw [HP.out, e0, e1, e2]; rfl))
      go_wp2_with (go_at_call 44; refine (l01In_b _ _ _ _).mono ?_; rintro e w1 ⟨rfl, rfl⟩)
      go_ret
      exact ⟨ret_bool hf.out.symm, (by repeat' (first | (with_reducible exact Below.refl _ _) | (with_reducible assumption) | (with_reducible refine below_drewN ?_ _) | (with_reducible refine Below.drew ?_) | (with_reducible refine Below.alloc ?_ ?_ _) | (with_reducible refine Below.setCell ?_ ?_ _) | go_size))⟩
    | true =>
      have hst := allK_step HAk.out HDk.out (by rw [HP.out, e0, e1, e2]; rfl)
      go_wp2_with (go_at_call 44; refine (l01In_b _ _ _ _).mono ?_; rintro e w1 ⟨rfl, rfl⟩)
      go_roundw
      case rel => exact ⟨k + 1, by omega, hst, by go_num, K.alloc _, (by repeat' (first | (with_reducible exact Below.refl _ _) | (with_reducible assumption) | (with_reducible refine below_drewN ?_ _) | (with_reducible refine Below.drew ?_) | (with_reducible refine Below.alloc ?_ ?_ _) | (with_reducible refine Below.setCell ?_ ?_ _) | go_size))⟩
      case measure => simp [intOf]; omega
  have hsa := allK_all ha (by have := hl.out.2.2.1; omega)
  have HD7 := Lib.hid (show pieceB m l0 l1 l2 l3 = allIx (tieB n0) l3 by rw [HD6.out, hsa]; rfl)
  have cK := K.cell
  have zK := K.lt
  clear ha HD6 hsa
  go_wp2
  clear cK zK
  obtain ⟨wQ, hwQ⟩ : ∃ wQ, wQ = wr := ⟨_, rfl⟩
  subst hwQ
  go_loopw [8] (fun i wr => ∃ k : Nat, k ≤ n3 ∧ AllK (tieB n0) l3 k ∧ i = .int .i64 k ∧ Blk wr w.heap.size 52 #[.int .i64 m, .slice A0 n0 c0, .slice (some ⟨b, off, none⟩) n1 c1, .slice A2 n2 c2, .slice A3 n3 c3] ∧ Below w.heap.size w wr) (fun i _ => n3 - (intOf i).toNat)
  case atStart => exact ⟨0, Nat.zero_le _, allK_zero _ _, rfl, K, hb⟩
  case round =>
  clear K hb
  obtain ⟨k, hk, ha, rfl, K, hb⟩ := hrel
  by_cases hlt : k < n3
  · obtain ⟨⟨x0, x1⟩, hd⟩ : ∃ d, l3[k]? = some d := ⟨_, List.getElem?_eq_getElem (by have := hl.out.2.2.2; omega)⟩
    obtain ⟨b', off', hA, hblt, y0, y1⟩ := tie_at (HR.out _ hb).2.2.2 hlt hd
    have HAk := Lib.hid ha
    have HDk := Lib.hid hd
    have HP : Hid (tieB n0 k (x0, x1) = (inB x0 0 ((n0 : Int) - 1) && (inB x1 0 ((n0 : Int) - 1) && !decide (x0 = x1)))) := rfl
    have HF := Lib.hid (fun (h : tieB n0 k (x0, x1) = false) => show pieceB m l0 l1 l2 l3 = false by rw [HD7.out, allK_no HDk.out h])
    have cK := K.cell
    have zK := K.lt
    have hz := hb.size
    subst hA
    clear ha hd HD7
    cases e0 : inB x0 0 ((n0 : Int) - 1) with
    | false =>
      have hf := Lib.hid (HF.out (by rw [HP.out, e0]; rfl))
      go_wp2_with (go_at_call 44; refine (l01In_b _ _ _ _).mono ?_; rintro e w1 ⟨rfl, rfl⟩)
      go_ret
      exact ⟨ret_bool hf.out.symm, (by repeat' (first | (with_reducible exact Below.refl _ _) | (with_reducible assumption) | (with_reducible refine below_drewN ?_ _) | (with_reducible refine Below.drew ?_) | (with_reducible refine Below.alloc ?_ ?_ _) | (with_reducible refine Below.setCell ?_ ?_ _) | go_size))⟩
    | true =>
    cases e1 : inB x1 0 ((n0 : Int) - 1) with
    | false =>
      have hf := Lib.hid (HF.out (by rw [HP.out, e0, e1]; rfl))
      go_wp2_with (go_at_call 44; refine (l01In_b _ _ _ _).mono ?_; rintro e w1 ⟨rfl, rfl⟩)
      go_ret
      exact ⟨ret_bool hf.out.symm, (by repeat' (first | (with_reducible exact Below.refl _ _) | (with_reducible assumption) | (with_reducible refine below_drewN ?_ _) | (with_reducible refine Below.drew ?_) | (with_reducible refine Below.alloc ?_ ?_ _) | (with_reducible refine Below.setCell ?_ ?_ _) | go_size))⟩
    | true =>
    by_cases e2 : x0 = x1
    · have hf := Lib.hid (HF.out (by rw [HP.out, e0, e1, decide_eq_true e2]; rfl))
      subst e2
      go_wp2_with (go_at_call 44; refine (l01In_b _ _ _ _).mono ?_; rintro e w1 ⟨rfl, rfl⟩)
      go_ret
      exact ⟨ret_bool hf.out.symm, (by repeat' (first | (with_reducible exact Below.refl _ _) | (with_reducible assumption) | (with_reducible refine below_drewN ?_ _) | (with_reducible refine Below.drew ?_) | (with_reducible refine Below.alloc ?_ ?_ _) | (with_reducible refine Below.setCell ?_ ?_ _) | go_size))⟩
    · have hst := allK_step HAk.out HDk.out (by rw [HP.out, e0, e1, decide_eq_false e2]; rfl)
      have e3 : (x0 == x1) = false := beq_eq_false_iff_ne.2 e2
      go_wp2_with (go_at_call 44; refine (l01In_b _ _ _ _).mono ?_; rintro e w1 ⟨rfl, rfl⟩)
      go_roundw
      case rel => exact ⟨k + 1, by omega, hst, by go_num, K.alloc _, (by repeat' (first | (with_reducible exact Below.refl _ _) | (with_reducible assumption) | (with_reducible refine below_drewN ?_ _) | (with_reducible refine Below.drew ?_) | (with_reducible refine Below.alloc ?_ ?_ _) | (with_reducible refine Below.setCell ?_ ?_ _) | go_size))⟩
      case measure => simp [intOf]; omega
  have hf := Lib.hid (show pieceB m l0 l1 l2 l3 = true by rw [HD7.out, allK_all ha (by have := hl.out.2.2.2; omega)])
  have cK := K.cell
  have zK := K.lt
  clear ha HD7
  go_wp2
  go_ret
  exact ⟨ret_bool hf.out.symm, hb⟩
end Go.Proofs.YtfapdhfjcnehhaaDoor


/-
  Options read from a text: the reference's way.
-/
import Derived.Test.YtfapdhfjcnehhaaDoorReadOptV
namespace Go.Proofs.YtfapdhfjcnehhaaDoor
open Go.RowKit
set_option linter.unusedVariables false

set_option maxRecDepth 100000 in
set_option maxHeartbeats 3200000 in
theorem specReadOptions_any (t : ByteArray) (w : World) (ht : t.size ≤ 1048576) : Calls Tryd.prog 38 #[.string t] w (RoR (readOptions t) w) := by
  obtain ⟨i0, hi, hz0, hz1, hz2⟩ := info_parts infoBool
  have hmk : ∀ W : World, (Instr.makeSlice 108 (.int .i64 5) (.int .i64 5)).run Tryd.prog W = .ok (.slice (some ⟨W.heap.size, 0, none⟩) 5 5) (W.alloc (.cells (seeCells (fun _ => false)) 4)) := by
    intro W
    have h := run_make_rowN (P := Tryd.prog) 108 4 i0 _ Tryd.underlying108 hi hz0 .i64 .i64 5 5 (Nat.le_refl _) (by rw [hz2]; omega) (by omega) W
    rw [hz1, show madeCells (Value.bool false).cells (5 * 1) = seeCells (fun _ => false) by kernel_rfl] at h
    exact h
  clear hi hz0 hz1 hz2
  have HN := parts_len t
  have HZ := Lib.hid (fun (k : Nat) (p : ByteArray) (h : (partsOf t).1[k]? = some p) => Nat.le_trans (parts_sz h) ht)
  have HR0 := Lib.hid (fun h => ro_bad (t := t) h)
  have HR1 := Lib.hid (fun h => ro_none (t := t) h)
  have HR2 := Lib.hid (fun (o : OptD) h h2 => ro_no (t := t) (o := o) h h2)
  have HR3 := Lib.hid (fun (o : OptD) h0 h h2 => ro_yes (t := t) (o := o) h0 h h2)
  have H9 := Lib.hid (fun W => specPartsOf_any t W (by omega))
  revert HN HZ HR0 HR1 HR2 HR3 H9
  generalize partsOf t = P
  obtain ⟨ps, ok⟩ := P
  intro HN HZ HR0 HR1 HR2 HR3 H9
  generalize readOptions t = R at HR0 HR1 HR2 HR3 ⊢
  go_enter Tryd.func38, Tryd.ntmps38
  go_wp2_with fail
  refine (H9.out _).mono ?_
  rintro e w1 ⟨AL, cL, rfl, mL, h1⟩
  have K0 : Hid (Blk w1 w.heap.size 32 (optCells optZ)) := Blk.fresh2 h1
  have K4 : Hid (Blk w1 (w.heap.size + 1) 32 (optCells optB)) := by have q := Blk.fresh h1; simp at q; exact q
  have hb := below_next2 (Below.refl _ _) h1
  have hz : w.heap.size + 2 ≤ w1.heap.size := by have := h1.size; simp at this; omega
  obtain ⟨n, hn⟩ : ∃ n, ps.length = n := ⟨_, rfl⟩
  have hn10 : n ≤ 10 := by subst hn; exact HN
  replace mL : Mine w1 (w.heap.size + 2) 9 1 AL n cL (strCells ps) := by rw [hn] at mL; exact mL.more (by simp)
  have HQ := Lib.hid (fun g (h : AL.map (·.block) = some g) => (mL.blk h).2)
  have ML := Lib.hid mL
  have Hn := Lib.hid hn
  rw [hn]
  clear mL h1 hn HN H9
  go_wp2
  have K7 : Hid (Blk (w1.alloc (.cells (seeCells (fun _ => false)) 4)) w1.heap.size 4 (seeCells (fun _ => false))) := Blk.new w1 _ _
  have K0' := Lib.hid (K0.out.alloc (.cells (seeCells (fun _ => false)) 4))
  have K4' := Lib.hid (K4.out.alloc (.cells (seeCells (fun _ => false)) 4))
  have ML' := Lib.hid (ML.out.alloc (.cells (seeCells (fun _ => false)) 4))
  have hb' := hb.alloc hb.size (.cells (seeCells (fun _ => false)) 4)
  have hsz : w1.heap.size < (w1.alloc (.cells (seeCells (fun _ => false)) 4)).heap.size := by simp
  clear K0 K4 ML hb hmk
  revert K7 K0' K4' ML' hb' hz HQ hsz
  generalize w1.alloc (.cells (seeCells (fun _ => false)) 4) = w2
  generalize w1.heap.size = H
  intro hz HQ K7 K0' K4' ML' hb' hsz
  go_loopw [8] (fun i wr => ∃ (k : Nat) (o : OptD) (seen : Nat → Bool), k ≤ n ∧ i = .int .i64 k ∧ Hid (OptAt ps seen o k) ∧ Hid (Blk wr w.heap.size 32 (optCells optZ)) ∧ Hid (Blk wr (w.heap.size + 1) 32 (optCells o)) ∧ Hid (Blk wr H 4 (seeCells seen)) ∧ Hid (Mine wr (w.heap.size + 2) 9 1 AL n cL (strCells ps)) ∧ Below w.heap.size w wr ∧ H < wr.heap.size) (fun i _ => n - (intOf i).toNat)
  case atStart => exact ⟨0, optB, _, Nat.zero_le _, rfl, optAt_zero ps, K0', K4', K7, ML', hb', hsz⟩
  case round =>
    clear K0' K4' K7 ML' hb' hsz
    obtain ⟨k, o, seen, hk, rfl, HA, K0, K4, K7, HL, hb, hsz⟩ := hrel
    cases ok with
    | false =>
      have HS := Lib.hid (HR0.out rfl)
      have z0 : wr.cell? ⟨w.heap.size, 0, none⟩ = some (.int .i64 0) := K0.out.cell 0
      have z1 : wr.cell? ⟨w.heap.size, 1, none⟩ = some (.int .i64 0) := K0.out.cell 1
      have z2 : wr.cell? ⟨w.heap.size, 2, none⟩ = some (.bool false) := K0.out.cell 2
      have z3 : wr.cell? ⟨w.heap.size, 3, none⟩ = some (.bool false) := K0.out.cell 3
      have z4 : wr.cell? ⟨w.heap.size, 4, none⟩ = some (.bool false) := K0.out.cell 4
      have f0 := K0.out.frozen
      clear HR0 HR1 HR2 HR3
      by_cases hkn : k < n
      all_goals
        go_wp2
        refine bodyPost_ret (by simp [results, Tryd.results38, go_sem, z0, z1, z2, z3, z4]; try rfl) rfl ?_
        exact ⟨by rw [HS.out]; rfl, (by repeat' (first | (with_reducible exact Below.refl _ _) | (with_reducible assumption) | (with_reducible refine below_drewN ?_ _) | (with_reducible refine Below.drew ?_) | (with_reducible refine Below.alloc ?_ ?_ _) | (with_reducible refine Below.setCell ?_ ?_ _) | go_size))⟩
    | true =>
    by_cases hkn : k < n
    · obtain ⟨p, hp⟩ : ∃ p, ps[k]? = some p := ⟨_, List.getElem?_eq_getElem (by have := Hn.out; omega)⟩
      obtain ⟨b', off, rfl, hblt, c0⟩ := str_at HL.out.rd hkn hp
      have HP := Lib.hid hp
      have hps := HZ.out k p hp
      obtain ⟨a, b, c, d, f⟩ := o
      clear hp
      go_wp2_with fail
      refine (behind_any p wdP _ (by omega) (by decide)).mono ?_
      rintro e w3 ⟨rfl, h3⟩
      have c1 := ((bcell h3).1 _ _ hblt).trans c0
      replace K0 := Lib.hid (K0.out.next h3)
      replace K4 := Lib.hid (K4.out.next h3)
      replace K7 := Lib.hid (K7.out.next h3)
      replace HL := Lib.hid (HL.out.next h3)
      replace hb := below_next hb h3
      have hblt3 := Nat.lt_of_lt_of_le hblt h3.size
      replace hsz := Nat.lt_of_lt_of_le hsz h3.size
      clear c0 hblt h3
      go_wp2_with fail
      refine (behind_any p bgP _ (by omega) (by decide)).mono ?_
      rintro e w4 ⟨rfl, h3⟩
      have c0 := ((bcell h3).1 _ _ hblt3).trans c1
      replace K0 := Lib.hid (K0.out.next h3)
      replace K4 := Lib.hid (K4.out.next h3)
      replace K7 := Lib.hid (K7.out.next h3)
      replace HL := Lib.hid (HL.out.next h3)
      replace hb := below_next hb h3
      have hblt := Nat.lt_of_lt_of_le hblt3 h3.size
      replace hsz := Nat.lt_of_lt_of_le hsz h3.size
      clear c1 hblt3 h3
      have k0 : w4.cell? ⟨w.heap.size + 1, 0, none⟩ = some (.int .i64 a) := K4.out.cell 0
      have k1 : w4.cell? ⟨w.heap.size + 1, 1, none⟩ = some (.int .i64 b) := K4.out.cell 1
      have k2 : w4.cell? ⟨w.heap.size + 1, 2, none⟩ = some (.bool c) := K4.out.cell 2
      have k3 : w4.cell? ⟨w.heap.size + 1, 3, none⟩ = some (.bool d) := K4.out.cell 3
      have k4 : w4.cell? ⟨w.heap.size + 1, 4, none⟩ = some (.bool f) := K4.out.cell 4
      have f4 := K4.out.frozen
      have f7 := K7.out.frozen
      have z0 : w4.cell? ⟨w.heap.size, 0, none⟩ = some (.int .i64 0) := K0.out.cell 0
      have z1 : w4.cell? ⟨w.heap.size, 1, none⟩ = some (.int .i64 0) := K0.out.cell 1
      have z2 : w4.cell? ⟨w.heap.size, 2, none⟩ = some (.bool false) := K0.out.cell 2
      have z3 : w4.cell? ⟨w.heap.size, 3, none⟩ = some (.bool false) := K0.out.cell 3
      have z4 : w4.cell? ⟨w.heap.size, 4, none⟩ = some (.bool false) := K0.out.cell 4
      have f0 := K0.out.frozen
      cases hw : (behindD p wdP).2 with
      | true =>
        have hk2 := Lib.hid (show kindOf p = some (0, (behindD p wdP).1) by unfold kindOf; rw [hw]; rfl)
        revert hk2
        generalize (behindD p wdP).1 = v
        intro hk2
        have s0 : w4.cell? ⟨H, 0, none⟩ = some (.bool (seen 0)) := K7.out.cell 0
        cases hs : seen 0 with
        | true =>
          have HS := Lib.hid (HR1.out (optAt_seen HA.out HP.out hk2.out hs))
          rw [hs] at s0
          go_wp2
          refine bodyPost_ret (by simp [results, Tryd.results38, go_sem, z0, z1, z2, z3, z4]; try rfl) rfl ?_
          exact ⟨by rw [HS.out]; rfl, (by repeat' (first | (with_reducible exact Below.refl _ _) | (with_reducible assumption) | (with_reducible refine below_drewN ?_ _) | (with_reducible refine Below.drew ?_) | (with_reducible refine Below.alloc ?_ ?_ _) | (with_reducible refine Below.setCell ?_ ?_ _) | go_size))⟩
        | false =>
          have HB := Lib.hid (optAt_step HA.out HP.out hk2.out hs)
          rw [hs] at s0
          go_wp2
          go_roundw
          case rel => exact ⟨k + 1, _, _, by omega, by go_num, HB, (K0.out.far (by dsimp only; omega) _).far (by dsimp only; omega) _, (blk_turn K4.out rfl).far (by dsimp only; omega) _, blk_turn (K7.out.far (by dsimp only; omega) _) rfl, (HL.out.grown (grownBy_set _ _ _ _) (fun g e => .inl (by injection e with e; omega))).grown (grownBy_set _ _ _ _) (fun g e => .inr (fun e2 => by injection e with e; have := HQ.out _ e2; omega)), (by repeat' (first | (with_reducible exact Below.refl _ _) | (with_reducible assumption) | (with_reducible refine below_drewN ?_ _) | (with_reducible refine Below.drew ?_) | (with_reducible refine Below.alloc ?_ ?_ _) | (with_reducible refine Below.setCell ?_ ?_ _) | go_size)), (by simp [World.setCell]; omega)⟩
          case measure => simp [intOf]; omega
      | false =>
      cases hv : (behindD p bgP).2 with
      | true =>
        have hk2 := Lib.hid (show kindOf p = some (1, (behindD p bgP).1) by unfold kindOf; rw [hw, hv]; rfl)
        revert hk2
        generalize (behindD p bgP).1 = v
        intro hk2
        have s1 : w4.cell? ⟨H, 1, none⟩ = some (.bool (seen 1)) := K7.out.cell 1
        cases hs : seen 1 with
        | true =>
          have HS := Lib.hid (HR1.out (optAt_seen HA.out HP.out hk2.out hs))
          rw [hs] at s1
          go_wp2
          refine bodyPost_ret (by simp [results, Tryd.results38, go_sem, z0, z1, z2, z3, z4]; try rfl) rfl ?_
          exact ⟨by rw [HS.out]; rfl, (by repeat' (first | (with_reducible exact Below.refl _ _) | (with_reducible assumption) | (with_reducible refine below_drewN ?_ _) | (with_reducible refine Below.drew ?_) | (with_reducible refine Below.alloc ?_ ?_ _) | (with_reducible refine Below.setCell ?_ ?_ _) | go_size))⟩
        | false =>
          have HB := Lib.hid (optAt_step HA.out HP.out hk2.out hs)
          rw [hs] at s1
          go_wp2
          go_roundw
          case rel => exact ⟨k + 1, _, _, by omega, by go_num, HB, (K0.out.far (by dsimp only; omega) _).far (by dsimp only; omega) _, (blk_turn K4.out rfl).far (by dsimp only; omega) _, blk_turn (K7.out.far (by dsimp only; omega) _) rfl, (HL.out.grown (grownBy_set _ _ _ _) (fun g e => .inl (by injection e with e; omega))).grown (grownBy_set _ _ _ _) (fun g e => .inr (fun e2 => by injection e with e; have := HQ.out _ e2; omega)), (by repeat' (first | (with_reducible exact Below.refl _ _) | (with_reducible assumption) | (with_reducible refine below_drewN ?_ _) | (with_reducible refine Below.drew ?_) | (with_reducible refine Below.alloc ?_ ?_ _) | (with_reducible refine Below.setCell ?_ ?_ _) | go_size)), (by simp [World.setCell]; omega)⟩
          case measure => simp [intOf]; omega
      | false =>
      by_cases e0 : p = spN
      · have hk2 := Lib.hid (show kindOf p = some (2, 0) by unfold kindOf; rw [hw, hv, if_neg Bool.false_ne_true, if_neg Bool.false_ne_true, if_pos e0])
        have q0 : (p.toList == [115, 112, 97, 114, 101]) = true := lit_eq e0
        clear e0
        have s2 : w4.cell? ⟨H, 2, none⟩ = some (.bool (seen 2)) := K7.out.cell 2
        cases hs : seen 2 with
        | true =>
          have HS := Lib.hid (HR1.out (optAt_seen HA.out HP.out hk2.out hs))
          rw [hs] at s2
          go_wp2
          refine bodyPost_ret (by simp [results, Tryd.results38, go_sem, z0, z1, z2, z3, z4]; try rfl) rfl ?_
          exact ⟨by rw [HS.out]; rfl, (by repeat' (first | (with_reducible exact Below.refl _ _) | (with_reducible assumption) | (with_reducible refine below_drewN ?_ _) | (with_reducible refine Below.drew ?_) | (with_reducible refine Below.alloc ?_ ?_ _) | (with_reducible refine Below.setCell ?_ ?_ _) | go_size))⟩
        | false =>
          have HB := Lib.hid (optAt_step HA.out HP.out hk2.out hs)
          rw [hs] at s2
          go_wp2
          go_roundw
          case rel => exact ⟨k + 1, _, _, by omega, by go_num, HB, (K0.out.far (by dsimp only; omega) _).far (by dsimp only; omega) _, (blk_turn K4.out rfl).far (by dsimp only; omega) _, blk_turn (K7.out.far (by dsimp only; omega) _) rfl, (HL.out.grown (grownBy_set _ _ _ _) (fun g e => .inl (by injection e with e; omega))).grown (grownBy_set _ _ _ _) (fun g e => .inr (fun e2 => by injection e with e; have := HQ.out _ e2; omega)), (by repeat' (first | (with_reducible exact Below.refl _ _) | (with_reducible assumption) | (with_reducible refine below_drewN ?_ _) | (with_reducible refine Below.drew ?_) | (with_reducible refine Below.alloc ?_ ?_ _) | (with_reducible refine Below.setCell ?_ ?_ _) | go_size)), (by simp [World.setCell]; omega)⟩
          case measure => simp [intOf]; omega
      by_cases e1 : p = foN
      · have hk2 := Lib.hid (show kindOf p = some (3, 0) by unfold kindOf; rw [hw, hv, if_neg Bool.false_ne_true, if_neg Bool.false_ne_true, if_neg e0, if_pos e1])
        have q0 : (p.toList == [115, 112, 97, 114, 101]) = false := lit_ne e0
        have q1 : (p.toList == [102, 111, 108, 100]) = true := lit_eq e1
        clear e0 e1
        have s3 : w4.cell? ⟨H, 3, none⟩ = some (.bool (seen 3)) := K7.out.cell 3
        cases hs : seen 3 with
        | true =>
          have HS := Lib.hid (HR1.out (optAt_seen HA.out HP.out hk2.out hs))
          rw [hs] at s3
          go_wp2
          refine bodyPost_ret (by simp [results, Tryd.results38, go_sem, z0, z1, z2, z3, z4]; try rfl) rfl ?_
          exact ⟨by rw [HS.out]; rfl, (by repeat' (first | (with_reducible exact Below.refl _ _) | (with_reducible assumption) | (with_reducible refine below_drewN ?_ _) | (with_reducible refine Below.drew ?_) | (with_reducible refine Below.alloc ?_ ?_ _) | (with_reducible refine Below.setCell ?_ ?_ _) | go_size))⟩
        | false =>
          have HB := Lib.hid (optAt_step HA.out HP.out hk2.out hs)
          rw [hs] at s3
          go_wp2
          go_roundw
          case rel => exact ⟨k + 1, _, _, by omega, by go_num, HB, (K0.out.far (by dsimp only; omega) _).far (by dsimp only; omega) _, (blk_turn K4.out rfl).far (by dsimp only; omega) _, blk_turn (K7.out.far (by dsimp only; omega) _) rfl, (HL.out.grown (grownBy_set _ _ _ _) (fun g e => .inl (by injection e with e; omega))).grown (grownBy_set _ _ _ _) (fun g e => .inr (fun e2 => by injection e with e; have := HQ.out _ e2; omega)), (by repeat' (first | (with_reducible exact Below.refl _ _) | (with_reducible assumption) | (with_reducible refine below_drewN ?_ _) | (with_reducible refine Below.drew ?_) | (with_reducible refine Below.alloc ?_ ?_ _) | (with_reducible refine Below.setCell ?_ ?_ _) | go_size)), (by simp [World.setCell]; omega)⟩
          case measure => simp [intOf]; omega
      by_cases e2 : p = orN
      · have hk2 := Lib.hid (show kindOf p = some (4, 0) by unfold kindOf; rw [hw, hv, if_neg Bool.false_ne_true, if_neg Bool.false_ne_true, if_neg e0, if_neg e1, if_pos e2])
        have q0 : (p.toList == [115, 112, 97, 114, 101]) = false := lit_ne e0
        have q1 : (p.toList == [102, 111, 108, 100]) = false := lit_ne e1
        have q2 : (p.toList == [111, 114, 100, 101, 114]) = true := lit_eq e2
        clear e0 e1 e2
        have s4 : w4.cell? ⟨H, 4, none⟩ = some (.bool (seen 4)) := K7.out.cell 4
        cases hs : seen 4 with
        | true =>
          have HS := Lib.hid (HR1.out (optAt_seen HA.out HP.out hk2.out hs))
          rw [hs] at s4
          go_wp2
          refine bodyPost_ret (by simp [results, Tryd.results38, go_sem, z0, z1, z2, z3, z4]; try rfl) rfl ?_
          exact ⟨by rw [HS.out]; rfl, (by repeat' (first | (with_reducible exact Below.refl _ _) | (with_reducible assumption) | (with_reducible refine below_drewN ?_ _) | (with_reducible refine Below.drew ?_) | (with_reducible refine Below.alloc ?_ ?_ _) | (with_reducible refine Below.setCell ?_ ?_ _) | go_size))⟩
        | false =>
          have HB := Lib.hid (optAt_step HA.out HP.out hk2.out hs)
          rw [hs] at s4
          go_wp2
          go_roundw
          case rel => exact ⟨k + 1, _, _, by omega, by go_num, HB, (K0.out.far (by dsimp only; omega) _).far (by dsimp only; omega) _, (blk_turn K4.out rfl).far (by dsimp only; omega) _, blk_turn (K7.out.far (by dsimp only; omega) _) rfl, (HL.out.grown (grownBy_set _ _ _ _) (fun g e => .inl (by injection e with e; omega))).grown (grownBy_set _ _ _ _) (fun g e => .inr (fun e2 => by injection e with e; have := HQ.out _ e2; omega)), (by repeat' (first | (with_reducible exact Below.refl _ _) | (with_reducible assumption) | (with_reducible refine below_drewN ?_ _) | (with_reducible refine Below.drew ?_) | (with_reducible refine Below.alloc ?_ ?_ _) | (with_reducible refine Below.setCell ?_ ?_ _) | go_size)), (by simp [World.setCell]; omega)⟩
          case measure => simp [intOf]; omega
      have q0 : (p.toList == [115, 112, 97, 114, 101]) = false := lit_ne e0
      have q1 : (p.toList == [102, 111, 108, 100]) = false := lit_ne e1
      have q2 : (p.toList == [111, 114, 100, 101, 114]) = false := lit_ne e2
      have HS := Lib.hid (HR1.out (optAt_bad HA.out HP.out (show kindOf p = none by unfold kindOf; rw [hw, hv, if_neg Bool.false_ne_true, if_neg Bool.false_ne_true, if_neg e0, if_neg e1, if_neg e2])))
      clear e0 e1 e2
      go_wp2
      refine bodyPost_ret (by simp [results, Tryd.results38, go_sem, z0, z1, z2, z3, z4]; try rfl) rfl ?_
      exact ⟨by rw [HS.out]; rfl, (by repeat' (first | (with_reducible exact Below.refl _ _) | (with_reducible assumption) | (with_reducible refine below_drewN ?_ _) | (with_reducible refine Below.drew ?_) | (with_reducible refine Below.alloc ?_ ?_ _) | (with_reducible refine Below.setCell ?_ ?_ _) | go_size))⟩
    · obtain rfl : k = n := by omega
      have HE := Lib.hid (optAt_end HA.out (by have := Hn.out; omega))
      obtain ⟨a, b, c, d, f⟩ := o
      have k0 : wr.cell? ⟨w.heap.size + 1, 0, none⟩ = some (.int .i64 a) := K4.out.cell 0
      have k1 : wr.cell? ⟨w.heap.size + 1, 1, none⟩ = some (.int .i64 b) := K4.out.cell 1
      have k2 : wr.cell? ⟨w.heap.size + 1, 2, none⟩ = some (.bool c) := K4.out.cell 2
      have k3 : wr.cell? ⟨w.heap.size + 1, 3, none⟩ = some (.bool d) := K4.out.cell 3
      have k4 : wr.cell? ⟨w.heap.size + 1, 4, none⟩ = some (.bool f) := K4.out.cell 4
      have H8 := Lib.hid (fun W => specOptionsOk_any a b c d f W)
      go_wp2_with fail
      refine (H8.out _).mono ?_
      rintro e w4 ⟨rfl, h3⟩
      replace K0 := Lib.hid (K0.out.next h3)
      replace K4 := Lib.hid (K4.out.next h3)
      replace hb := below_next hb h3
      have hsz4 := Nat.lt_of_lt_of_le hsz h3.size
      clear k0 k1 k2 k3 k4 h3 hsz
      have z0 : w4.cell? ⟨w.heap.size, 0, none⟩ = some (.int .i64 0) := K0.out.cell 0
      have z1 : w4.cell? ⟨w.heap.size, 1, none⟩ = some (.int .i64 0) := K0.out.cell 1
      have z2 : w4.cell? ⟨w.heap.size, 2, none⟩ = some (.bool false) := K0.out.cell 2
      have z3 : w4.cell? ⟨w.heap.size, 3, none⟩ = some (.bool false) := K0.out.cell 3
      have z4 : w4.cell? ⟨w.heap.size, 4, none⟩ = some (.bool false) := K0.out.cell 4
      have f0 := K0.out.frozen
      cases hok : optOk a b with
      | false =>
        have HS := Lib.hid (HR2.out _ HE.out hok)
        clear hok
        go_wp2
        refine bodyPost_ret (by simp [results, Tryd.results38, go_sem, z0, z1, z2, z3, z4]; try rfl) rfl ?_
        exact ⟨by rw [HS.out]; rfl, (by repeat' (first | (with_reducible exact Below.refl _ _) | (with_reducible assumption) | (with_reducible refine below_drewN ?_ _) | (with_reducible refine Below.drew ?_) | (with_reducible refine Below.alloc ?_ ?_ _) | (with_reducible refine Below.setCell ?_ ?_ _) | go_size))⟩
      | true =>
        have HS := Lib.hid (HR3.out _ (by first | rfl | trivial) HE.out hok)
        have k0 : w4.cell? ⟨w.heap.size + 1, 0, none⟩ = some (.int .i64 a) := K4.out.cell 0
        have k1 : w4.cell? ⟨w.heap.size + 1, 1, none⟩ = some (.int .i64 b) := K4.out.cell 1
        have k2 : w4.cell? ⟨w.heap.size + 1, 2, none⟩ = some (.bool c) := K4.out.cell 2
        have k3 : w4.cell? ⟨w.heap.size + 1, 3, none⟩ = some (.bool d) := K4.out.cell 3
        have k4 : w4.cell? ⟨w.heap.size + 1, 4, none⟩ = some (.bool f) := K4.out.cell 4
        clear hok
        go_wp2
        refine bodyPost_ret (by simp [results, Tryd.results38, go_sem, z0, z1, z2, z3, z4]; try rfl) rfl ?_
        exact ⟨by rw [HS.out]; rfl, (by repeat' (first | (with_reducible exact Below.refl _ _) | (with_reducible assumption) | (with_reducible refine below_drewN ?_ _) | (with_reducible refine Below.drew ?_) | (with_reducible refine Below.alloc ?_ ?_ _) | (with_reducible refine Below.setCell ?_ ?_ _) | go_size))⟩
end Go.Proofs.YtfapdhfjcnehhaaDoor

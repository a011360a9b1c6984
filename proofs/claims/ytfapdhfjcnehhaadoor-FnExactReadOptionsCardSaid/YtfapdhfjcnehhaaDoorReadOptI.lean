
/-
  Options read from a text: the program's way.
-/
import Derived.Test.YtfapdhfjcnehhaaDoorReadOptV
namespace Go.Proofs.YtfapdhfjcnehhaaDoor
open Go.RowKit
set_option linter.unusedVariables false

def NamesAre (l : List ByteArray) (seen : Nat → Bool) : Prop := ∀ j, j < 5 → Lib.containsS l (nameK j) = seen j
theorem names_nil : NamesAre [] (fun _ => false) := fun j _ => by
  rw [Bool.eq_false_iff]; intro h; have := (Lib.containsS_iff _ _).1 h; cases this
theorem names_snoc {l : List ByteArray} {seen : Nat → Bool} {j : Nat} (h : NamesAre l seen) (hj : j < 5) : NamesAre (l ++ [nameK j]) (seeK seen j) := fun q hq => by
  unfold seeK
  rw [Bool.eq_iff_iff, Lib.containsS_iff, List.mem_append, List.mem_singleton, Bool.or_eq_true, beq_iff_eq, ← h q hq, Lib.containsS_iff]
  exact ⟨fun h => h.elim .inr (fun e => .inl (nameK_inj q hq j hj e)), fun h => h.elim (fun e => .inr (by rw [e])) .inl⟩

theorem cut_sz (p : ByteArray) : (cutN p).size + (cutV p).size ≤ p.size := by
  unfold cutN cutV
  rw [size_mk, size_mk, ← ba_len p]
  generalize p.data.toList = l
  induction l with
  | nil => simp [cutL]
  | cons c l ih =>
    rw [cutL]
    split
    · simp
    · simp; omega
set_option maxRecDepth 100000 in
set_option maxHeartbeats 3200000 in
theorem implReadOptions_any (t : ByteArray) (m : Int) (w : World) (ht : t.size ≤ 1048576) (hm : w.cell? ⟨0, 0, none⟩ = some (.int .i64 m)) (hT : Tab w) : Calls Tryd.prog 39 #[.string t] w (RoR (readOptions t) w) := by
  obtain ⟨i0, hi, hz0, hz1, hz2⟩ := info_parts infoStr
  have HI := Lib.hid (And.intro hi (And.intro hz0 (And.intro hz1 hz2)))
  clear hi hz0 hz1 hz2
  have HN := parts_len t
  have HZ := Lib.hid (fun (k : Nat) (p : ByteArray) (h : (partsOf t).1[k]? = some p) => Nat.le_trans (parts_sz h) ht)
  have HR0 := Lib.hid (fun h => ro_bad (t := t) h)
  have HR1 := Lib.hid (fun h => ro_none (t := t) h)
  have HR2 := Lib.hid (fun (o : OptD) h h2 => ro_no (t := t) (o := o) h h2)
  have HR3 := Lib.hid (fun (o : OptD) h0 h h2 => ro_yes (t := t) (o := o) h0 h h2)
  have H9 := Lib.hid (fun W (x : W.cell? ⟨0, 0, none⟩ = some (.int .i64 m)) => implPartsOf_any t m W (by omega) x)
  have hz0 := block_of_cell hm
  have HM0 := Lib.hid hm
  have HT := Lib.hid hT
  clear hm hT
  revert HN HZ HR0 HR1 HR2 HR3 H9
  generalize partsOf t = P
  obtain ⟨ps, ok⟩ := P
  intro HN HZ HR0 HR1 HR2 HR3 H9
  generalize readOptions t = R at HR0 HR1 HR2 HR3 ⊢
  go_enter Tryd.func39, Tryd.ntmps39
  go_wp2_with fail
  refine (H9.out _ (((Below.refl _ w).alloc (Nat.le_refl _) _ |>.cell (p := ⟨0, 0, none⟩) hz0).trans HM0.out)).mono ?_
  rintro e w1 ⟨AL, cL, rfl, mL, h1⟩
  have K0 : Hid (Blk w1 w.heap.size 32 (optCells optZ)) := Blk.fresh h1
  have hb := below_next1 (Below.refl _ _) h1
  have hz : w.heap.size + 1 ≤ w1.heap.size := by have := h1.size; simp at this; omega
  obtain ⟨n, hn⟩ : ∃ n, ps.length = n := ⟨_, rfl⟩
  have hn10 : n ≤ 10 := by subst hn; exact HN
  replace mL : Mine w1 (w.heap.size + 1) 9 1 AL n cL (strCells ps) := by rw [hn] at mL; exact mL.more (by simp)
  have HQ := Lib.hid (fun g (h : AL.map (·.block) = some g) => (mL.blk h).2)
  have ML := Lib.hid mL
  have Hn := Lib.hid hn
  rw [hn]
  clear mL h1 hn HN H9
  cases ok with
  | false =>
    have HS := Lib.hid (HR0.out rfl)
    have z0 : w1.cell? ⟨w.heap.size, 0, none⟩ = some (.int .i64 0) := K0.out.cell 0
    have z1 : w1.cell? ⟨w.heap.size, 1, none⟩ = some (.int .i64 0) := K0.out.cell 1
    have z2 : w1.cell? ⟨w.heap.size, 2, none⟩ = some (.bool false) := K0.out.cell 2
    have z3 : w1.cell? ⟨w.heap.size, 3, none⟩ = some (.bool false) := K0.out.cell 3
    have z4 : w1.cell? ⟨w.heap.size, 4, none⟩ = some (.bool false) := K0.out.cell 4
    have f0 := K0.out.frozen
    clear HR0 HR1 HR2 HR3 ML
    go_wp2
    refine bodyPost_ret (by simp [results, Tryd.results39, go_sem, z0, z1, z2, z3, z4]; try rfl) rfl ?_
    exact ⟨by rw [HS.out]; rfl, (by repeat' (first | (with_reducible exact Below.refl _ _) | (with_reducible assumption) | (with_reducible refine below_drewN ?_ _) | (with_reducible refine Below.drew ?_) | (with_reducible refine Below.alloc ?_ ?_ _) | (with_reducible refine Below.setCell ?_ ?_ _) | go_size))⟩
  | true =>
  go_wp2
  have K6 : Hid (Blk (w1.alloc (.cells #[.int .i64 80, .int .i64 2000, .bool false, .bool false, .bool false] 32)) w1.heap.size 32 (optCells optB)) := Blk.new w1 _ _
  have K0' := Lib.hid (K0.out.alloc (.cells #[.int .i64 80, .int .i64 2000, .bool false, .bool false, .bool false] 32))
  have ML' := Lib.hid (ML.out.alloc (.cells #[.int .i64 80, .int .i64 2000, .bool false, .bool false, .bool false] 32))
  have hb' := hb.alloc hb.size (.cells #[.int .i64 80, .int .i64 2000, .bool false, .bool false, .bool false] 32)
  have hsz : w1.heap.size < (w1.alloc (.cells #[.int .i64 80, .int .i64 2000, .bool false, .bool false, .bool false] 32)).heap.size := by simp
  clear K0 ML hb
  revert hz HQ K6 K0' ML' hb' hsz
  generalize w1.alloc (.cells #[.int .i64 80, .int .i64 2000, .bool false, .bool false, .bool false] 32) = w2
  generalize w1.heap.size = H
  intro hz HQ K6 K0' ML' hb' hsz
  go_loopw [7, 24] (fun o i wr => ∃ (k : Nat) (op : OptD) (seen : Nat → Bool) (l : List ByteArray) (A : Option Addr) (c : Nat), k ≤ n ∧ i = .int .i64 k ∧ o = .slice A k c ∧ Hid (NamesAre l seen) ∧ Hid (OptAt ps seen op k) ∧ Hid (Blk wr w.heap.size 32 (optCells optZ)) ∧ Hid (Blk wr H 32 (optCells op)) ∧ Hid (Mine wr (H + 1) 9 1 A k c (strCells l)) ∧ Hid (Mine wr (w.heap.size + 1) 9 1 AL n cL (strCells ps)) ∧ Below w.heap.size w wr ∧ H < wr.heap.size) (fun _ i _ => n - (intOf i).toNat)
  case atStart => exact ⟨0, optB, _, [], none, 0, Nat.zero_le _, rfl, rfl, names_nil, optAt_zero ps, K0', K6, Mine.mk_nil _ _ _ _, ML', hb', hsz⟩
  case round =>
    clear K0' K6 ML' hb' hsz
    obtain ⟨k, o, seen, l, A, cc, hk, rfl, rfl, HNm, HA, K0, K6, HM, HL, hb, hsz⟩ := hrel
    by_cases hkn : k < n
    · obtain ⟨p, hp⟩ : ∃ p, ps[k]? = some p := ⟨_, List.getElem?_eq_getElem (by have := Hn.out; omega)⟩
      obtain ⟨b', off, rfl, hblt, c0⟩ := str_at HL.out.rd hkn hp
      have HP := Lib.hid hp
      have hps := HZ.out k p hp
      have hcs := cut_sz p
      have HC := Lib.hid (kind_of_cut p)
      have HCut := Lib.hid (fun W => cutE_any p W (by omega))
      clear hp
      go_wp2_with fail
      refine (HCut.out _).mono ?_
      rintro e w3 ⟨rfl, h3⟩
      replace K0 := Lib.hid (K0.out.next h3)
      replace K6 := Lib.hid (K6.out.next h3)
      replace HL := Lib.hid (HL.out.next h3)
      replace HM := Lib.hid (HM.out.next h3)
      replace hb := below_next hb h3
      replace hsz := Nat.lt_of_lt_of_le hsz h3.size
      clear c0 hblt h3 HCut
      revert hcs HC
      generalize cutN p = nm
      generalize cutV p = va
      generalize cutH p = ha
      intro hcs HC
      have z0 : w3.cell? ⟨w.heap.size, 0, none⟩ = some (.int .i64 0) := K0.out.cell 0
      have z1 : w3.cell? ⟨w.heap.size, 1, none⟩ = some (.int .i64 0) := K0.out.cell 1
      have z2 : w3.cell? ⟨w.heap.size, 2, none⟩ = some (.bool false) := K0.out.cell 2
      have z3 : w3.cell? ⟨w.heap.size, 3, none⟩ = some (.bool false) := K0.out.cell 3
      have z4 : w3.cell? ⟨w.heap.size, 4, none⟩ = some (.bool false) := K0.out.cell 4
      have f0 := K0.out.frozen
      go_wp2_with fail
      refine (contains_mine nm HM.out).mono ?_
      rintro e w3' ⟨rfl, rfl⟩
      cases hco : Lib.containsS l nm with
      | true =>
        have HS := Lib.hid (HR1.out (by
          cases hkd : kindOf p with
          | none => exact optAt_bad HA.out HP.out hkd
          | some q =>
            obtain ⟨j, v⟩ := q
            obtain ⟨hj, hnm, _⟩ := HC.out.2 j v hkd
            exact optAt_seen HA.out HP.out hkd (by rw [← HNm.out j hj, ← hnm, hco])))
        clear hco
        go_wp2
        refine bodyPost_ret (by simp [results, Tryd.results39, go_sem, z0, z1, z2, z3, z4]; try rfl) rfl ?_
        exact ⟨by rw [HS.out]; rfl, (by repeat' (first | (with_reducible exact Below.refl _ _) | (with_reducible assumption) | (with_reducible refine below_drewN ?_ _) | (with_reducible refine Below.drew ?_) | (with_reducible refine Below.alloc ?_ ?_ _) | (with_reducible refine Below.setCell ?_ ?_ _) | go_size))⟩
      | false =>
        clear z0 z1 z2 z3 z4 f0
        have T3 : Tab w3' := Joins.tab_stays gPow HT.out hb (Nat.le_refl _)
        have HSet := Lib.hid (set_any nm va ha H o w3' (by omega) K6.out T3)
        clear T3
        go_wp2_with fail
        refine HSet.out.mono ?_
        rintro e w4 ⟨rfl, h4, hg4⟩
        replace K6 := Lib.hid h4
        replace K0 := Lib.hid (K0.out.turned hg4 (fun q e => by injection e with e; omega))
        replace HL := Lib.hid (HL.out.grown hg4 (fun g e => .inr (fun e2 => by injection e with e; have := HQ.out _ e2; omega)))
        replace HM := Lib.hid (HM.out.grown hg4 (fun g e => .inl (by injection e with e; omega)))
        replace hb := below_turned hb hg4 (fun g e => by injection e with e; omega)
        replace hsz := Nat.lt_of_lt_of_le hsz hg4.size
        clear h4 hg4 HSet
        cases hkd : kindOf p with
        | none =>
          have HS := Lib.hid (HR1.out (optAt_bad HA.out HP.out hkd))
          have e1 := HC.out.1 hkd
          have z0 : w4.cell? ⟨w.heap.size, 0, none⟩ = some (.int .i64 0) := K0.out.cell 0
          have z1 : w4.cell? ⟨w.heap.size, 1, none⟩ = some (.int .i64 0) := K0.out.cell 1
          have z2 : w4.cell? ⟨w.heap.size, 2, none⟩ = some (.bool false) := K0.out.cell 2
          have z3 : w4.cell? ⟨w.heap.size, 3, none⟩ = some (.bool false) := K0.out.cell 3
          have z4 : w4.cell? ⟨w.heap.size, 4, none⟩ = some (.bool false) := K0.out.cell 4
          have f0 := K0.out.frozen
          rw [e1]
          clear hco hkd e1
          go_wp2
          refine bodyPost_ret (by simp [results, Tryd.results39, go_sem, z0, z1, z2, z3, z4]; try rfl) rfl ?_
          exact ⟨by rw [HS.out]; rfl, (by repeat' (first | (with_reducible exact Below.refl _ _) | (with_reducible assumption) | (with_reducible refine below_drewN ?_ _) | (with_reducible refine Below.drew ?_) | (with_reducible refine Below.alloc ?_ ?_ _) | (with_reducible refine Below.setCell ?_ ?_ _) | go_size))⟩
        | some q =>
          obtain ⟨j, v⟩ := q
          obtain ⟨hj, hnm, e1, e2⟩ := HC.out.2 j v hkd
          have HB := Lib.hid (optAt_step HA.out HP.out hkd (by rw [← HNm.out j hj, ← hnm, hco]))
          have HN2 := Lib.hid (names_snoc HNm.out hj)
          rw [← hnm] at HN2
          rw [e2 o] at K6
          rw [e1]
          clear hco hkd e1 e2 hnm
          go_wp2_with (at_builtin; (refine wpList_append_own _ rfl (.tmp 45) (.tmp 47) _ rfl (H + 1) 9 i0 (.string ⟨#[]⟩) 1 16 Tryd.underlying55 HI.out.1 HI.out.2.1 HI.out.2.2.1 HI.out.2.2.2 rfl (by decide) _ _ _ rfl (HM.out.alloc _) ⟨w4.heap.size, 0, none⟩ 1 1 [.string nm] rfl rfl (cell_one_new _ _ _) (fun x hx => by simp at hx; subst hx; rfl) (by unfold maxLen; omega) (by omega) (by simp; omega) ?_); intro v' w5 hown5 hg5 hnil5)
          have hgr := fun g (hg : (Value.slice A k cc).ownBlock = some g) => (HM.out.blk ((ownBlk A k cc).symm.trans hg)).1
          have hb4 := (hb.alloc hb.size (.cells #[.string nm] 9)).grown hg5 (by have := hb.size; simp; omega) (fun g hg => by have := hgr g hg; omega)
          have K04 := Lib.hid ((K0.out.alloc (.cells #[.string nm] 9)).turned hg5 (fun q hq => by have := hgr q hq; omega))
          have K64 := Lib.hid ((K6.out.alloc (.cells #[.string nm] 9)).turned hg5 (fun q hq => by have := hgr q hq; omega))
          have HL4 := Lib.hid (Mine.grown (HL.out.alloc (.cells #[.string nm] 9)) hg5 (fun g hg => .inr (fun e2 => by have := hgr g hg; have := HQ.out _ e2; omega)))
          have hsz4 : H < w5.heap.size := Nat.lt_of_lt_of_le (by simp; omega) hg5.size
          obtain ⟨A5, c5, rfl, m5⟩ := Mine.of hown5
          have HM5 := Lib.hid m5
          clear hown5 m5 hg5 hnil5 hgr
          go_wp2
          go_roundw
          case rel => exact ⟨k + 1, _, _, l ++ [nm], A5, c5, by omega, by go_num, rfl, HN2, HB, K04, K64, (by show Mine w5 _ _ _ _ _ _ _; simpa [strCells] using HM5.out), HL4, hb4, hsz4⟩
          case measure => simp [intOf]; omega
    · obtain rfl : k = n := by omega
      have HE := Lib.hid (optAt_end HA.out (by have := Hn.out; omega))
      obtain ⟨a, b, c, d, f⟩ := o
      have k0 : wr.cell? ⟨H, 0, none⟩ = some (.int .i64 a) := K6.out.cell 0
      have k1 : wr.cell? ⟨H, 1, none⟩ = some (.int .i64 b) := K6.out.cell 1
      have k2 : wr.cell? ⟨H, 2, none⟩ = some (.bool c) := K6.out.cell 2
      have k3 : wr.cell? ⟨H, 3, none⟩ = some (.bool d) := K6.out.cell 3
      have k4 : wr.cell? ⟨H, 4, none⟩ = some (.bool f) := K6.out.cell 4
      have H8 := Lib.hid (fun W => implOptionsOk_any a b c d f W)
      go_wp2_with fail
      refine (H8.out _).mono ?_
      rintro e w4 ⟨rfl, h3⟩
      replace K0 := Lib.hid (K0.out.next h3)
      replace K6 := Lib.hid (K6.out.next h3)
      replace hb := below_next hb h3
      have hsz4 := Nat.lt_of_lt_of_le hsz h3.size
      clear k0 k1 k2 k3 k4 h3 hsz
      have z0 : w4.cell? ⟨w.heap.size, 0, none⟩ = some (.int .i64 0) := K0.out.cell 0
      have z1 : w4.cell? ⟨w.heap.size, 1, none⟩ = some (.int .i64 0) := K0.out.cell 1
      have z2 : w4.cell? ⟨w.heap.size, 2, none⟩ = some (.bool false) := K0.out.cell 2
      have z3 : w4.cell? ⟨w.heap.size, 3, none⟩ = some (.bool false) := K0.out.cell 3
      have z4 : w4.cell? ⟨w.heap.size, 4, none⟩ = some (.bool false) := K0.out.cell 4
      have f0 := K0.out.frozen
      cases hok : optOk a b with
      | false =>
        have HS := Lib.hid (HR2.out _ HE.out hok)
        clear hok
        go_wp2
        refine bodyPost_ret (by simp [results, Tryd.results39, go_sem, z0, z1, z2, z3, z4]; try rfl) rfl ?_
        exact ⟨by rw [HS.out]; rfl, (by repeat' (first | (with_reducible exact Below.refl _ _) | (with_reducible assumption) | (with_reducible refine below_drewN ?_ _) | (with_reducible refine Below.drew ?_) | (with_reducible refine Below.alloc ?_ ?_ _) | (with_reducible refine Below.setCell ?_ ?_ _) | go_size))⟩
      | true =>
        have HS := Lib.hid (HR3.out _ (by first | rfl | trivial) HE.out hok)
        have k0 : w4.cell? ⟨H, 0, none⟩ = some (.int .i64 a) := K6.out.cell 0
        have k1 : w4.cell? ⟨H, 1, none⟩ = some (.int .i64 b) := K6.out.cell 1
        have k2 : w4.cell? ⟨H, 2, none⟩ = some (.bool c) := K6.out.cell 2
        have k3 : w4.cell? ⟨H, 3, none⟩ = some (.bool d) := K6.out.cell 3
        have k4 : w4.cell? ⟨H, 4, none⟩ = some (.bool f) := K6.out.cell 4
        clear hok
        go_wp2
        refine bodyPost_ret (by simp [results, Tryd.results39, go_sem, z0, z1, z2, z3, z4]; try rfl) rfl ?_
        exact ⟨by rw [HS.out]; rfl, (by repeat' (first | (with_reducible exact Below.refl _ _) | (with_reducible assumption) | (with_reducible refine below_drewN ?_ _) | (with_reducible refine Below.drew ?_) | (with_reducible refine Below.alloc ?_ ?_ _) | (with_reducible refine Below.setCell ?_ ?_ _) | go_size))⟩

end Go.Proofs.YtfapdhfjcnehhaaDoor


/-
  Contracts: lines that are too long (spec.FindLong, impl.FindLong), and the law.
-/
import Derived.Test.YtfapdhfjcnehhaaDoorLinesI
import Derived.Test.YtfapdhfjcnehhaaDoorDec
import Derived.Test.YtfapdhfjcnehhaaDoorFamFinding
import Derived.Test.YtfapdhfjcnehhaaDoorMkFinding
namespace Go.Proofs.YtfapdhfjcnehhaaDoor
open Go.RowKit
set_option linter.unusedVariables false

def longOne (wd : Int) (k : Nat) (l : ByteArray) : List FindingD := if wd < l.size then [(1, (k : Int) + 1, decT l.size)] else []
def longTo (ls : List ByteArray) (wd : Int) : Nat → List FindingD
  | 0 => []
  | k + 1 => longTo ls wd k ++ (match ls[k]? with | none => [] | some l => longOne wd k l)
theorem longTo_yes {ls : List ByteArray} {wd : Int} {k : Nat} {l : ByteArray} (h : ls[k]? = some l) (hw : wd < l.size) : longTo ls wd (k + 1) = longTo ls wd k ++ [(1, (k : Int) + 1, decT l.size)] := by
  rw [longTo, h]; simp only [longOne, if_pos hw]
theorem longTo_no {ls : List ByteArray} {wd : Int} {k : Nat} {l : ByteArray} (h : ls[k]? = some l) (hw : ¬ wd < l.size) : longTo ls wd (k + 1) = longTo ls wd k := by
  rw [longTo, h]; simp only [longOne, if_neg hw, List.append_nil]
theorem longTo_len (ls : List ByteArray) (wd : Int) (k : Nat) : (longTo ls wd k).length ≤ k := by
  induction k with
  | zero => simp [longTo]
  | succ k ih =>
    rw [longTo, List.length_append]
    split
    · simp; omega
    · unfold longOne; split <;> simp <;> omega
def findLong (t : ByteArray) (wd : Int) : List FindingD := longTo (linesOf t) wd (linesOf t).length
theorem cell_three_new (w : World) (u v x : Value) (t : TypeId) : ∀ j y, [u, v, x][j]? = some y → (w.alloc (.cells #[u, v, x] t)).cell? ((⟨w.heap.size, 0, none⟩ : Addr).add j) = some y := by
  intro j y hj
  match j, hj with
  | 0, hj => obtain rfl := Option.some.inj hj; exact (Blk.new w t #[u, v, x]).cell 0
  | 1, hj => obtain rfl := Option.some.inj hj; exact (Blk.new w t #[u, v, x]).cell 1
  | 2, hj => obtain rfl := Option.some.inj hj; exact (Blk.new w t #[u, v, x]).cell 2
  | j + 3, hj => simp at hj
theorem snoc_find (acc : List FindingD) (a b : Int) (s : ByteArray) : (acc ++ [(a, b, s)]).flatMap findingCells = acc.flatMap findingCells ++ [.int .i64 a, .int .i64 b, .string s] := by
  simp [findingCells]
theorem infoFindingI : (Tryd.prog.info? 26).map (fun i => (i.zero, i.size, i.bytes)) = some (some (.agg #[.int .i64 0, .int .i64 0, .string ⟨#[]⟩]), 3, 32) := by kernel_rfl
/-- Findings in a slice of the call's own, or nil. -/
def FindM (w : World) (ss : List FindingD) (e : Ending) (w' : World) : Prop :=
  ∃ (A : Option Addr) (c : Nat), e = .returned (.slice A ss.length c) ∧ Mine w' w.heap.size 26 3 A ss.length c (ss.flatMap findingCells) ∧ Below w.heap.size w w'
theorem lines_sz {t l : ByteArray} {k : Nat} (h : (linesOf t)[k]? = some l) : l.size ≤ t.size := by
  have h1 := lines_size t
  have h2 : lineSz l ≤ ((linesOf t).map lineSz).sum := mem_le_sum lineSz (List.mem_of_getElem? h)
  unfold lineSz at h2 h1
  omega
set_option maxRecDepth 100000 in
set_option maxHeartbeats 1600000 in
theorem specFindLong_any (t : ByteArray) (wd : Int) (w : World) (ht : t.size ≤ 1048576) : Calls Tryd.prog 21 #[.string t, .int .i64 wd] w (FindM w (findLong t wd)) := by
  obtain ⟨i0, hi, hz0, hz1, hz2⟩ := info_parts infoFindingI
  have HI := Lib.hid (And.intro hi (And.intro hz0 (And.intro hz1 hz2)))
  obtain ⟨ls, hls⟩ : ∃ ls, linesOf t = ls := ⟨_, rfl⟩
  have HF := Lib.hid (show findLong t wd = longTo ls wd ls.length by unfold findLong; rw [hls])
  have HN := Lib.hid (show ls.length ≤ 1048577 by subst hls; have := lines_len t; omega)
  have HZ := Lib.hid (fun (k : Nat) (l : ByteArray) (h : ls[k]? = some l) => show l.size ≤ 1048576 by subst hls; have := lines_sz h; omega)
  have H9 := Lib.hid (fun W (_ : True) => show Calls Tryd.prog 29 #[.string t] W (StrsM W ls) from (by rw [← hls]; exact (specLinesOf_any t W (by omega)).mono fun _ _ h => strsM_of h))
  clear hi hz0 hz1 hz2 hls
  go_enter Tryd.func21, Tryd.ntmps21
  go_wp2_with fail
  refine (H9.out _ trivial).mono ?_
  rintro e w1 ⟨AL, cL, rfl, mL, h1⟩
  have mL' := Lib.hid (mL.more (B' := w.heap.size) (by simp))
  have M0 := Lib.hid (show Mine w1 w.heap.size 26 3 (some ⟨w.heap.size, 0, none⟩) (longTo ls wd 0).length 0 ((longTo ls wd 0).flatMap findingCells) from Mine.next (own_empty w 26 3) h1)
  have hb := below_next1 (Below.refl _ _) h1
  clear H9 h1 mL
  obtain ⟨nl, hnl⟩ : ∃ nl, ls.length = nl := ⟨_, rfl⟩
  have hnl1 : nl ≤ 1048577 := by have := HN.out; omega
  rw [hnl] at mL' HF
  rw [hnl]
  have HNL := Lib.hid hnl
  clear hnl
  go_wp2
  go_loopw [5, 7] (fun o i wr => ∃ (k : Nat) (A : Option Addr) (c : Nat), k ≤ nl ∧ i = .int .i64 k ∧ o = .slice A (longTo ls wd k).length c ∧ Hid (Mine wr w.heap.size 26 3 A (longTo ls wd k).length c ((longTo ls wd k).flatMap findingCells)) ∧ Hid (Mine wr w.heap.size 9 1 AL nl cL (strCells ls)) ∧ Below w.heap.size w wr) (fun _ i _ => nl - (intOf i).toNat)
  case atStart => exact ⟨0, _, _, Nat.zero_le _, rfl, rfl, M0, mL', hb⟩
  case round =>
    clear mL' M0 hb
    obtain ⟨k, A, c, hk, rfl, rfl, HM, HL, hb⟩ := hrel
    have hlen := longTo_len ls wd k
    obtain ⟨acc, hacc⟩ : ∃ acc, longTo ls wd k = acc := ⟨_, rfl⟩
    rw [hacc] at HM hlen
    rw [hacc]
    have HA := Lib.hid hacc
    obtain ⟨m2, hm2⟩ : ∃ m2, acc.length = m2 := ⟨_, rfl⟩
    rw [hm2] at HM hlen
    rw [hm2]
    have Hm := Lib.hid hm2
    clear hacc hm2
    by_cases hkn : k < nl
    · obtain ⟨l, hl⟩ : ∃ l, ls[k]? = some l := ⟨_, List.getElem?_eq_getElem (by have := HNL.out; omega)⟩
      obtain ⟨b', off, rfl, hblt, c0⟩ := str_at HL.out.rd hkn hl
      have hlz := HZ.out k l hl
      by_cases hwd : wd < l.size
      · have hst := Lib.hid (longTo_yes hl hwd)
        rw [HA.out] at hst
        have H8 := Lib.hid (fun W (_ : True) => specDecimal_any (l.size : Int) W (by omega) (by omega))
        revert hst H8
        generalize decT l.size = D
        intro hst H8
        clear hl
        go_wp2_with fail
        refine (H8.out _ trivial).mono ?_
        rintro e w2 ⟨rfl, h2⟩
        have HM2 := Lib.hid (HM.out.next h2)
        have HL2 := Lib.hid (HL.out.next h2)
        have hb2 := below_next hb h2
        clear HM HL hb h2 c0 hblt
        go_wp2_with (at_builtin; (refine wpList_append_own _ rfl (.tmp 24) (.tmp 34) _ rfl w.heap.size 26 i0 (.agg #[.int .i64 0, .int .i64 0, .string ⟨#[]⟩]) 3 32 Tryd.underlying40 HI.out.1 HI.out.2.1 HI.out.2.2.1 HI.out.2.2.2 rfl (by decide) _ _ _ rfl (Mine.alloc HM2.out _) ⟨w2.heap.size, 0, none⟩ 1 1 [.int .i64 1, .int .i64 ((k : Int) + 1), .string D] rfl rfl (cell_three_new _ _ _ _ _) (fun x hx => by simp at hx; rcases hx with rfl | rfl | rfl <;> rfl) (by unfold maxLen; omega) (by omega) (by have := hb2.size; simp; omega) ?_); intro v' w3 hown3 hg3 hnil3)
        have hb3 := hb2.alloc hb2.size (.cells #[.int .i64 1, .int .i64 ((k : Int) + 1), .string D] 26)
        have hb4 : Below w.heap.size w w3 := hb3.grown hg3 hb3.size (fun g hg => block_of_own HM2.out hg)
        have HL4 := Lib.hid (Mine.grown (Mine.alloc HL2.out (.cells #[.int .i64 1, .int .i64 ((k : Int) + 1), .string D] 26)) hg3 (fun g hg => .inr (Mine.apart HL2.out HM2.out (by decide) ((ownBlk A m2 c).symm.trans hg))))
        obtain ⟨A3, c3, rfl, m3⟩ := Mine.of hown3
        rw [← snoc_find] at m3
        have HM3 := Lib.hid m3
        clear hown3 m3 hg3 hnil3 hb3
        go_wp2
        go_roundw
        case rel => exact ⟨k + 1, A3, c3, by omega, by go_num, by rw [hst.out, List.length_append, Hm.out]; rfl, (by rw [hst.out, List.length_append, Hm.out]; exact HM3.out), HL4, hb4⟩
        case measure => simp [intOf]; omega
      · have hst := Lib.hid (longTo_no hl hwd)
        rw [HA.out] at hst
        clear hl
        go_wp2
        go_roundw
        case rel => exact ⟨k + 1, A, c, by omega, by go_num, by rw [hst.out, Hm.out], (by rw [hst.out, Hm.out]; exact HM), HL, hb⟩
        case measure => simp [intOf]; omega
    · obtain rfl : k = nl := by omega
      go_wp2
      go_ret
      rw [HF.out, HA.out]
      exact ⟨A, c, by rw [Hm.out]; rfl, (by rw [Hm.out]; exact HM.out), hb⟩
set_option maxRecDepth 100000 in
set_option maxHeartbeats 1600000 in
theorem implFindLong_any (t : ByteArray) (wd : Int) (m : Int) (w : World) (ht : t.size ≤ 1048576) (hm : w.cell? ⟨0, 0, none⟩ = some (.int .i64 m)) (hT : Tab w) : Calls Tryd.prog 22 #[.string t, .int .i64 wd] w (FindM w (findLong t wd)) := by
  obtain ⟨i0, hi, hz0, hz1, hz2⟩ := info_parts infoFindingI
  have HI := Lib.hid (And.intro hi (And.intro hz0 (And.intro hz1 hz2)))
  obtain ⟨ls, hls⟩ : ∃ ls, linesOf t = ls := ⟨_, rfl⟩
  have HF := Lib.hid (show findLong t wd = longTo ls wd ls.length by unfold findLong; rw [hls])
  have HN := Lib.hid (show ls.length ≤ 1048577 by subst hls; have := lines_len t; omega)
  have HZ := Lib.hid (fun (k : Nat) (l : ByteArray) (h : ls[k]? = some l) => show l.size ≤ 1048576 by subst hls; have := lines_sz h; omega)
  have H9 := Lib.hid (fun W (x : W.cell? ⟨0, 0, none⟩ = some (.int .i64 m)) => show Calls Tryd.prog 53 #[.string t] W (StrsM W ls) from (by rw [← hls]; exact implLinesOf_any t W m (by omega) x))
  have HM0 := Lib.hid hm
  have HT := Lib.hid hT
  clear hm hT
  clear hi hz0 hz1 hz2 hls
  go_enter Tryd.func22, Tryd.ntmps22
  go_wp2_with fail
  refine (H9.out _ HM0.out).mono ?_
  rintro e w1 ⟨AL, cL, rfl, mL, h1⟩
  have mL' := Lib.hid mL
  have M0 := Lib.hid (show Mine w1 w.heap.size 26 3 none (longTo ls wd 0).length 0 ((longTo ls wd 0).flatMap findingCells) from Mine.mk_nil _ _ _ _)
  have hb := h1
  clear H9 h1 mL
  obtain ⟨nl, hnl⟩ : ∃ nl, ls.length = nl := ⟨_, rfl⟩
  have hnl1 : nl ≤ 1048577 := by have := HN.out; omega
  rw [hnl] at mL' HF
  rw [hnl]
  have HNL := Lib.hid hnl
  clear hnl
  go_wp2
  go_loopw [5, 11] (fun o i wr => ∃ (k : Nat) (A : Option Addr) (c : Nat), k ≤ nl ∧ i = .int .i64 k ∧ o = .slice A (longTo ls wd k).length c ∧ Hid (Mine wr w.heap.size 26 3 A (longTo ls wd k).length c ((longTo ls wd k).flatMap findingCells)) ∧ Hid (Mine wr w.heap.size 9 1 AL nl cL (strCells ls)) ∧ Below w.heap.size w wr) (fun _ i _ => nl - (intOf i).toNat)
  case atStart => exact ⟨0, _, _, Nat.zero_le _, rfl, rfl, M0, mL', hb⟩
  case round =>
    clear mL' M0 hb
    obtain ⟨k, A, c, hk, rfl, rfl, HM, HL, hb⟩ := hrel
    have hlen := longTo_len ls wd k
    obtain ⟨acc, hacc⟩ : ∃ acc, longTo ls wd k = acc := ⟨_, rfl⟩
    rw [hacc] at HM hlen
    rw [hacc]
    have HA := Lib.hid hacc
    obtain ⟨m2, hm2⟩ : ∃ m2, acc.length = m2 := ⟨_, rfl⟩
    rw [hm2] at HM hlen
    rw [hm2]
    have Hm := Lib.hid hm2
    clear hacc hm2
    by_cases hkn : k < nl
    · obtain ⟨l, hl⟩ : ∃ l, ls[k]? = some l := ⟨_, List.getElem?_eq_getElem (by have := HNL.out; omega)⟩
      obtain ⟨b', off, rfl, hblt, c0⟩ := str_at HL.out.rd hkn hl
      have hlz := HZ.out k l hl
      by_cases hwd : wd < l.size
      · have hst := Lib.hid (longTo_yes hl hwd)
        rw [HA.out] at hst
        have H8 := Lib.hid (fun W x => implDecimal_any (l.size : Int) W (by omega) (by omega) x)
        revert hst H8
        generalize decT l.size = D
        intro hst H8
        clear hl
        go_wp2_with fail
        refine (H8.out _ (Joins.tab_stays gPow HT.out hb (Nat.le_refl _))).mono ?_
        rintro e w2 ⟨rfl, h2⟩
        have HM2 := Lib.hid (HM.out.next h2)
        have HL2 := Lib.hid (HL.out.next h2)
        have hb2 := below_next hb h2
        clear HM HL hb h2 c0 hblt
        go_wp2_with (at_builtin; (refine wpList_append_own _ rfl (.tmp 20) (.tmp 27) _ rfl w.heap.size 26 i0 (.agg #[.int .i64 0, .int .i64 0, .string ⟨#[]⟩]) 3 32 Tryd.underlying40 HI.out.1 HI.out.2.1 HI.out.2.2.1 HI.out.2.2.2 rfl (by decide) _ _ _ rfl (Mine.alloc HM2.out _) ⟨w2.heap.size, 0, none⟩ 1 1 [.int .i64 1, .int .i64 ((k : Int) + 1), .string D] rfl rfl (cell_three_new _ _ _ _ _) (fun x hx => by simp at hx; rcases hx with rfl | rfl | rfl <;> rfl) (by unfold maxLen; omega) (by omega) (by have := hb2.size; simp; omega) ?_); intro v' w3 hown3 hg3 hnil3)
        have hb3 := hb2.alloc hb2.size (.cells #[.int .i64 1, .int .i64 ((k : Int) + 1), .string D] 26)
        have hb4 : Below w.heap.size w w3 := hb3.grown hg3 hb3.size (fun g hg => block_of_own HM2.out hg)
        have HL4 := Lib.hid (Mine.grown (Mine.alloc HL2.out (.cells #[.int .i64 1, .int .i64 ((k : Int) + 1), .string D] 26)) hg3 (fun g hg => .inr (Mine.apart HL2.out HM2.out (by decide) ((ownBlk A m2 c).symm.trans hg))))
        obtain ⟨A3, c3, rfl, m3⟩ := Mine.of hown3
        rw [← snoc_find] at m3
        have HM3 := Lib.hid m3
        clear hown3 m3 hg3 hnil3 hb3
        go_wp2
        go_roundw
        case rel => exact ⟨k + 1, A3, c3, by omega, by go_num, by rw [hst.out, List.length_append, Hm.out]; rfl, (by rw [hst.out, List.length_append, Hm.out]; exact HM3.out), HL4, hb4⟩
        case measure => simp [intOf]; omega
      · have hst := Lib.hid (longTo_no hl hwd)
        rw [HA.out] at hst
        clear hl
        go_wp2
        go_roundw
        case rel => exact ⟨k + 1, A, c, by omega, by go_num, by rw [hst.out, Hm.out], (by rw [hst.out, Hm.out]; exact HM), HL, hb⟩
        case measure => simp [intOf]; omega
    · obtain rfl : k = nl := by omega
      go_wp2
      go_ret
      rw [HF.out, HA.out]
      exact ⟨A, c, by rw [Hm.out]; rfl, (by rw [Hm.out]; exact HM.out), hb⟩
set_option maxHeartbeats 400000 in
theorem markFindingS_mine (A : Option Addr) (n c B : Nat) (k : Int) (xs : List Value) (w : World) (hm : Mine w B 26 3 A n c xs) (h0 : 1 ≤ k) (h1 : k + (3 * n : Nat) ≤ 1073741824) :
    Calls Tryd.prog 24 #[.slice A n c, .int .i64 k] w fun e w' => e = .returned (.int .i64 (k + (3 * n : Nat))) ∧ Mine w' B 26 3 A n c (marksOf findingMk 3 k n) ∧ w.grownBy w' (A.map (·.block)) := by
  have hl := hm.len
  rcases hm.own with ⟨rfl, rfl, rfl⟩ | ⟨g, rfl, hB, hn, hc, ho⟩
  · refine (markFindingS_nil none 0 k w).mono ?_
    rintro e w' ⟨rfl, rfl⟩
    exact ⟨by simp, by simpa [marksOf] using Mine.mk_nil _ _ _ _, World.grownBy.refl _ _⟩
  · refine (markFindingS_any g n c (c * 3) k xs w ho hl h0 h1).mono ?_
    rintro e w' ⟨rfl, ho', hg⟩
    exact ⟨rfl, Mine.mk_own ho' (by rw [marks_len findingMk_len]) hB hn hc, hg⟩
set_option maxRecDepth 100000 in
set_option maxHeartbeats 1600000 in
theorem lawFindLong (t : ByteArray) (wd : Int) (w : World) (ht : t.size ≤ maxLen) (m : Int) (hm : w.cell? ⟨0, 0, none⟩ = some (.int .i64 m)) (hT : Tab w) : Calls Tryd.prog 6 #[.string t, .int .i64 wd] w fun e w' => e = .returned (.bool true) ∧ Below w.heap.size w w' := by
  have hb := Below.refl w.heap.size w
  unfold maxLen at ht
  by_cases h1 : 1048576 < t.size
  · clear hm
    go_enter Tryd.func6, Tryd.ntmps6
    go_wp2
    go_ret
    exact ⟨rfl, (by repeat' (first | (with_reducible exact Below.refl _ _) | (with_reducible assumption) | (with_reducible refine below_drewN ?_ _) | (with_reducible refine Below.drew ?_) | (with_reducible refine Below.alloc ?_ ?_ _) | (with_reducible refine Below.setCell ?_ ?_ _) | go_size))⟩
  · have h2 : t.size ≤ 1048576 := by omega
    have hz0 := block_of_cell hm
    have HM := Lib.hid (fun (W : World) (h : Below w.heap.size w W) => (h.cell (p := ⟨0, 0, none⟩) hz0).trans hm)
    have HT := Lib.hid (fun (W : World) (h : Below w.heap.size w W) => (Joins.tab_stays gPow hT h (Nat.le_refl _) : Tab W))
    have hn6 : (findLong t wd).length ≤ 1048577 := Nat.le_trans (longTo_len _ _ _) (by have := lines_len t; omega)
    have HI := Lib.hid (fun W x1 x2 => implFindLong_any t wd m W h2 x1 x2)
    have HP := Lib.hid (fun W => specFindLong_any t wd W h2)
    obtain ⟨l, hr⟩ : ∃ r, findLong t wd = r := ⟨_, rfl⟩
    rw [hr] at HI HP hn6
    clear hr ht h1 hm hT
    go_enter Tryd.func6, Tryd.ntmps6
    go_wp2_with fail
    refine (HP.out _).mono ?_
    rintro e w2 ⟨A0, c0, rfl, m0, h2'⟩
    replace hb := below_next hb h2'
    clear h2'
    have q0 := Lib.hid (fun g (hg : A0.map (·.block) = some g) => (m0.blk hg).2)
    have z0 := hb.size
    go_wp2_with fail
    refine (HI.out _ (HM.out _ hb) (HT.out _ hb)).mono ?_
    rintro e w3 ⟨A3, c3, rfl, m3, h2'⟩
    replace m0 := m0.next h2'
    replace hb := below_next hb h2'
    clear h2'
    obtain ⟨H3, hH3⟩ : ∃ H, H = w2.heap.size := ⟨_, rfl⟩
    rw [← hH3] at m3 q0 z0
    go_wp2_with fail
    refine (eqFindingS_same _ _ _ _ _ l _ (by omega) rfl m3.rd m0.rd).mono ?_
    rintro e w2 ⟨rfl, h2⟩
    replace m0 := by first | exact m0.next h2 | exact m0.next1 h2 | exact m0.next2 h2
    replace m3 := by first | exact m3.next h2 | exact m3.next1 h2 | exact m3.next2 h2
    replace hb := by first | exact below_next hb h2 | exact below_next1 hb h2 | exact below_next2 hb h2
    clear h2
    go_wp2_with fail
    refine (markFindingS_mine _ _ _ _ _ _ _ m3 (by omega) (by omega)).mono ?_
    rintro e w2 ⟨rfl, m4, hg⟩
    replace m0 := m0.grown hg (fun g e => .inr (fun h => by have := (m3.blk e).1; have := q0.out _ h; omega))
    replace hb := below_turned hb hg (fun g e => by have := (m3.blk e).1; omega)
    clear hg m3
    go_wp2_with fail
    refine (heldFindingS_any _ _ _ _ _ m4.rd (by omega) (by omega)).mono ?_
    rintro e w2 ⟨rfl, h2⟩
    replace m0 := by first | exact m0.next h2 | exact m0.next1 h2 | exact m0.next2 h2
    replace m4 := by first | exact m4.next h2 | exact m4.next1 h2 | exact m4.next2 h2
    replace hb := by first | exact below_next hb h2 | exact below_next1 hb h2 | exact below_next2 hb h2
    clear h2
    go_wp2_with fail
    refine (HI.out _ (HM.out _ hb) (HT.out _ hb)).mono ?_
    rintro e w3 ⟨A5, c5, rfl, m5, h2'⟩
    replace m0 := m0.next h2'
    replace m4 := m4.next h2'
    replace hb := below_next hb h2'
    clear h2'
    go_wp2_with fail
    refine (eqFindingS_same _ _ _ _ _ l _ (by omega) rfl m5.rd m0.rd).mono ?_
    rintro e w2 ⟨rfl, h2⟩
    replace m4 := by first | exact m4.next h2 | exact m4.next1 h2 | exact m4.next2 h2
    replace hb := by first | exact below_next hb h2 | exact below_next1 hb h2 | exact below_next2 hb h2
    clear h2
    go_wp2_with fail
    refine (heldFindingS_any _ _ _ _ _ m4.rd (by omega) (by omega)).mono ?_
    rintro e w2 ⟨rfl, h2⟩
    replace hb := by first | exact below_next hb h2 | exact below_next1 hb h2 | exact below_next2 hb h2
    clear h2
    go_wp2
    go_ret
    exact ⟨rfl, (by repeat' (first | (with_reducible exact Below.refl _ _) | (with_reducible assumption) | (with_reducible refine below_drewN ?_ _) | (with_reducible refine Below.drew ?_) | (with_reducible refine Below.alloc ?_ ?_ _) | (with_reducible refine Below.setCell ?_ ?_ _) | go_size))⟩
end Go.Proofs.YtfapdhfjcnehhaaDoor

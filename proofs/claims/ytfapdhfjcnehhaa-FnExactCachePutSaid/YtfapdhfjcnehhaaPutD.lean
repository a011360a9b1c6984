
/-
  Contracts: a result kept (impl.CachePut).
-/
import Derived.Test.YtfapdhfjcnehhaaPutC
import Derived.Test.YtfapdhfjcnehhaaCacheB
import Derived.Deep.AppendLies
namespace Go.Proofs.Ytfapdhfjcnehhaa
open Go.RowKit
set_option linter.unusedVariables false

/-- A cache whose list lies at the head of a block of the call's own. -/
def CacheR (m h k : Int) (l : List EntryD) (w : World) (e : Ending) (w' : World) : Prop :=
  ∃ g c : Nat, e = .returned (.agg #[.int .i64 m, .slice (some ⟨g, 0, none⟩) l.length c, .int .i64 h, .int .i64 k]) ∧ Own w' g 47 (c * 5) (l.flatMap entryCells) ∧ w.heap.size ≤ g ∧ l.length ≤ c ∧ c ≤ maxLen ∧ Below w.heap.size w w'
set_option maxRecDepth 100000 in
set_option maxHeartbeats 1600000 in
theorem copyCache_any (m h k : Int) (g n c : Nat) (l : List EntryD) (w : World) (hn : n ≤ 1048577) (hl : Hid (l.length = n)) (hr : Rd w 5 (some ⟨g, 0, none⟩) n (l.flatMap entryCells)) :
    Calls Try.prog 44 #[.agg #[.int .i64 m, .slice (some ⟨g, 0, none⟩) n c, .int .i64 h, .int .i64 k]] w (CacheR m h k l w) := by
  have hbw := Below.refl w.heap.size w
  go_enter Try.func44, Try.ntmps44
  go_wp2_with fail
  refine (cloneEntry_any g n c l _ hn hl ((hr.alloc _).alloc _)).mono ?_
  rintro e w2 ⟨g2, c2, rfl, ho, hg2, hnc, hcm, h2⟩
  clear hr
  have K1 := Blk.fresh2 h2
  have K2 := Blk.fresh h2
  replace hbw := below_next2 hbw h2
  simp only [World.size_alloc] at K2 ho hg2
  have z1 := K1.lt
  have z2 := K2.lt
  have f1 := K1.frozen
  have f2 := K2.frozen
  have d0 : w2.cell? ⟨w.heap.size, 0, none⟩ = some (.int .i64 m) := K1.cell 0
  have d1 : w2.cell? ⟨w.heap.size, 1, none⟩ = some (.slice (some ⟨g, 0, none⟩) n c) := K1.cell 1
  have d2 : w2.cell? ⟨w.heap.size, 2, none⟩ = some (.int .i64 h) := K1.cell 2
  have d3 : w2.cell? ⟨w.heap.size, 3, none⟩ = some (.int .i64 k) := K1.cell 3
  have e0 : w2.cell? ⟨w.heap.size + 1, 0, none⟩ = some (.int .i64 0) := K2.cell 0
  have e1 : w2.cell? ⟨w.heap.size + 1, 1, none⟩ = some (.slice none 0 0) := K2.cell 1
  have e2 : w2.cell? ⟨w.heap.size + 1, 2, none⟩ = some (.int .i64 0) := K2.cell 2
  have e3 : w2.cell? ⟨w.heap.size + 1, 3, none⟩ = some (.int .i64 0) := K2.cell 3
  clear K1 K2 h2
  go_wp2
  refine bodyPost_ret (by simp [results, Try.results44, go_sem, e0, e1, e2, e3]; try rfl) rfl ?_
  refine ⟨g2, c2, rfl, ?_, by omega, hnc, hcm, (by repeat' (first | (with_reducible exact Below.refl _ _) | (with_reducible assumption) | (with_reducible refine below_drewN ?_ _) | (with_reducible refine Below.drew ?_) | (with_reducible refine Below.alloc ?_ ?_ _) | (with_reducible refine Below.setCell ?_ ?_ _) | go_size))⟩
  repeat (first | (with_reducible exact ho) | (with_reducible refine Own.far ?_ (by simp <;> omega) _))

/-- What is kept when one is put: not more than may be. -/
def putL (m : Int) (l : List EntryD) (d : EntryD) : List EntryD := if m < ((outE (sameE d.1 d.2.1 d.2.2.1) l ++ [d]).length : Int) then (outE (sameE d.1 d.2.1 d.2.2.1) l ++ [d]).tail else outE (sameE d.1 d.2.1 d.2.2.1) l ++ [d]
theorem own_lies {w : World} {g n c : Nat} {l : List EntryD} (h : Own w g 47 (c * 5) (l.flatMap entryCells)) (hl : l.length = n) (hn : n ≤ c) (hc : c ≤ maxLen) : w.ownsRow g 47 5 (.slice (some ⟨g, 0, none⟩) n c) n (l.flatMap entryCells) :=
  Mine.mk_own h (by rw [flat_len entryCells entryCells_len, hl]) (Nat.le_refl _) hn hc
set_option maxRecDepth 100000 in
set_option maxHeartbeats 3200000 in
theorem implCachePut_any (m h k : Int) (g n c : Nat) (l : List EntryD) (t x3 : ByteArray) (a b x4 : Int) (w : World) (hn : n ≤ 1048576) (hl : Hid (l.length = n)) (hr : Rd w 5 (some ⟨g, 0, none⟩) n (l.flatMap entryCells)) :
    Calls Try.prog 23 #[.agg #[.int .i64 m, .slice (some ⟨g, 0, none⟩) n c, .int .i64 h, .int .i64 k], .agg #[.string t, .int .i64 a, .int .i64 b, .string x3, .int .i64 x4]] w (CacheR m h k (putL m l (t, a, b, x3, x4)) w) := by
  obtain ⟨i0, hi, hz0, hz1, hz2⟩ := info_parts infoEntryI
  have HI := Lib.hid (And.intro hi (And.intro hz0 (And.intro hz1 hz2)))
  clear hi hz0 hz1 hz2
  have hbw := Below.refl w.heap.size w
  go_enter Try.func23, Try.ntmps23
  go_wp2_with fail
  refine (copyCache_any m h k g n c l _ (by omega) hl (((hr.alloc _).alloc _).alloc _)).mono ?_
  rintro e w2 ⟨g2, c2, rfl, ho, hg2, hnc, hcm, h2⟩
  clear hr
  have K1 := Blk.fresh2 h2
  have K2 := Blk.fresh h2
  replace hbw := below_next3 hbw h2
  simp only [World.size_alloc] at K1 K2 ho hg2
  have hz2 : w.heap.size + 3 ≤ w2.heap.size := by have := h2.size; simp at this; omega
  have hgw := ho.lt
  have HK1 := Lib.hid K1
  have HK2 := Lib.hid K2
  have HO := Lib.hid ho
  clear h2 K1 K2 ho
  obtain ⟨n1, hn1⟩ : ∃ n1, l.length = n1 := ⟨_, rfl⟩
  have hn1b : n1 ≤ 1048576 := by have := hl.out; omega
  have hl1 := Lib.hid hn1
  rw [hn1] at hnc ⊢
  clear hn1
  go_wp2_with fail
  refine (deleteFunc_any g2 n1 c2 l t x3 a b x4 _ _ (by omega) hnc hcm hl1 (HO.out.alloc _) (HK1.out.alloc _) (by omega)).mono ?_
  rintro e w3 ⟨rfl, ho3, hg3⟩
  have hbw3 := below_turned (hbw.alloc hbw.size _) hg3 (fun q e => by injection e with e; omega)
  have K1 := (HK1.out.alloc _).turned hg3 (fun q e => by injection e with e; omega)
  have K2 := (HK2.out.alloc _).turned hg3 (fun q e => by injection e with e; omega)
  have K5 := (Blk.new w2 _ _).turned hg3 (fun q e => by injection e with e; omega)
  have hz3 : w2.heap.size + 1 ≤ w3.heap.size := by have := hg3.size; simp at this; omega
  have hL1 : (outE (sameE t a b) l).length ≤ n1 := by rw [← hl1.out]; exact List.length_filter_le _ _
  have HP : Hid (putL m l (t, a, b, x3, x4) = if m < (((outE (sameE t a b) l).length + 1 : Nat) : Int) then (outE (sameE t a b) l ++ [(t, a, b, x3, x4)]).tail else outE (sameE t a b) l ++ [(t, a, b, x3, x4)]) := by
    show putL m l (t, a, b, x3, x4) = _
    unfold putL
    simp only [List.length_append, List.length_cons, List.length_nil]
  obtain ⟨R, hR⟩ : ∃ R, putL m l (t, a, b, x3, x4) = R := ⟨_, rfl⟩
  have HR := Lib.hid hR
  rw [hR] at HP
  clear hR
  revert ho3 hL1 HP
  generalize outE (sameE t a b) l = L1
  intro ho3 hL1 HP
  obtain ⟨n3, hn3⟩ : ∃ n3, L1.length = n3 := ⟨_, rfl⟩
  have HN3 := Lib.hid hn3
  have HO3 := Lib.hid ho3
  rw [hn3] at hL1 HP ⊢
  clear hg3 HK1 HK2 HO ho3 hn3
  have k0 : w3.cell? ⟨w2.heap.size, 0, none⟩ = some (.int .i64 m) := K5.cell 0
  have k1 : w3.cell? ⟨w2.heap.size, 1, none⟩ = some (.slice (some ⟨g2, 0, none⟩) n1 c2) := K5.cell 1
  have k2 : w3.cell? ⟨w2.heap.size, 2, none⟩ = some (.int .i64 h) := K5.cell 2
  have k3 : w3.cell? ⟨w2.heap.size, 3, none⟩ = some (.int .i64 k) := K5.cell 3
  have kf := K5.frozen
  go_upto_region 3 with fail
  obtain ⟨w4, hw4⟩ : ∃ w4, w4 = w3.setCell ⟨w2.heap.size, 1, none⟩ (.slice (some ⟨g2, 0, none⟩) n3 c2) := ⟨_, rfl⟩
  have o4 : Own w4 g2 47 (c2 * 5) (L1.flatMap entryCells) := by rw [hw4]; exact HO3.out.far (by dsimp only; omega) _
  have K14 : Blk w4 (w.heap.size + 1) 47 #[.string t, .int .i64 a, .int .i64 b, .string x3, .int .i64 x4] := by rw [hw4]; exact K1.far (by dsimp only; omega) _
  have K24 : Blk w4 (w.heap.size + 1 + 1) 44 #[.int .i64 0, .slice none 0 0, .int .i64 0, .int .i64 0] := by rw [hw4]; exact K2.far (by dsimp only; omega) _
  have K54 : Blk w4 w2.heap.size 44 #[.int .i64 m, .slice (some ⟨g2, 0, none⟩) n3 c2, .int .i64 h, .int .i64 k] := by rw [hw4]; exact K5.set_ 1 _
  have hb4 : Below w.heap.size w w4 := by rw [hw4]; exact hbw3.setCell (by dsimp only; omega) _
  have hz4 : w2.heap.size + 1 ≤ w4.heap.size := by rw [hw4]; simpa [World.setCell] using hz3
  rw [← hw4]
  clear hw4 k0 k1 k2 k3 kf K1 K2 K5 hbw3 hz3 HO3 hl1
  have e0 : w4.cell? ⟨w.heap.size + 1, 0, none⟩ = some (.string t) := K14.cell 0
  have e1 : w4.cell? ⟨w.heap.size + 1, 1, none⟩ = some (.int .i64 a) := K14.cell 1
  have e2 : w4.cell? ⟨w.heap.size + 1, 2, none⟩ = some (.int .i64 b) := K14.cell 2
  have e3 : w4.cell? ⟨w.heap.size + 1, 3, none⟩ = some (.string x3) := K14.cell 3
  have e4 : w4.cell? ⟨w.heap.size + 1, 4, none⟩ = some (.int .i64 x4) := K14.cell 4
  have k1 : w4.cell? ⟨w2.heap.size, 1, none⟩ = some (.slice (some ⟨g2, 0, none⟩) n3 c2) := K54.cell 1
  by_cases hmm : m < ((n3 + 1 : Nat) : Int)
  · have HP2 := Lib.hid (show R = (L1 ++ [(t, a, b, x3, x4)]).tail by have := HP.out; rwa [if_pos hmm] at this)
    have hmm2 : m < (n3 : Int) + 1 := by omega
    clear hmm HP
    go_wp2_with (at_builtin; (refine wpList_append_lies _ rfl (.tmp 14) (.tmp 16) _ rfl g2 47 i0 (.agg #[.string ⟨#[]⟩, .int .i64 0, .int .i64 0, .string ⟨#[]⟩, .int .i64 0]) 5 56 Try.underlying42 HI.out.1 HI.out.2.1 HI.out.2.2.1 HI.out.2.2.2 rfl (by decide) (.slice (some ⟨g2, 0, none⟩) n3 c2) n3 (L1.flatMap entryCells) rfl (own_lies (o4.alloc _) HN3.out (by omega) hcm) ⟨w4.heap.size, 0, none⟩ 1 1 (entryCells (t, a, b, x3, x4)) rfl rfl (World.news_of_block (Blk.new w4 47 (entryCells (t, a, b, x3, x4)).toArray)) (fun x hx => by simp [entryCells] at hx; rcases hx with rfl | rfl | rfl | rfl | rfl <;> rfl) (by decide) (by unfold maxLen; omega) (by omega) (by simp; omega) _ rfl ?_);intro g6 c6 w5 hown5 hg5 hcase5 hlt5
                 rw [show (Value.slice (some ⟨g2, 0, none⟩) n3 c2).ownBlock = some g2 from rfl] at hg5 hcase5
                 have hz5 : w4.heap.size + 1 ≤ w5.heap.size := by have := hg5.size; simp at this; omega
                 have hne6 : g6 ≠ w2.heap.size ∧ g6 ≠ w.heap.size + 1 + 1 ∧ w.heap.size + 3 ≤ g6 := by
                   rcases hcase5 with hq | hq
                   · have : g2 = g6 := by injection hq
                     omega
                   · simp at hq; omega
                 obtain ⟨h61, h62, h63⟩ := hne6
                 have K5 := (K54.alloc (.cells (entryCells (t, a, b, x3, x4)).toArray 47)).turned hg5 (fun q e => by injection e with e; omega)
                 have K2 := (K24.alloc (.cells (entryCells (t, a, b, x3, x4)).toArray 47)).turned hg5 (fun q e => by injection e with e; omega)
                 have hb5 := below_turned (hb4.alloc hb4.size (.cells (entryCells (t, a, b, x3, x4)).toArray 47)) hg5 (fun q e => by injection e with e; omega)
                 have k0 : w5.cell? ⟨w2.heap.size, 0, none⟩ = some (.int .i64 m) := K5.cell 0
                 have k1 : w5.cell? ⟨w2.heap.size, 1, none⟩ = some (.slice (some ⟨g2, 0, none⟩) n3 c2) := K5.cell 1
                 have k2 : w5.cell? ⟨w2.heap.size, 2, none⟩ = some (.int .i64 h) := K5.cell 2
                 have k3 : w5.cell? ⟨w2.heap.size, 3, none⟩ = some (.int .i64 k) := K5.cell 3
                 have kf := K5.frozen
                 have z0 : w5.cell? ⟨w.heap.size + 1 + 1, 0, none⟩ = some (.int .i64 0) := K2.cell 0
                 have z1 : w5.cell? ⟨w.heap.size + 1 + 1, 1, none⟩ = some (.slice none 0 0) := K2.cell 1
                 have z2 : w5.cell? ⟨w.heap.size + 1 + 1, 2, none⟩ = some (.int .i64 0) := K2.cell 2
                 have z3 : w5.cell? ⟨w.heap.size + 1 + 1, 3, none⟩ = some (.int .i64 0) := K2.cell 3
                 have zf := K2.frozen
                 have HU := Lib.hid hown5
                 clear hown5 hg5 hcase5 e0 e1 e2 e3 e4)
    obtain ⟨g7, c7, e7, ho7, hB7, hnc7, hcm7⟩ := own_some HU.out (by intro e; cases e)
    injection e7 with e7 _ e8
    injection e7 with e7
    injection e7 with e7
    subst e7; subst e8
    have HO7 : Hid (Own w5 g6 47 (c6 * 5) ((L1 ++ [(t, a, b, x3, x4)]).flatMap entryCells)) := by
      show Own _ _ _ _ _
      rw [List.flatMap_append]
      simpa using ho7
    have HN7 := Lib.hid (show (L1 ++ [(t, a, b, x3, x4)]).length = n3 + 1 by rw [List.length_append, HN3.out]; rfl)
    clear ho7 hB7 HU K54 K24 K14 hb4 o4 HN3 hg2
    revert HP2 HO7 HN7
    generalize L1 ++ [(t, a, b, x3, x4)] = L2
    intro HP2 HO7 HN7
    refine (deleteOne_any g6 (n3 + 1) c6 L2 _ (by omega) (by omega) hnc7 hcm7 HN7 (HO7.out.far (by dsimp only; omega) _)).mono ?_
    rintro e w6 ⟨rfl, ho6, hg6⟩
    have K56 := (K5.set_ 1 (.slice (some ⟨g6, 0, none⟩) (n3 + 1) c6)).turned hg6 (fun q e => by injection e with e; omega)
    have K26 := (K2.far (p := ⟨w2.heap.size, 1, none⟩) (by dsimp only; omega) (.slice (some ⟨g6, 0, none⟩) (n3 + 1) c6)).turned hg6 (fun q e => by injection e with e; omega)
    have hb6 := below_turned (hb5.setCell (p := ⟨w2.heap.size, 1, none⟩) (by dsimp only; omega) (.slice (some ⟨g6, 0, none⟩) (n3 + 1) c6)) hg6 (fun q e => by injection e with e; omega)
    have hz6 : w2.heap.size + 1 ≤ w6.heap.size := by have := hg6.size; simp [World.setCell] at this; omega
    have HO6 := Lib.hid ho6
    clear k0 k1 k2 k3 kf z0 z1 z2 z3 zf K5 K2 hg6 ho6 HO7 hb5
    have k0 : w6.cell? ⟨w2.heap.size, 0, none⟩ = some (.int .i64 m) := K56.cell 0
    have k1 : w6.cell? ⟨w2.heap.size, 1, none⟩ = some (.slice (some ⟨g6, 0, none⟩) (n3 + 1) c6) := K56.cell 1
    have k2 : w6.cell? ⟨w2.heap.size, 2, none⟩ = some (.int .i64 h) := K56.cell 2
    have k3 : w6.cell? ⟨w2.heap.size, 3, none⟩ = some (.int .i64 k) := K56.cell 3
    have kf := K56.frozen
    have z0 : w6.cell? ⟨w.heap.size + 1 + 1, 0, none⟩ = some (.int .i64 0) := K26.cell 0
    have z1 : w6.cell? ⟨w.heap.size + 1 + 1, 1, none⟩ = some (.slice none 0 0) := K26.cell 1
    have z2 : w6.cell? ⟨w.heap.size + 1 + 1, 2, none⟩ = some (.int .i64 0) := K26.cell 2
    have z3 : w6.cell? ⟨w.heap.size + 1 + 1, 3, none⟩ = some (.int .i64 0) := K26.cell 3
    have zf := K26.frozen
    have hlt : L2.tail.length ≤ c6 := by rw [List.length_tail, HN7.out]; omega
    go_wp2
    refine bodyPost_ret (by simp [results, Try.results23, go_sem, z0, z1, z2, z3]; try rfl) rfl ?_
    rw [HR.out, HP2.out]
    refine ⟨g6, c6, (by rw [List.length_tail]), ?_, by omega, hlt, hcm7, (by repeat' (first | (with_reducible exact Below.refl _ _) | (with_reducible assumption) | (with_reducible refine below_drewN ?_ _) | (with_reducible refine Below.drew ?_) | (with_reducible refine Below.alloc ?_ ?_ _) | (with_reducible refine Below.setCell ?_ ?_ _) | go_size))⟩
    repeat (first | (with_reducible exact HO6.out) | (with_reducible refine Own.far ?_ (by dsimp only; omega) _))
  · have HP2 := Lib.hid (show R = L1 ++ [(t, a, b, x3, x4)] by have := HP.out; rwa [if_neg hmm] at this)
    have hmm2 : ¬ m < (n3 : Int) + 1 := by omega
    clear hmm HP
    go_wp2_with (at_builtin; (refine wpList_append_lies _ rfl (.tmp 14) (.tmp 16) _ rfl g2 47 i0 (.agg #[.string ⟨#[]⟩, .int .i64 0, .int .i64 0, .string ⟨#[]⟩, .int .i64 0]) 5 56 Try.underlying42 HI.out.1 HI.out.2.1 HI.out.2.2.1 HI.out.2.2.2 rfl (by decide) (.slice (some ⟨g2, 0, none⟩) n3 c2) n3 (L1.flatMap entryCells) rfl (own_lies (o4.alloc _) HN3.out (by omega) hcm) ⟨w4.heap.size, 0, none⟩ 1 1 (entryCells (t, a, b, x3, x4)) rfl rfl (World.news_of_block (Blk.new w4 47 (entryCells (t, a, b, x3, x4)).toArray)) (fun x hx => by simp [entryCells] at hx; rcases hx with rfl | rfl | rfl | rfl | rfl <;> rfl) (by decide) (by unfold maxLen; omega) (by omega) (by simp; omega) _ rfl ?_);intro g6 c6 w5 hown5 hg5 hcase5 hlt5
                 rw [show (Value.slice (some ⟨g2, 0, none⟩) n3 c2).ownBlock = some g2 from rfl] at hg5 hcase5
                 have hz5 : w4.heap.size + 1 ≤ w5.heap.size := by have := hg5.size; simp at this; omega
                 have hne6 : g6 ≠ w2.heap.size ∧ g6 ≠ w.heap.size + 1 + 1 ∧ w.heap.size + 3 ≤ g6 := by
                   rcases hcase5 with hq | hq
                   · have : g2 = g6 := by injection hq
                     omega
                   · simp at hq; omega
                 obtain ⟨h61, h62, h63⟩ := hne6
                 have K5 := (K54.alloc (.cells (entryCells (t, a, b, x3, x4)).toArray 47)).turned hg5 (fun q e => by injection e with e; omega)
                 have K2 := (K24.alloc (.cells (entryCells (t, a, b, x3, x4)).toArray 47)).turned hg5 (fun q e => by injection e with e; omega)
                 have hb5 := below_turned (hb4.alloc hb4.size (.cells (entryCells (t, a, b, x3, x4)).toArray 47)) hg5 (fun q e => by injection e with e; omega)
                 have k0 : w5.cell? ⟨w2.heap.size, 0, none⟩ = some (.int .i64 m) := K5.cell 0
                 have k1 : w5.cell? ⟨w2.heap.size, 1, none⟩ = some (.slice (some ⟨g2, 0, none⟩) n3 c2) := K5.cell 1
                 have k2 : w5.cell? ⟨w2.heap.size, 2, none⟩ = some (.int .i64 h) := K5.cell 2
                 have k3 : w5.cell? ⟨w2.heap.size, 3, none⟩ = some (.int .i64 k) := K5.cell 3
                 have kf := K5.frozen
                 have z0 : w5.cell? ⟨w.heap.size + 1 + 1, 0, none⟩ = some (.int .i64 0) := K2.cell 0
                 have z1 : w5.cell? ⟨w.heap.size + 1 + 1, 1, none⟩ = some (.slice none 0 0) := K2.cell 1
                 have z2 : w5.cell? ⟨w.heap.size + 1 + 1, 2, none⟩ = some (.int .i64 0) := K2.cell 2
                 have z3 : w5.cell? ⟨w.heap.size + 1 + 1, 3, none⟩ = some (.int .i64 0) := K2.cell 3
                 have zf := K2.frozen
                 have HU := Lib.hid hown5
                 clear hown5 hg5 hcase5 e0 e1 e2 e3 e4)
    obtain ⟨g7, c7, e7, ho7, hB7, hnc7, hcm7⟩ := own_some HU.out (by intro e; cases e)
    injection e7 with e7 _ e8
    injection e7 with e7
    injection e7 with e7
    subst e7; subst e8
    have HO7 : Hid (Own w5 g6 47 (c6 * 5) ((L1 ++ [(t, a, b, x3, x4)]).flatMap entryCells)) := by
      show Own _ _ _ _ _
      rw [List.flatMap_append]
      simpa using ho7
    have HN7 := Lib.hid (show (L1 ++ [(t, a, b, x3, x4)]).length = n3 + 1 by rw [List.length_append, HN3.out]; rfl)
    clear ho7 hB7 HU K54 K24 K14 hb4 o4 HN3 hg2
    revert HP2 HO7 HN7
    generalize L1 ++ [(t, a, b, x3, x4)] = L2
    intro HP2 HO7 HN7
    refine bodyPost_ret (by simp [results, Try.results23, go_sem, z0, z1, z2, z3]; try rfl) rfl ?_
    rw [HR.out, HP2.out]
    refine ⟨g6, c6, (by rw [HN7.out]), ?_, by omega, by rw [HN7.out]; exact hnc7, hcm7, (by repeat' (first | (with_reducible exact Below.refl _ _) | (with_reducible assumption) | (with_reducible refine below_drewN ?_ _) | (with_reducible refine Below.drew ?_) | (with_reducible refine Below.alloc ?_ ?_ _) | (with_reducible refine Below.setCell ?_ ?_ _) | go_size))⟩
    repeat (first | (with_reducible exact HO7.out) | (with_reducible refine Own.far ?_ (by dsimp only; omega) _))
end Go.Proofs.Ytfapdhfjcnehhaa

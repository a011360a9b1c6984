/-
  Put together by program (shake.py): SpaH, SpaI, SpaJ, SpaK.
-/
import Derived.Test.YtgbikafalcbibaaGreatDoorMiP
import Derived.Test.YtgbikafalcbibaaGreatDoorMiM
set_option maxRecDepth 100000
set_option maxHeartbeats 25600000
set_option linter.unusedVariables false
set_option linter.unusedSimpArgs false
open Go.Lib (hid)
open Go.Proofs.Tryz
namespace Go.Proofs.YtgbikafalcbibaaGreatDoor
open Go.RowKit
def Deep (d : Nat) (st : RdSt) : Prop := ∀ s, st = some s → d ≤ 20
theorem Deep.adv {d i j : Nat} {st st' : RdSt} (h : Deep d st) (k : Adv i j st st') : Deep d st' := fun t e => by
 obtain ⟨s, e2, _, _⟩ := k t e
 exact h s e2
theorem Deep.nest {d : Nat} {st : RdSt} (h : Deep d st) : Deep (d + 1) (nestS d st) := fun t e => by
 unfold nestS at e
 by_cases h20 : d = 20
 ·rw [if_pos h20] at e; cases e
 ·rw [if_neg h20] at e; have := h t e; omega
abbrev PosS (R : RC) (U : Nat → Prop) (d : Nat) (row : Option Nat) (w : World) (r : PR) (e : Ending) (w' : World) : Prop :=
 e = .returned (.int .i64 r.1) ∧ ∃ row', RdI { R with U := U } d r.2 row' w' ∧ Kr R.T row w row' w'
structure SC (R : RC) (N f : Nat) : Prop where
 value : ∀ (U : Nat → Prop) (d : Nat) (st : RdSt) (row : Option Nat) (w : World), RdI { R with U := U } d st row w → Need R.n st 11 f → d + f ≤ 100000 → Deep d st → Calls prog 105 #[.pointer (some ⟨R.T, 0, none⟩)] w (PosS R U d row w (exprF R.sg N f .value d st))
 pick : ∀ (U : Nat → Prop) (d : Nat) (st : RdSt) (row : Option Nat) (w : World), RdI { R with U := U } d st row w → Need R.n st 10 f → d + f ≤ 100000 → Deep d st → Calls prog 133 #[.pointer (some ⟨R.T, 0, none⟩)] w (PosS R U d row w (exprF R.sg N f .pick d st))
 chain : ∀ (U : Nat → Prop) (l d : Nat) (st : RdSt) (row : Option Nat) (w : World), RdI { R with U := U } d st row w → l ≤ 6 → Need R.n st (9 - l) f → d + f ≤ 100000 → Deep d st → Calls prog 168 #[.pointer (some ⟨R.T, 0, none⟩), .int .i64 l] w (PosS R U d row w (exprF R.sg N f (.chain l) d st))
 end_ : ∀ (U : Nat → Prop) (d : Nat) (st : RdSt) (row : Option Nat) (w : World), RdI { R with U := U } d st row w → Need R.n st 2 f → d + f ≤ 100000 → Deep d st → Calls prog 206 #[.pointer (some ⟨R.T, 0, none⟩)] w (PosS R U d row w (exprF R.sg N f .end_ d st))
 base : ∀ (U : Nat → Prop) (d : Nat) (st : RdSt) (row : Option Nat) (w : World), RdI { R with U := U } d st row w → Need R.n st 1 f → d + f ≤ 100000 → Deep d st → Calls prog 234 #[.pointer (some ⟨R.T, 0, none⟩)] w (PosS R U d row w (exprF R.sg N f .base d st))
 step : ∀ (U : Nat → Prop) (d : Nat) (st : RdSt) (row : Option Nat) (w : World), RdI { R with U := U } d st row w → Need R.n st 12 f → d + f ≤ 100000 → Deep d st → Calls prog 106 #[.pointer (some ⟨R.T, 0, none⟩)] w (PosS R U d row w (exprF R.sg N f (.stmt false) d st))
 block : ∀ (U : Nat → Prop) (d : Nat) (st : RdSt) (row : Option Nat) (w : World), RdI { R with U := U } d st row w → Need R.n st 13 f → d + f ≤ 100000 → Deep d st → Calls prog 78 #[.pointer (some ⟨R.T, 0, none⟩)] w (PosS R U d row w (exprF R.sg N f .block d st))
theorem SC.one {R : RC} {N f : Nat} (h : SC R N f) {d r : Nat} (hd : d + f ≤ 100000) {s : PS} (hn : Need R.n (some s) r (f + 1)) (hlt : s.at_ < R.n) (hdp : d ≤ 20) : OneSp R 105 d (s.at_ + 1) (exprF R.sg N f .value d) :=
 fun U st row w hI hlo => h.value U d st row w hI (by
  have h2 := hn.2 s rfl
  refine ⟨by omega, fun t e => ?_⟩
  have := hlo t e
  have : R.n - t.at_ ≤ R.n - s.at_ - 1 := by omega
  omega) hd (fun _ _ => hdp)
theorem nest_s3 {R : RC} {U : Nat → Prop} {d : Nat} {st : RdSt} {row : Option Nat} {w : World} (hi : R.imp = false) (h : RdI { R with U := U } (d + 1) st row w) :
  w.cell? ⟨R.T, 3, none⟩ = some (.int .i64 ((d : Int) + 1)) ∧ (∀ i, w.frozen? ⟨R.T, i, none⟩ = false) ∧ R.T < w.heap.size ∧ RdI { R with U := U } d st row (w.setCell ⟨R.T, 3, none⟩ (.int .i64 d)) ∧ Kr R.T row w row (w.setCell ⟨R.T, 3, none⟩ (.int .i64 d)) := by
 obtain ⟨a, b, AN, cN, l, hc, hst, hrow⟩ := h
 obtain ⟨c1, c2, c3, cf, cz⟩ := hc.csu _ hi
 have hF := RdI.snest1 (R := { R with U := U }) hi hc hst hrow (u := (d : Int)) (d' := d) rfl
 exact ⟨by rw [c3]; simp, cf, cz, hF.1, hF.2⟩
theorem nest_go {R : RC} {d : Nat} {s : PS} {row : Option Nat} {w : World} (hi : R.imp = false) (h : RdI R d (some s) row w) (hd : d < 20) :
  RdI R (d + 1) (nestS d (some s)) row (w.setCell ⟨R.T, 3, none⟩ (.int .i64 ((d : Int) + 1))) ∧ Kr R.T row w row (w.setCell ⟨R.T, 3, none⟩ (.int .i64 ((d : Int) + 1))) := by
 obtain ⟨a, b, AN, cN, l, hc, hst, hrow⟩ := h
 unfold nestS
 rw [if_neg (by omega)]
 exact RdI.snest1 hi hc hst hrow (by omega)
theorem nest_bad {R : RC} {st : RdSt} {row : Option Nat} {w : World} (hi : R.imp = false) (h : RdI R 20 st row w) :
  RdI R 21 none row ((w.setCell ⟨R.T, 3, none⟩ (.int .i64 21)).setCell ⟨R.T, 2, none⟩ (.bool true)) ∧ Kr R.T row w row ((w.setCell ⟨R.T, 3, none⟩ (.int .i64 21)).setCell ⟨R.T, 2, none⟩ (.bool true)) := by
 obtain ⟨a, b, AN, cN, l, hc, hst, hrow⟩ := h
 have hF := RdI.snest1 hi hc hst hrow (u := 21) (d' := 21) (by rfl)
 obtain ⟨a', b', AN', cN', l', hc', hst', hrow'⟩ := hF.1
 have hG := RdI.sbad1 hi hc' hrow'
 exact ⟨hG.1, hF.2.trans hG.2⟩
theorem spick_step (R : RC) (hi : R.imp = false) (N f : Nat) (HE : SC R N f) (d : Nat) (st : RdSt) (row : Option Nat) (w : World) (hI : RdI R d st row w) (hn : Need R.n st 10 (f + 1)) (hd : d + (f + 1) ≤ 100000) (hdp : Deep d st) :
  Calls prog 133 #[.pointer (some ⟨R.T, 0, none⟩)] w (PosS R R.U d row w (pickS R.sg (exprF R.sg N f) d st)) := by
 have HI0 := hid hI
 have HK0 := hid (Kr.refl R.T row w)
 unfold PosS
 cases st with
 | none =>
  have hz : pickS R.sg (exprF R.sg N f) d none = (0, none) := stepM_none (N := N) (fun m d => exprF_none f m d) .pick d
  rw [hz]
  obtain ⟨a, b, AN, cN, l, hc, hb, hrow⟩ := hI
  obtain ⟨c0, c1, c2, c3, c4, cf, cz⟩ := hc.cs hi
  obtain rfl : b = true := hb
  clear hc hrow c0 c1 c3 c4 hz
  go_enter func133, ntmps133
  go_wp2
  go_ret
  exact ⟨rfl, row, HI0.out, HK0.out⟩
 | some s =>
  have hnC := hn.same (r' := 9) (by omega) (adv_nest d (some s))
  have HC := hid (fun (row : Option Nat) (W : World) (h : RdI R (d + 1) (nestS d (some s)) row W) => HE.chain R.U 0 (d + 1) (nestS d (some s)) row W h (by omega) hnC (by omega) hdp.nest)
  have hadv := (adv_nest d (some s)).trans (adv_expr (sg := R.sg) (N := N) f (.chain 0) (d + 1) (nestS d (some s)))
  have hadn := adv_expr (sg := R.sg) (N := N) f (.chain 0) (d + 1) (nestS d (some s))
  have hdn := hdp.nest
  have hle : ∀ (d' : Nat) (row : Option Nat) (W : World) (t : PS), RdI R d' (some t) row W → t.at_ ≤ R.n := fun d' row W t h => (h.le rfl).1
  have hlen := hI.ok.len
  have hd20 := hdp s rfl
  obtain ⟨a, b, AN, cN, l, hc, hb, hrow⟩ := id hI
  obtain ⟨c0, c1, c2, c3, c4, cf, cz⟩ := hc.cs hi
  obtain ⟨rfl, _, _⟩ := hb
  clear hc hrow c0 c1 c4
  -- the reader one deeper
  have HDp : Hid ((d < 20 → RdI R (d + 1) (nestS d (some s)) row (w.setCell ⟨R.T, 3, none⟩ (.int .i64 ((d : Int) + 1))) ∧ Kr R.T row w row (w.setCell ⟨R.T, 3, none⟩ (.int .i64 ((d : Int) + 1)))) ∧ (d = 20 → RdI R 21 none row ((w.setCell ⟨R.T, 3, none⟩ (.int .i64 21)).setCell ⟨R.T, 2, none⟩ (.bool true)) ∧ Kr R.T row w row ((w.setCell ⟨R.T, 3, none⟩ (.int .i64 21)).setCell ⟨R.T, 2, none⟩ (.bool true)))) :=
   (show _ ∧ _ from ⟨fun h => nest_go hi hI h, fun h => by subst h; exact nest_bad hi hI⟩)
  have hn20 : d = 20 → nestS d (some s) = none := fun e => if_pos e
  unfold PosS at HC
  unfold pickS
  dsimp only
  generalize hNS : nestS d (some s) = stn at *
  generalize exprF R.sg N f (.chain 0) (d + 1) stn = r at HC hadv hadn ⊢
  obtain ⟨k0, st1⟩ := r
  dsimp only at HC hadv hadn ⊢
  have HN20 := hid hn20
  rcases bft (isM R.sg st1 ⟨#[63]⟩) with hM | hM
  ·rw [if_pos hM]
   have hsk := skipIf_yes hM
   obtain ⟨t, et, hlt⟩ := isM_lt hM
   obtain ⟨s', es, ha, _⟩ := hadv t et
   obtain rfl := Option.some.inj es
   have hsn : s.at_ < R.n := by omega
   have hd1 := hdn.adv (hadn.trans (adv_skip st1))
   have HP1 := hid (fun (row : Option Nat) (W : World) (h : RdI R (d + 1) (skipS st1) row W) => HE.pick R.U (d + 1) (skipS st1) row W h (hn.next hsn (hadv.trans (adv_skip _)) (by omega)) (by omega) hd1)
   have hadv2 := (hadv.trans (adv_skip st1)).trans (adv_expr (sg := R.sg) (N := N) f .pick (d + 1) (skipS st1))
   have hd2 := hd1.adv (adv_expr (sg := R.sg) (N := N) f .pick (d + 1) (skipS st1))
   unfold PosS at HP1
   generalize exprF R.sg N f .pick (d + 1) (skipS st1) = r2 at HP1 hadv2 hd2 ⊢
   obtain ⟨k1, st2⟩ := r2
   dsimp only at HP1 hadv2 hd2 ⊢
   have HP2 := hid (fun (row : Option Nat) (W : World) (h : RdI R (d + 1) (takeS R.sg st2 ⟨#[58]⟩) row W) => HE.pick R.U (d + 1) (takeS R.sg st2 ⟨#[58]⟩) row W h (hn.next hsn (hadv2.trans (adv_take _ _)) (by omega)) (by omega) (hd2.adv (adv_take _ _)))
   unfold PosS at HP2
   generalize exprF R.sg N f .pick (d + 1) (takeS R.sg st2 ⟨#[58]⟩) = r3 at HP2 ⊢
   obtain ⟨k2, st3⟩ := r3
   dsimp only at HP2 ⊢
   have HSk := hid hsk
   have HMh := hid hM
   -- too deep: nothing comes
   have hlt20 : d < 20 := by
    rcases Nat.lt_or_ge d 20 with h | h
    ·exact h
    ·have e20 : d = 20 := by omega
     have e1 := hn20 e20
     obtain ⟨s2, e2, _⟩ := hadn t et
     rw [e1] at e2
     cases e2
   have HD1 := hid (HDp.out.1 hlt20)
   have hg20 : ¬ (20 : Int) < (d : Int) + 1 := by omega
   have hg21 : decide ((20 : Int) < (d : Int) + 1) = false := decide_eq_false hg20
   have hwd : IntKind.i64.wrap ((d : Int) + 1) = (d : Int) + 1 := IntWalk.i64_in _ (by omega)
   clear hI hn hadv hadv2 hle hlen hM hsk et ha hlt hnC hn20 HN20 HDp hd1 hd2 hdp hdn hadn hNS
   go_enter func133, ntmps133
   go_wp2_with fail
   refine (HC.out _ _ HD1.out.1).mono ?_
   rintro e w2 ⟨rfl, row2, h2, k2'⟩
   have HI2 := hid h2
   have HK2 := hid (HD1.out.2.trans k2')
   clear h2 k2' c2 c3 cf cz HD1
   go_wp2_with fail
   refine (mark_any R hi (d + 1) st1 row2 ⟨#[63]⟩ w2 HI2.out).mono ?_
   rw [HMh.out, HSk.out]
   rintro e w3 ⟨rfl, row3, h3, k3⟩
   have HK3 := keep_kr HK2 k3
   have HI3 := hid h3
   clear h3 k3
   go_wp2_with fail
   refine pst (HP1.out _ _ HI3.out) HK3 ?_
   intro w4 row4 HI4 HK4
   go_wp2_with fail
   refine pst (wants_any R hi (d + 1) st2 row4 ⟨#[58]⟩ w4 HI4.out) HK4 ?_
   intro w5 row5 HI5 HK5
   go_wp2_with fail
   refine pst (HP2.out _ _ HI5.out) HK5 ?_
   intro w6 row6 HI6 HK6
   have HLo6 := hid HI6.out.lo
   go_wp2_with fail
   refine pst (putK R.U hi (d + 1) st3 row6 8 noT (some ⟨w6.heap.size, 0, none⟩) 3 3 [k0, k1, k2] w6.heap.size _ (HI6.out.alloc _) (kid3 w6 k0 k1 k2) HLo6.out) HK6 ?_
   intro w7 row7 HI7 HK7
   obtain ⟨c3, cf, cz, hF1, hF2⟩ := nest_s3 hi HI7.out
   have HF := hid (And.intro hF1 (HK7.out.trans hF2))
   clear hF1 hF2
   go_wp2
   go_ret
   exact ⟨rfl, row7, HF.out.1, HF.out.2⟩
  ·rw [if_neg (by rw [hM]; decide)]
   have HSk := hid (skipIf_no hM)
   have HMh := hid hM
   clear hI hn hadv hle hlen hM hnC hdp hdn hadn hn20
   rcases Nat.lt_or_ge d 20 with hlt20 | hge20
   ·have HD1 := hid (HDp.out.1 hlt20)
    have hg20 : ¬ (20 : Int) < (d : Int) + 1 := by omega
    have hg21 : decide ((20 : Int) < (d : Int) + 1) = false := decide_eq_false hg20
    have hwd : IntKind.i64.wrap ((d : Int) + 1) = (d : Int) + 1 := IntWalk.i64_in _ (by omega)
    clear HN20 HDp hNS
    go_enter func133, ntmps133
    go_wp2_with fail
    refine (HC.out _ _ HD1.out.1).mono ?_
    rintro e w2 ⟨rfl, row2, h2, k2'⟩
    have HI2 := hid h2
    have HK2 := hid (HD1.out.2.trans k2')
    clear h2 k2' c2 c3 cf cz HD1
    go_wp2_with fail
    refine (mark_any R hi (d + 1) st1 row2 ⟨#[63]⟩ w2 HI2.out).mono ?_
    rw [HMh.out, HSk.out]
    rintro e w3 ⟨rfl, row3, h3, k3⟩
    have HK3 := keep_kr HK2 k3
    obtain ⟨c3, cf, cz, hF1, hF2⟩ := nest_s3 (U := R.U) hi h3
    have HF := hid (And.intro hF1 (HK3.out.trans hF2))
    clear h3 k3 hF1 hF2
    go_wp2
    go_ret
    exact ⟨rfl, row3, HF.out.1, HF.out.2⟩
   ·obtain rfl : d = 20 := by omega
    have HD1 := hid (HDp.out.2 rfl)
    have e0 := HN20.out rfl
    subst e0
    clear HN20 HDp hNS hge20
    go_enter func133, ntmps133
    go_wp2_with fail
    refine (HC.out _ _ HD1.out.1).mono ?_
    rintro e w2 ⟨rfl, row2, h2, k2'⟩
    have HI2 := hid h2
    have HK2 := hid (HD1.out.2.trans k2')
    clear h2 k2' c2 c3 cf cz HD1
    go_wp2_with fail
    refine (mark_any R hi (20 + 1) st1 row2 ⟨#[63]⟩ w2 HI2.out).mono ?_
    rw [HMh.out, HSk.out]
    rintro e w3 ⟨rfl, row3, h3, k3⟩
    have HK3 := keep_kr HK2 k3
    obtain ⟨c3, cf, cz, hF1, hF2⟩ := nest_s3 (U := R.U) hi h3
    have HF := hid (And.intro hF1 (HK3.out.trans hF2))
    clear h3 k3 hF1 hF2
    go_wp2
    go_ret
    exact ⟨rfl, row3, HF.out.1, HF.out.2⟩
section
variable {R : RC} (U : Nat → Prop) (hi : R.imp = false) (d lo : Nat) (one : RdSt → PR) (HO : Hid (OneSp R 105 d lo one)) (h1 : ∀ st, Adv 1 1 st (one st).2) (m : ByteArray) (N : Nat) (st : RdSt) (row : Option Nat) (w : World)
 (hI : RdI { R with U := U } d st row w) (hlo : LoB lo st) (hN : R.n < N)
include hi HO h1 hI hlo hN
theorem values1 (k : Int) : Calls prog 134 #[.pointer (some ⟨R.T, 0, none⟩), .string m, .slice (some ⟨w.heap.size, 0, none⟩) 1 1] (w.alloc (.cells #[.int .i64 k] 3)) fun e w' => ∃ (A : Option Addr) (n c : Nat), e = .returned (.slice A n c) ∧ Mine w' w.heap.size 3 1 A n c (intCells (k :: (listF R.sg one m N [] st).1)) ∧ ∃ row', RdI { R with U := U } d (takeS R.sg (listF R.sg one m N [] st).2 m) row' w' ∧ Kr R.T row w row' w' := by
 refine (values_any { R with U := U } hi d lo one HO h1 m N st row row (w.alloc (.cells #[.int .i64 k] 3)) w [k] (some ⟨w.heap.size, 0, none⟩) 1 (hI.res_new ((Below.refl _ _).alloc (Nat.le_refl _) _) (fun g hg => by simp at hg; subst hg; simp)) (kid1 w k) (Kr.of_below ((Below.refl _ _).alloc (Nat.le_refl _) _)) hI.lo.1 (by simp) hlo (enough_of hN _)).mono ?_
 rintro e w' ⟨A, n, c, rfl, _, hm, _, row', h, k'⟩
 exact ⟨A, n, c, rfl, hm, row', h.unres, k'⟩
theorem values0 : Calls prog 134 #[.pointer (some ⟨R.T, 0, none⟩), .string m, .slice (some ⟨w.heap.size, 0, none⟩) 0 0] (w.alloc (.cells #[] 3)) fun e w' => ∃ (A : Option Addr) (n c : Nat), e = .returned (.slice A n c) ∧ Mine w' w.heap.size 3 1 A n c (intCells (listF R.sg one m N [] st).1) ∧ ∃ row', RdI { R with U := U } d (takeS R.sg (listF R.sg one m N [] st).2 m) row' w' ∧ Kr R.T row w row' w' := by
 refine (values_any { R with U := U } hi d lo one HO h1 m N st row row (w.alloc (.cells #[] 3)) w [] (some ⟨w.heap.size, 0, none⟩) 0 (hI.res_new ((Below.refl _ _).alloc (Nat.le_refl _) _) (fun g hg => by simp at hg; subst hg; simp)) (kid0 w) (Kr.of_below ((Below.refl _ _).alloc (Nat.le_refl _) _)) hI.lo.1 (by simp) hlo (enough_of hN _)).mono ?_
 rintro e w' ⟨A, n, c, rfl, _, hm, _, row', h, k'⟩
 exact ⟨A, n, c, rfl, hm, row', h.unres, k'⟩
end
theorem callS_eq {sg : List SgP} (one : RdSt → PR) (N : Nat) (k : Int) (st : RdSt) : addS (takeS sg (listF sg one ⟨#[41]⟩ N [] (takeS sg st ⟨#[40]⟩)).2 ⟨#[41]⟩) ⟨5, noT, k :: (listF sg one ⟨#[41]⟩ N [] (takeS sg st ⟨#[40]⟩)).1, false⟩ = callS sg one N k st := rfl
theorem svalue_step (R : RC) (hi : R.imp = false) (N f : Nat) (hN : R.n < N) (HE : SC R N f) (d : Nat) (st : RdSt) (row : Option Nat) (w : World) (hI : RdI R d st row w) (hn : Need R.n st 11 (f + 1)) (hd : d + (f + 1) ≤ 100000) (hdp : Deep d st) :
  Calls prog 105 #[.pointer (some ⟨R.T, 0, none⟩)] w (Does R d row w (.int .i64 (valueS R.sg (exprF R.sg N f) N d st).1) (valueS R.sg (exprF R.sg N f) N d st).2) := by
 have HI0 := hid hI
 have HK0 := hid (Kr.refl R.T row w)
 have HLo := hid hI.lo
 have hnP := hn.same (r' := 10) (by omega) (Adv.refl st)
 have HP := hid (HE.pick R.U d st row w hI hnP (by omega) hdp)
 have hadv := adv_expr (sg := R.sg) (N := N) f .pick d st
 have h1 : ∀ st, Adv 1 1 st (exprF R.sg N f .value d st).2 := fun st => adv_expr f .value d st
 have hlen := hI.ok.len
 unfold PosS at HP
 unfold Does
 unfold valueS
 generalize exprF R.sg N f .pick d st = r at HP hadv ⊢
 obtain ⟨k0, st1⟩ := r
 dsimp only at HP hadv ⊢
 rcases bft (isM R.sg st1 ⟨#[46, 46]⟩) with hM | hM
 ·rw [if_pos hM]
  obtain ⟨t, et, hlt⟩ := isM_lt hM
  obtain ⟨s, es, ha, hnd⟩ := hadv t et
  subst es
  have hsn : s.at_ < R.n := by omega
  have HO := hid (HE.one (d := d) (by omega) hn hsn (hdp s rfl))
  have HA := hid h1
  have HMh := hid hM
  have HLB : Hid (LoB (s.at_ + 1) st1) := (show LoB _ _ from fun t' e => by rw [et] at e; obtain rfl := Option.some.inj e; omega)
  have HKB0 : Hid (KidB [k0] st1) := (show KidB _ _ from ⟨by simp, fun t' e => by rw [et] at e; obtain rfl := Option.some.inj e; simp; omega⟩)
  obtain ⟨Q, hQ⟩ : ∃ Q, cascF R.sg (exprF R.sg N f .value d) N N [k0] st1 = Q := ⟨_, rfl⟩
  rw [hQ]
  have HQ := hid hQ
  generalize exprF R.sg N f .value d = one at HO HA HQ
  obtain ⟨i0, hi0, hz0, hz1, hz2⟩ := info_parts infoInt
  have HII := hid (And.intro hi0 (And.intro hz0 (And.intro hz1 hz2)))
  clear hi0 hz0 hz1 hz2 hI hn hadv hlen hM et ha hlt hnP hQ h1 hnd hdp
  go_enter func105, ntmps105
  go_wp2_with fail
  refine pst (HP.out) HK0 ?_
  intro w1 row1 HI1 HK1
  go_wp2_with fail
  refine (sis_any R hi d st1 row1 4 (by decide) ⟨#[46, 46]⟩ w1 HI1.out).mono ?_
  rw [isM_isKm, HMh.out]
  rintro e w2 ⟨rfl, h2⟩
  have HI2 := hid (HI1.out.next h2)
  have HK2 := hid (HK1.out.below h2)
  clear h2
  go_upto_region 5 with fail
  have hz2 := HK2.out.size
  have HM0 := hid ((kid1 w2 k0).more (B' := w.heap.size) (by omega))
  have HI3 := hid (HI2.out.res_new (A := some ⟨w2.heap.size, 0, none⟩) ((Below.refl _ _).alloc (Nat.le_refl _) (.cells #[.int .i64 k0] 3)) (fun g hg => by simp at hg; subst hg; simp))
  have HK3 := hid (HK2.out.below ((Below.refl _ _).alloc (Nat.le_refl _) (.cells #[.int .i64 k0] 3)))
  generalize w2.alloc (.cells #[.int .i64 k0] 3) = w3 at HM0 HI3 HK3 ⊢
  go_loopw [4] (fun v wr => ∃ (M : Nat) (ks : List Int) (st' : RdSt) (row' : Option Nat) (A : Option Addr) (c : Nat), v = .slice A ks.length c ∧ Hid (cascF R.sg one N M ks st' = Q) ∧ Hid (LoB (s.at_ + 1) st') ∧ Hid (Enough R.n M st') ∧ Hid (KidB ks st') ∧ Hid (Mine wr w.heap.size 3 1 A ks.length c (intCells ks)) ∧ Hid (RdI (R.res A) d st' row' wr) ∧ Hid (Kr R.T row w row' wr)) (fun _ wr => measP R wr)
  case atStart => exact ⟨N, [k0], st1, row1, _, 1, rfl, HQ, HLB, (show Enough _ _ _ from enough_of hN _), HKB0, HM0, HI3, HK3⟩
  case round =>
   clear HQ HLB HI0 HI1 HI2 HI3 HK0 HK1 HK2 HK3 HM0 HKB0 HP
   obtain ⟨M, ks, st', row', A, c, rfl, HQ, HLB, HEn, HKB, HM, HI, HK⟩ := hrel
   have HS := hid (mark_u _ hi d st' row' ⟨#[46, 46]⟩ wr HI.out)
   rcases bft (isM R.sg st' ⟨#[46, 46]⟩) with hM | hM
   ·obtain ⟨s', es', hlt'⟩ := isM_lt hM
    subst es'
    obtain ⟨M, rfl⟩ : ∃ M', M = M' + 1 := ⟨M - 1, by
     have h1 := HEn.out s' rfl
     have h2 := (HI.out.le rfl).1
     have : (R.res A).n = R.n := rfl
     omega⟩
    rw [hM, skipIf_yes hM] at HS
    have hq := HQ.out
    unfold cascF at hq
    rw [if_pos hM] at hq
    have hadv2 := ((adv_skip (some s')).trans (adv_nameNode (sg := R.sg) _)).trans (adv_call (sg := R.sg) HA.out N (nameNodeS R.sg (skipS (some s'))).1 (nameNodeS R.sg (skipS (some s'))).2)
    have hadv1 := (adv_skip (some s')).trans (adv_nameNode (sg := R.sg) (skipS (some s')))
    have HE1 := hid (nameNode_eq (sg := R.sg) (skipS (some s')))
    generalize nameNodeS R.sg (skipS (some s')) = r2 at hq hadv2 hadv1 HE1
    obtain ⟨nm, st2⟩ := r2
    dsimp only at hq hadv2 hadv1
    have HE2 := hid (callS_eq (sg := R.sg) one N nm st2)
    generalize callS R.sg one N nm st2 = r3 at hq hadv2 HE2
    obtain ⟨kc, st3⟩ := r3
    dsimp only at hq hadv2
    have HQ2 := hid hq
    have HAD := hid hadv2
    have hnb := (HI.out.le rfl).2
    have hkb1 := HKB.out.2 s' rfl
    have hkb := HKB.out.1
    have HAK : Hid (KidB (ks ++ [kc]) st3) := (show KidB _ _ from ⟨by rw [lA]; simp; omega, fun t e => by
     obtain ⟨s'', e2, _, h3⟩ := hadv2 t e
     obtain rfl := Option.some.inj e2
     rw [lA]
     simp
     omega⟩)
    have HAN : Hid (Enough R.n M st3) := HEn.out.adv (i := 2) hadv2
    have HAL : Hid (LoB (s.at_ + 1) st3) := HLB.out.adv hadv2
    have HL2 : Hid (LoB (s.at_ + 1) (takeS R.sg st2 ⟨#[40]⟩)) := (HLB.out.adv hadv1).adv (adv_take _ _)
    have hlk : (ks ++ [kc]).length = ks.length + 1 := by simp
    clear hq hM HQ hadv2 hadv1 hlt'
    go_wp2_with fail
    refine HS.out.mono ?_
    rintro e w4 ⟨rfl, row4, h4, k4⟩
    have HM4 := hid (HI.out.keepI k4 HM.out)
    have HI4 := hid h4
    have HK4 := hid (HK.out.trans k4)
    clear h4 k4 HS
    go_wp2_with fail
    refine (textN_u _ hi d (skipS (some s')) row4 w4 HI4.out).mono ?_
    rintro e w5 ⟨rfl, row5, h5, k5⟩
    have HM5 := hid (HI4.out.keepI k5 HM4.out)
    have HI5 := hid h5
    have HK5 := hid (HK4.out.trans k5)
    have HLo5 := hid HI5.out.lo
    clear h5 k5 HM4 HI4 HK4
    have HP6 := hid (putK (fun x => R.U x ∨ A.map (·.block) = some x) hi d (nmS R.sg (skipS (some s'))) row5 1 (nmT R.sg (skipS (some s'))) _ 0 0 [] w5.heap.size (w5.alloc (.cells #[] 3)) (HI5.out.next ((Below.refl _ _).alloc (Nat.le_refl _) _)) (kid0 w5) HLo5.out)
    rw [HE1.out] at HP6
    dsimp only at HP6
    go_wp2_with fail
    refine HP6.out.mono ?_
    rintro e w6 ⟨rfl, row6, h6, k6⟩
    have HM6 := keep_row HI5 k6 HM5
    have HK6 := keep_kr HK5 k6
    have HI6 := hid h6
    clear h6 k6 HP6 HM5 HI5 HK5 HE1 HLo5
    go_wp2_with fail
    refine (wants_u _ hi d st2 row6 ⟨#[40]⟩ w6 HI6.out).mono ?_
    rintro e w7 ⟨rfl, row7, h7, k7⟩
    have HM7 := hid (HI6.out.keepI k7 HM6.out)
    have HI7 := hid h7
    have HK7 := hid (HK6.out.trans k7)
    have HLo7 := hid HI7.out.lo
    clear h7 k7 HM6 HI6 HK6
    go_wp2_with fail
    refine (values1 _ hi d (s.at_ + 1) one HO HA.out ⟨#[41]⟩ N _ row7 w7 HI7.out HL2.out hN nm).mono ?_
    rintro e w8 ⟨A8, n8, c8, rfl, m8, row8, h8, k8⟩
    have HM8 := hid (HI7.out.keepI k8 HM7.out)
    have HR8 := hid m8
    have HI8 := hid h8
    have HK8 := hid (HK7.out.trans k8)
    clear h8 k8 m8 HM7 HI7 HK7
    have HP9 := hid (putK (fun x => R.U x ∨ A.map (·.block) = some x) hi d _ row8 5 noT A8 n8 c8 _ w7.heap.size w8 HI8.out HR8.out HLo7.out)
    rw [HE2.out] at HP9
    dsimp only at HP9
    go_wp2_with fail
    refine HP9.out.mono ?_
    rintro e w9 ⟨rfl, row9, h9, k9⟩
    have HM9 := hid (HI8.out.keepI k9 HM8.out)
    have HI9 := hid h9
    have HK9 := hid (HK8.out.trans k9)
    clear h9 k9 HP9 HM8 HI8 HK8 HR8 HE2 HLo7
    have hz6 := HK9.out.size
    have HB0 := hid HLo.out.1
    go_wp2_with (at_builtin; (refine wpList_append_row _ rfl (.tmp 28) (.tmp 32) _ rfl w.heap.size 3 i0 (.int .i64 0) 1 8 underlying34 HII.out.1 HII.out.2.1 HII.out.2.2.1 HII.out.2.2.2 rfl (by decide) (.slice A ks.length c) ks.length (intCells ks) rfl (Mine.alloc HM9.out _) ⟨w9.heap.size, 0, none⟩ 1 1 [.int .i64 kc] rfl rfl (int_new _ kc _) (int_one _) (by unfold maxLen; omega) (by omega) (by simp; omega) ?_); intro v' wA hown7 hg7 hwh7; obtain ⟨A7, c7, rfl, h7, m7⟩ := RdI.appended HI9.out HM9.out HB0.out ((Below.refl _ _).alloc (Nat.le_refl _) _) hown7 hg7 hwh7)
    have HKA := hid ((HK9.out.below ((Below.refl _ _).alloc (Nat.le_refl _) _)).grown hg7 (fun g hg => by rw [ownBlk] at hg; exact (Mine.blk HM9.out hg).1))
    rw [← ints_snoc] at m7
    have HIA := hid h7
    have HMA := hid m7
    clear hown7 hg7 hwh7 h7 m7 HI9 HM9 HK9
    go_wp2
    go_roundw
    case rel => exact ⟨M, ks ++ [kc], st3, row9, A7, c7, by rw [hlk], HQ2, HAL, HAN, HAK, by rw [hlk]; exact HMA, HIA, HKA⟩
    case measure => exact measp_u hi HI.out HIA.out (HAD.out.weak (i' := 1) (j' := 0) (by omega) (by omega))
   ·rw [hM, skipIf_no hM] at HS
    have hq := HQ.out
    have hq2 : Q = (ks, st') := by
     cases M with
     | zero => exact hq.symm
     | succ M => unfold cascF at hq; rw [hM, if_neg (by decide)] at hq; exact hq.symm
    subst hq2
    clear HQ hq hM
    go_wp2_with fail
    refine HS.out.mono ?_
    rintro e w4 ⟨rfl, row4, h4, k4⟩
    have HM4 := hid (HI.out.keepI k4 HM.out)
    have HI4 := hid h4.unres
    have HK4 := hid (HK.out.trans k4)
    clear h4 k4 HS HM HI HK
    go_wp2_with fail
    refine (putK R.U hi d st' row4 10 noT A ks.length c ks w.heap.size w4 HI4.out HM4.out HLo.out).mono ?_
    rintro e w5 ⟨rfl, row5, h5, k5⟩
    go_wp2
    go_ret
    exact ⟨rfl, row5, h5, HK4.out.trans k5⟩
 ·rw [if_neg (by rw [hM]; decide)]
  have HMh := hid hM
  clear hI hn hadv hlen hM hnP h1 hdp
  go_enter func105, ntmps105
  go_wp2_with fail
  refine pst (HP.out) HK0 ?_
  intro w1 row1 HI1 HK1
  go_wp2_with fail
  refine (sis_any R hi d st1 row1 4 (by decide) ⟨#[46, 46]⟩ w1 HI1.out).mono ?_
  rw [isM_isKm, HMh.out]
  rintro e w2 ⟨rfl, h2⟩
  go_wp2
  go_ret
  exact ⟨rfl, row1, HI1.out.next h2, HK1.out.below h2⟩
theorem end_dot {sg : List SgP} (one : RdSt → PR) (N n : Nat) (k : Int) (s : PS) (h1 : isM sg (some s) ⟨#[40]⟩ = false) (h2 : isM sg (some s) ⟨#[46]⟩ = true) :
  endF sg one N (n + 1) k (some s) = endF sg one N n (addS (nmS sg (skipS (some s))) ⟨6, nmT sg (skipS (some s)), [k], false⟩).1 (addS (nmS sg (skipS (some s))) ⟨6, nmT sg (skipS (some s)), [k], false⟩).2 := by
 rw [endF, if_neg (show ¬ (some s).isNone = true by simp), if_neg (by rw [h1]; decide), if_pos h2]
 unfold nmS nmT
 by_cases hN : nameS sg (skipS (some s)) 0 = true
 ·rw [if_pos hN, if_pos hN, if_pos hN, add_skip (skipS (some s))]
 ·rw [if_neg hN, if_neg hN, if_neg hN, addS_none, endF_none]
theorem send_step (R : RC) (hi : R.imp = false) (N f : Nat) (hN : R.n < N) (HE : SC R N f) (d : Nat) (st : RdSt) (row : Option Nat) (w : World) (hI : RdI R d st row w) (hn : Need R.n st 2 (f + 1)) (hd : d + (f + 1) ≤ 100000) (hdp : Deep d st) :
  Calls prog 206 #[.pointer (some ⟨R.T, 0, none⟩)] w (Does R d row w (.int .i64 (endS R.sg (exprF R.sg N f) N d st).1) (endS R.sg (exprF R.sg N f) N d st).2) := by
 have HI0 := hid hI
 have HK0 := hid (Kr.refl R.T row w)
 have hnP := hn.same (r' := 1) (by omega) (Adv.refl st)
 have HP := hid (HE.base R.U d st row w hI hnP (by omega) hdp)
 have hadv := adv_expr (sg := R.sg) (N := N) f .base d st
 have HA := hid (fun st => adv_expr (sg := R.sg) (N := N) f .value d st)
 have hlen := hI.ok.len
 unfold PosS at HP
 unfold Does
 unfold endS
 generalize exprF R.sg N f .base d st = r at HP hadv ⊢
 obtain ⟨k0, st1⟩ := r
 dsimp only at HP hadv ⊢
 have HO : Hid (∀ s, st = some s → s.at_ < R.n → OneSp R 105 d (s.at_ + 1) (exprF R.sg N f .value d)) := (show ∀ s, _ → _ → _ from fun s e hlt => HE.one (d := d) (by omega) (by rw [← e]; exact hn) hlt (hdp s e))
 have HAD0 := hid hadv
 obtain ⟨Q, hQ⟩ : ∃ Q, endF R.sg (exprF R.sg N f .value d) N N k0 st1 = Q := ⟨_, rfl⟩
 rw [hQ]
 have HQ := hid hQ
 generalize exprF R.sg N f .value d = one at HO HA HQ
 clear hI hn hadv hnP hQ hdp
 go_enter func206, ntmps206
 go_wp2_with fail
 refine pst (HP.out) HK0 ?_
 intro w1 row1 HI1 HK1
 go_upto_region 2 with fail
 go_loopw [3] (fun v wr => ∃ (M : Nat) (k : Int) (st' : RdSt) (row' : Option Nat), v = .int .i64 k ∧ Hid (endF R.sg one N M k st' = Q) ∧ Hid (Adv 1 1 st st') ∧ Hid (Enough R.n M st') ∧ Hid (RdI R d st' row' wr) ∧ Hid (Kr R.T row w row' wr)) (fun _ wr => measP R wr)
 case atStart => exact ⟨N, k0, st1, row1, rfl, HQ, HAD0, (show Enough _ _ _ from enough_of hN _), HI1, HK1⟩
 case round =>
  clear HQ HAD0 HI0 HI1 HK0 HK1 HP
  obtain ⟨M, k, st', row', rfl, HQ, HAD, HEn, HI, HK⟩ := hrel
  cases st' with
  | none =>
   obtain ⟨a, b, AN, cN, l, hc, hb, hrow⟩ := HI.out
   obtain ⟨c0, c1, c2, c3, c4, cf, cz⟩ := hc.cs hi
   obtain rfl : b = true := hb
   have hq := HQ.out
   rw [endF_none] at hq
   subst hq
   clear hc c0 c1 c3 c4 hrow HQ
   go_wp2
   go_ret
   exact ⟨rfl, row', HI.out, HK.out⟩
  | some s' =>
   obtain ⟨s, es, ha, hnd⟩ := HAD.out s' rfl
   obtain ⟨M, rfl⟩ : ∃ M', M = M' + 1 := ⟨M - 1, by
    have h1 := HEn.out s' rfl
    have h2 := (HI.out.le rfl).1
    omega⟩
   have hle' := (HI.out.le rfl).1
   have HO2 := hid (HO.out s es (by omega))
   have HLB : Hid (LoB (s.at_ + 1) (some s')) := (show LoB _ _ from fun t' e => by obtain rfl := Option.some.inj e; omega)
   obtain ⟨a, b, AN, cN, l, hc, hb, hrow⟩ := HI.out
   obtain ⟨c0, c1, c2, c3, c4, cf, cz⟩ := hc.cs hi
   obtain ⟨rfl, _, _⟩ := hb
   have HIs := hid (mark_u R.U hi d (some s') row' ⟨#[40]⟩ wr HI.out)
   clear hc c0 c1 c3 c4 hrow es ha hnd
   rcases bft (isM R.sg (some s') ⟨#[40]⟩) with hM | hM
   ·rw [hM, skipIf_yes hM] at HIs
    have hq := HQ.out
    rw [endF, if_neg (show ¬ (some s').isNone = true by simp), if_pos hM] at hq
    have hadv2 := adv_call (sg := R.sg) HA.out N k (some s')
    have hce := callS_eq (sg := R.sg) one N k (some s')
    rw [take_yes hM] at hce
    have HCE := hid hce
    generalize callS R.sg one N k (some s') = r3 at hq hadv2 HCE
    obtain ⟨kc, st3⟩ := r3
    dsimp only at hq hadv2
    have HQ2 := hid hq
    have HAD2 := hid hadv2
    have HAN : Hid (Enough R.n M st3) := HEn.out.adv (i := 0) hadv2
    have HAL : Hid (Adv 1 1 st st3) := (HAD.out.trans hadv2).weak (by omega) (by omega)
    have HL2 : Hid (LoB (s.at_ + 1) (skipS (some s'))) := HLB.out.adv (adv_skip _)
    clear hq hM hadv2 hce HQ
    go_wp2_with fail
    refine HIs.out.mono ?_
    rintro e w2 ⟨rfl, row2, h2, k2⟩
    have HI2 := hid h2
    have HK2 := hid (HK.out.trans k2)
    have HLo2 := hid h2.lo
    clear h2 k2 HIs c2 cf cz
    go_wp2_with fail
    refine (values1 R.U hi d (s.at_ + 1) one HO2 HA.out ⟨#[41]⟩ N _ row2 w2 HI2.out HL2.out hN k).mono ?_
    rintro e w3 ⟨A3, n3, c3, rfl, m3, row3, h3, k3⟩
    have HR3 := hid m3
    have HI3 := hid h3
    have HK3 := hid (HK2.out.trans k3)
    clear h3 k3 m3
    have HP4 := hid (putK R.U hi d _ row3 5 noT A3 n3 c3 _ w2.heap.size w3 HI3.out HR3.out HLo2.out)
    rw [HCE.out] at HP4
    dsimp only at HP4
    go_wp2_with fail
    refine HP4.out.mono ?_
    rintro e w4 ⟨rfl, row4, h4, k4⟩
    have HI4 := hid h4
    have HK4 := hid (HK3.out.trans k4)
    clear h4 k4 HP4 HCE
    go_wp2
    go_roundw
    case rel => exact ⟨M, kc, st3, row4, rfl, HQ2, HAL, HAN, HI4, HK4⟩
    case measure => exact measp_u (U := R.U) (U' := R.U) hi HI.out HI4.out (HAD2.out.weak (i' := 1) (j' := 0) (by omega) (by omega))
   ·rw [hM, skipIf_no hM] at HIs
    rcases bft (isM R.sg (some s') ⟨#[46]⟩) with hD | hD
    ·have HS := hid (fun (row : Option Nat) (W : World) h => mark_u R.U hi d (some s') row ⟨#[46]⟩ W h)
     rw [hD, skipIf_yes hD] at HS
     have hq := HQ.out
     rw [end_dot one N M k s' hM hD] at hq
     have hadv2 := ((adv_skip (some s')).trans (adv_nm (sg := R.sg) (skipS (some s')))).trans (adv_add (nmS R.sg (skipS (some s'))) ⟨6, nmT R.sg (skipS (some s')), [k], false⟩)
     have HPx := hid (fun (row : Option Nat) (B : Nat) (W : World) (A : Option Addr) (n c : Nat) h hm hB => putK R.U hi d (nmS R.sg (skipS (some s'))) row 6 (nmT R.sg (skipS (some s'))) A n c [k] B W h hm hB)
     generalize addS (nmS R.sg (skipS (some s'))) ⟨6, nmT R.sg (skipS (some s')), [k], false⟩ = r3 at hq hadv2 HPx
     obtain ⟨kc, st3⟩ := r3
     dsimp only at hq hadv2 HPx
     have HQ2 := hid hq
     have HAD2 := hid hadv2
     have HAN : Hid (Enough R.n M st3) := HEn.out.adv (i := 1) hadv2
     have HAL : Hid (Adv 1 1 st st3) := (HAD.out.trans hadv2).weak (by omega) (by omega)
     clear hq hM hD hadv2 HQ
     go_wp2_with fail
     refine HIs.out.mono ?_
     rintro e w2 ⟨rfl, row2, h2, k2⟩
     have HI2 := hid h2
     have HK2 := hid (HK.out.trans k2)
     clear h2 k2 HIs c2 cf cz
     go_wp2_with fail
     refine (HS.out _ _ HI2.out).mono ?_
     rintro e w3 ⟨rfl, row3, h3, k3⟩
     have HI3 := hid h3
     have HK3 := hid (HK2.out.trans k3)
     clear h3 k3 HS
     go_wp2_with fail
     refine (textN_u R.U hi d (skipS (some s')) row3 w3 HI3.out).mono ?_
     rintro e w4 ⟨rfl, row4, h4, k4⟩
     have HI4 := hid h4
     have HK4 := hid (HK3.out.trans k4)
     have HLo4 := hid h4.lo
     clear h4 k4
     go_wp2_with fail
     refine pst (HPx.out row4 w4.heap.size (w4.alloc (.cells #[.int .i64 k] 3)) (some ⟨w4.heap.size, 0, none⟩) 1 1 (HI4.out.alloc _) (kid1 w4 k) HLo4.out) HK4 ?_
     intro w5 row5 HI5 HK5
     go_wp2
     go_roundw
     case rel => exact ⟨M, kc, st3, row5, rfl, HQ2, HAL, HAN, HI5, HK5⟩
     case measure => exact measp_u (U := R.U) (U' := R.U) hi HI.out HI5.out (HAD2.out.weak (i' := 1) (j' := 0) (by omega) (by omega))
    ·have HS := hid (fun (row : Option Nat) (W : World) h => mark_u R.U hi d (some s') row ⟨#[46]⟩ W h)
     rw [hD, skipIf_no hD] at HS
     have hq := HQ.out
     rw [endF, if_neg (show ¬ (some s').isNone = true by simp), if_neg (by rw [hM]; decide), if_neg (by rw [hD]; decide)] at hq
     subst hq
     clear hM hD HQ
     go_wp2_with fail
     refine HIs.out.mono ?_
     rintro e w2 ⟨rfl, row2, h2, k2⟩
     have HI2 := hid h2
     have HK2 := hid (HK.out.trans k2)
     clear h2 k2 HIs c2 cf cz
     go_wp2_with fail
     refine (HS.out _ _ HI2.out).mono ?_
     rintro e w3 ⟨rfl, row3, h3, k3⟩
     have HI3 := hid h3
     have HK3 := hid (HK2.out.trans k3)
     clear h3 k3 HS
     go_wp2
     go_ret
     exact ⟨rfl, row3, HI3.out, HK3.out⟩
theorem isM_kind {sg : List SgP} {st : RdSt} {m : ByteArray} (h : isM sg st m = true) : (sgAt sg st 0).1 = 4 := by
 unfold isM at h
 rw [Bool.and_eq_true] at h
 exact eq_of_beq h.1
theorem nameS_kind {sg : List SgP} {st : RdSt} (h : nameS sg st 0 = true) : (sgAt sg st 0).1 = 1 := by
 unfold nameS at h
 rw [Bool.and_eq_true] at h
 exact eq_of_beq h.1
theorem arrB_isM {sg : List SgP} {st : RdSt} (h : arrB sg st = true) : isM sg st ⟨#[40]⟩ = true := by
 unfold arrB at h
 rw [Bool.and_eq_true] at h
 exact h.1
theorem isM_not {sg : List SgP} {st : RdSt} {k : Int} (h : (sgAt sg st 0).1 = k) (hk : k ≠ 4) (m : ByteArray) : isM sg st m = false := by
 rcases bft (isM sg st m) with e | e
 ·exact absurd (h.symm.trans (isM_kind e)) hk
 ·exact e
theorem base_plain {sg : List SgP} {N f : Nat} (hm : MarksOk sg) (d : Nat) (st : RdSt) : baseS sg (exprF sg N f) N d st =
  if nameS sg st 0 = true then nameNodeS sg st else if ((sgAt sg st 0).1 == 2) = true then leafS sg 2 st else if ((sgAt sg st 0).1 == 3) = true then leafS sg 3 st
  else if isM sg st ⟨#[91]⟩ = true then listS sg (exprF sg N f) N d st else if arrB sg st = true then fnS sg (exprF sg N f) N d st else if isM sg st ⟨#[40]⟩ = true then parS sg (exprF sg N f) d st else (0, none) := by
 unfold baseS
 by_cases h1 : (sgAt sg st 0).1 = 1
 ·rw [if_pos h1]
  by_cases hn : nameS sg st 0 = true
  ·rw [if_pos hn]
  ·have e4 : ∀ m, isM sg st m = false := fun m => isM_not h1 (by decide) m
   rw [if_neg hn, if_neg (by rw [h1]; decide), if_neg (by rw [h1]; decide), if_neg (by rw [e4]; decide), if_neg (fun e => by have := arrB_isM e; rw [e4] at this; exact absurd this (by decide)), if_neg (by rw [e4]; decide)]
   unfold nameNodeS
   rw [if_neg hn]
 ·rw [if_neg h1, if_neg (fun e => h1 (nameS_kind e))]
  by_cases h2 : (sgAt sg st 0).1 = 2
  ·rw [if_pos h2, if_pos (by rw [h2]; decide)]
  ·rw [if_neg h2, if_neg (fun e => h2 (eq_of_beq e))]
   by_cases h3 : (sgAt sg st 0).1 = 3
   ·rw [if_pos h3, if_pos (by rw [h3]; decide)]
   ·rw [if_neg h3, if_neg (fun e => h3 (eq_of_beq e))]
    by_cases h91 : isM sg st ⟨#[91]⟩ = true
    ·rw [if_pos h91, if_pos h91]
    ·rw [if_neg h91, if_neg h91]
     rcases bft (arrB sg st) with ha | ha
     ·rw [if_pos ha, if_pos (arrB_isM ha)]
      rcases bft (fnB sg st) with hf | hf
      ·rw [if_pos hf]
      ·rw [if_neg (by rw [hf]; decide)]
       obtain ⟨e1, e2⟩ := arr_differ (N := N) (f := f) hm d st ha hf
       rw [e1, e2]
     ·rw [if_neg (show ¬ arrB sg st = true by rw [ha]; decide)]
      by_cases h40 : isM sg st ⟨#[40]⟩ = true
      ·rw [if_pos h40, if_pos h40]
       rcases bft (fnB sg st) with hf | hf
       ·rw [arr_same hm st h40 hf] at ha; cases ha
       ·rw [if_neg (by rw [hf]; decide)]
      ·rw [if_neg h40, if_neg h40]
theorem sbase_step (R : RC) (hi : R.imp = false) (hm : MarksOk R.sg) (N f : Nat) (hN : R.n < N) (HE : SC R N f) (d : Nat) (st : RdSt) (row : Option Nat) (w : World) (hI : RdI R d st row w) (hn : Need R.n st 1 (f + 1)) (hd : d + (f + 1) ≤ 100000) (hdp : Deep d st) :
  Calls prog 234 #[.pointer (some ⟨R.T, 0, none⟩)] w (Does R d row w (.int .i64 (baseS R.sg (exprF R.sg N f) N d st).1) (baseS R.sg (exprF R.sg N f) N d st).2) := by
 have HI0 := hid hI
 have HK0 := hid (Kr.refl R.T row w)
 unfold Does
 cases st with
 | none =>
  have hz : baseS R.sg (exprF R.sg N f) N d none = (0, none) := stepM_none (N := N) (fun m d => exprF_none f m d) .base d
  rw [hz]
  obtain ⟨a, b, AN, cN, l, hc, hb, hrow⟩ := hI
  obtain ⟨c0, c1, c2, c3, c4, cf, cz⟩ := hc.cs hi
  obtain rfl : b = true := hb
  clear hc hrow c0 c1 c3 c4 hz
  go_enter func234, ntmps234
  go_wp2
  go_ret
  exact ⟨rfl, row, HI0.out, HK0.out⟩
 | some s =>
  obtain ⟨a, b, AN, cN, l, hc, hb, hrow⟩ := id hI
  obtain ⟨c0, c1, c2, c3, c4, cf, cz⟩ := hc.cs hi
  obtain ⟨rfl, _, _⟩ := hb
  clear hc hrow c0 c1 c3 c4
  have hlen := hI.ok.len
  have hd20 := hdp s rfl
  rw [base_plain hm]
  have T1 := hid (fun (W : World) h => kindN_any R hi d (some s) row W h)
  rcases bft (nameS R.sg (some s) 0) with g1 | g1
  ·-- a name
   rw [if_pos g1]
   rw [g1] at T1
   have HEq := hid (nameNode_eq (sg := R.sg) (some s))
   generalize nameNodeS R.sg (some s) = r at HEq ⊢
   obtain ⟨k, st2⟩ := r
   dsimp only
   clear hI hn hdp g1 hlen
   go_enter func234, ntmps234
   go_wp2_with fail
   refine (T1.out _ HI0.out).mono ?_
   rintro e w1 ⟨rfl, h1⟩
   have HI1 := hid (HI0.out.next h1)
   have HK1 := hid (HK0.out.below h1)
   clear h1 c2 cf cz
   go_wp2_with fail
   refine pst (textN_u R.U hi d (some s) row w1 HI1.out) HK1 ?_
   intro w2 row2 HI2 HK2
   have HLo2 := hid HI2.out.lo
   have HP := hid (putK R.U hi d (nmS R.sg (some s)) row2 1 (nmT R.sg (some s)) _ 0 0 [] w2.heap.size (w2.alloc (.cells #[] 3)) (HI2.out.next ((Below.refl _ _).alloc (Nat.le_refl _) _)) (kid0 w2) HLo2.out)
   rw [HEq.out] at HP
   dsimp only at HP
   go_wp2_with fail
   refine pst (HP.out) HK2 ?_
   intro w3 row3 HI3 HK3
   go_wp2
   go_ret
   exact ⟨rfl, row3, HI3.out, HK3.out⟩
  ·rw [if_neg (by rw [g1]; decide)]
   rw [g1] at T1
   have T2 := hid (fun (W : World) h => kindK_any R hi d (some s) row 2 (by decide) (by decide) W h)
   rcases bft ((sgAt R.sg (some s) 0).1 == 2) with g2 | g2
   ·rw [if_pos g2]
    rw [g2] at T2
    have X2 := hid (fun (W : World) h => textK_any R hi d (some s) row 2 (by decide) (by decide) W h (eq_of_beq g2))
    unfold Does at X2
    have HEq := hid (leaf_eq (sg := R.sg) 2 (some s))
    generalize leafS R.sg 2 (some s) = r at HEq ⊢
    obtain ⟨k, st2⟩ := r
    generalize (sgAt R.sg (some s) 0).2.1 = tx at X2 HEq
    dsimp only
    clear hI hn hdp g1 g2 hlen
    go_enter func234, ntmps234
    go_wp2_with fail
    refine (T1.out _ HI0.out).mono ?_
    rintro e w1 ⟨rfl, h1⟩
    have HI1 := hid (HI0.out.next h1)
    have HK1 := hid (HK0.out.below h1)
    clear h1 c2 cf cz
    go_wp2_with fail
    refine (T2.out _ HI1.out).mono ?_
    rintro e w2 ⟨rfl, h2⟩
    have HI2 := hid (HI1.out.next h2)
    have HK2 := hid (HK1.out.below h2)
    clear h2
    go_wp2_with fail
    refine pst (X2.out w2 HI2.out) HK2 ?_
    intro w3 row3 HI3 HK3
    have HLo3 := hid HI3.out.lo
    have HP := hid (putK R.U hi d (skipS (some s)) row3 2 tx _ 0 0 [] w3.heap.size (w3.alloc (.cells #[] 3)) (HI3.out.next ((Below.refl _ _).alloc (Nat.le_refl _) _)) (kid0 w3) HLo3.out)
    rw [HEq.out] at HP
    dsimp only at HP
    go_wp2_with fail
    refine pst (HP.out) HK3 ?_
    intro w4 row4 HI4 HK4
    go_wp2
    go_ret
    exact ⟨rfl, row4, HI4.out, HK4.out⟩
   ·rw [if_neg (by rw [g2]; decide)]
    rw [g2] at T2
    have T3 := hid (fun (W : World) h => kindK_any R hi d (some s) row 3 (by decide) (by decide) W h)
    rcases bft ((sgAt R.sg (some s) 0).1 == 3) with g3 | g3
    ·rw [if_pos g3]
     rw [g3] at T3
     have X2 := hid (fun (W : World) h => textK_any R hi d (some s) row 3 (by decide) (by decide) W h (eq_of_beq g3))
     unfold Does at X2
     have HEq := hid (leaf_eq (sg := R.sg) 3 (some s))
     generalize leafS R.sg 3 (some s) = r at HEq ⊢
     obtain ⟨k, st2⟩ := r
     generalize (sgAt R.sg (some s) 0).2.1 = tx at X2 HEq
     dsimp only
     clear hI hn hdp g1 g2 g3 hlen
     go_enter func234, ntmps234
     go_wp2_with fail
     refine (T1.out _ HI0.out).mono ?_
     rintro e w1 ⟨rfl, h1⟩
     have HI1 := hid (HI0.out.next h1)
     have HK1 := hid (HK0.out.below h1)
     clear h1 c2 cf cz
     go_wp2_with fail
     refine (T2.out _ HI1.out).mono ?_
     rintro e w2 ⟨rfl, h2⟩
     have HI2 := hid (HI1.out.next h2)
     have HK2 := hid (HK1.out.below h2)
     clear h2
     go_wp2_with fail
     refine (T3.out _ HI2.out).mono ?_
     rintro e w3 ⟨rfl, h3⟩
     have HI3 := hid (HI2.out.next h3)
     have HK3 := hid (HK2.out.below h3)
     clear h3
     go_wp2_with fail
     refine pst (X2.out w3 HI3.out) HK3 ?_
     intro w4 row4 HI4 HK4
     have HLo4 := hid HI4.out.lo
     have HP := hid (putK R.U hi d (skipS (some s)) row4 3 tx _ 0 0 [] w4.heap.size (w4.alloc (.cells #[] 3)) (HI4.out.next ((Below.refl _ _).alloc (Nat.le_refl _) _)) (kid0 w4) HLo4.out)
     rw [HEq.out] at HP
     dsimp only at HP
     go_wp2_with fail
     refine pst (HP.out) HK4 ?_
     intro w5 row5 HI5 HK5
     go_wp2
     go_ret
     exact ⟨rfl, row5, HI5.out, HK5.out⟩
    ·rw [if_neg (by rw [g3]; decide)]
     rw [g3] at T3
     have T4 := hid (fun (W : World) h => mark_u R.U hi d (some s) row ⟨#[91]⟩ W h)
     rcases bft (isM R.sg (some s) ⟨#[91]⟩) with g4 | g4
     ·rw [if_pos g4]
      rw [g4, skipIf_yes g4] at T4
      have hlt : s.at_ < R.n := by
       obtain ⟨s2, e2, h2⟩ := isM_lt g4
       obtain rfl := Option.some.inj e2
       omega
      have HO := hid (HE.one (d := d) (by omega) hn hlt hd20)
      have HA := hid (fun st => adv_expr (sg := R.sg) (N := N) f .value d st)
      have HLB : Hid (LoB (s.at_ + 1) (skipS (some s))) := (show LoB _ _ from fun t' e => by obtain rfl := Option.some.inj e; exact Nat.le_refl _)
      unfold listS
      generalize exprF R.sg N f .value d = one at HO HA ⊢
      have HV := hid (fun (row : Option Nat) (W : World) h => values0 R.U hi d (s.at_ + 1) one HO HA.out ⟨#[93]⟩ N (skipS (some s)) row W h HLB.out hN)
      generalize listF R.sg one ⟨#[93]⟩ N [] (skipS (some s)) = q at HV ⊢
      obtain ⟨ks, st2⟩ := q
      dsimp only at HV ⊢
      clear hI hn hdp g1 g2 g3 g4 hlen
      go_enter func234, ntmps234
      go_wp2_with fail
      refine (T1.out _ HI0.out).mono ?_
      rintro e w1 ⟨rfl, h1⟩
      have HI1 := hid (HI0.out.next h1)
      have HK1 := hid (HK0.out.below h1)
      clear h1 c2 cf cz
      go_wp2_with fail
      refine (T2.out _ HI1.out).mono ?_
      rintro e w2 ⟨rfl, h2⟩
      have HI2 := hid (HI1.out.next h2)
      have HK2 := hid (HK1.out.below h2)
      clear h2
      go_wp2_with fail
      refine (T3.out _ HI2.out).mono ?_
      rintro e w3 ⟨rfl, h3⟩
      have HI3 := hid (HI2.out.next h3)
      have HK3 := hid (HK2.out.below h3)
      clear h3
      go_wp2_with fail
      refine pst (T4.out w3 HI3.out) HK3 ?_
      intro w4 row4 HI4 HK4
      have HLo4 := hid HI4.out.lo
      go_wp2_with fail
      refine (HV.out row4 w4 HI4.out).mono ?_
      rintro e w5 ⟨A5, n5, c5, rfl, m5, row5, h5, k5⟩
      have HR5 := hid m5
      have HI5 := hid h5
      have HK5 := hid (HK4.out.trans k5)
      clear h5 k5 m5
      go_wp2_with fail
      refine pst (putK R.U hi d _ row5 4 noT A5 n5 c5 ks w4.heap.size w5 HI5.out HR5.out HLo4.out) HK5 ?_
      intro w6 row6 HI6 HK6
      go_wp2
      go_ret
      exact ⟨rfl, row6, HI6.out, HK6.out⟩
     ·rw [if_neg (by rw [g4]; decide)]
      rw [g4, skipIf_no g4] at T4
      have T5 := hid (fun (row : Option Nat) (W : World) h => arrow_any R hi d (some s) row W h)
      rcases bft (arrB R.sg (some s)) with g5 | g5
      ·rw [if_pos g5]
       rw [g5] at T5
       have hlt : s.at_ < R.n := by
        obtain ⟨s2, e2, h2⟩ := isM_lt (arrB_isM g5)
        obtain rfl := Option.some.inj e2
        omega
       obtain ⟨i0, hi0, hz0, hz1, hz2⟩ := info_parts infoInt
       have HII := hid (And.intro hi0 (And.intro hz0 (And.intro hz1 hz2)))
       clear hi0 hz0 hz1 hz2
       have HLo := hid hI.lo
       unfold fnS
       dsimp only
       have HL := hid (fun (row : Option Nat) (W : World) h => names_any R hi d N (some s) row W h hN)
       have hadv := ((adv_take (sg := R.sg) (some s) ⟨#[40]⟩).trans (adv_list (sg := R.sg) (adv_nameNode (sg := R.sg)) ⟨#[41]⟩ N [] (takeS R.sg (some s) ⟨#[40]⟩)).2)
       generalize listF R.sg (nameNodeS R.sg) ⟨#[41]⟩ N [] (takeS R.sg (some s) ⟨#[40]⟩) = q at HL hadv ⊢
       obtain ⟨ks, st2⟩ := q
       dsimp only at HL hadv ⊢
       have hadv4 := (hadv.trans (adv_take (sg := R.sg) _ ⟨#[41]⟩)).trans (adv_take (sg := R.sg) _ ⟨#[61, 62]⟩)
       have HP := hid (fun (U : Nat → Prop) (row : Option Nat) (W : World) h => HE.pick U d (takeS R.sg (takeS R.sg st2 ⟨#[41]⟩) ⟨#[61, 62]⟩) row W h (hn.next hlt (hadv4.weak (i' := 1) (j' := 0) (by omega) (by omega)) (by omega)) (by omega) (hdp.adv hadv4))
       unfold PosS at HP
       generalize exprF R.sg N f .pick d (takeS R.sg (takeS R.sg st2 ⟨#[41]⟩) ⟨#[61, 62]⟩) = r at HP ⊢
       obtain ⟨k, st5⟩ := r
       dsimp only at HP ⊢
       clear hI hn hdp g1 g2 g3 g4 g5 hlen hadv hadv4
       go_enter func234, ntmps234
       go_wp2_with fail
       refine (T1.out _ HI0.out).mono ?_
       rintro e w1 ⟨rfl, h1⟩
       have HI1 := hid (HI0.out.next h1)
       have HK1 := hid (HK0.out.below h1)
       clear h1 c2 cf cz
       go_wp2_with fail
       refine (T2.out _ HI1.out).mono ?_
       rintro e w2 ⟨rfl, h2⟩
       have HI2 := hid (HI1.out.next h2)
       have HK2 := hid (HK1.out.below h2)
       clear h2
       go_wp2_with fail
       refine (T3.out _ HI2.out).mono ?_
       rintro e w3 ⟨rfl, h3⟩
       have HI3 := hid (HI2.out.next h3)
       have HK3 := hid (HK2.out.below h3)
       clear h3
       go_wp2_with fail
       refine pst (T4.out w3 HI3.out) HK3 ?_
       intro w4 row4 HI4 HK4
       go_wp2_with fail
       refine (T5.out _ _ HI4.out).mono ?_
       rintro e w5 ⟨rfl, h5⟩
       have HI5 := hid (HI4.out.next h5)
       have HK5 := hid (HK4.out.below h5)
       clear h5
       go_wp2_with fail
       refine (HL.out _ _ HI5.out).mono ?_
       rintro e w6 ⟨A, n, c, rfl, rfl, m6, hle, row6, h6, k6⟩
       have hz5 := HK5.out.size
       have HM6 := hid (m6.more (B' := w.heap.size) hz5)
       have HI6 := hid h6
       have HK6 := hid (HK5.out.trans k6)
       clear h6 k6 m6 HL
       go_wp2_with fail
       refine (wants_u _ hi d _ row6 ⟨#[61, 62]⟩ w6 HI6.out).mono ?_
       rintro e w7 ⟨rfl, row7, h7, k7⟩
       have HM7 := hid (HI6.out.keepI k7 HM6.out)
       have HI7 := hid h7
       have HK7 := hid (HK6.out.trans k7)
       clear h7 k7 HM6
       go_wp2_with fail
       refine (HP.out _ _ _ HI7.out).mono ?_
       rintro e w8 ⟨rfl, row8, h8, k8⟩
       have HM8 := hid (HI7.out.keepI k8 HM7.out)
       have HI8 := hid h8
       have HK8 := hid (HK7.out.trans k8)
       clear h8 k8 HM7 HP
       have hz6 := HK8.out.size
       have HB0 := hid HLo.out.1
       go_wp2_with (at_builtin; (refine wpList_append_row _ rfl (.tmp 50) (.tmp 53) _ rfl w.heap.size 3 i0 (.int .i64 0) 1 8 underlying34 HII.out.1 HII.out.2.1 HII.out.2.2.1 HII.out.2.2.2 rfl (by decide) (.slice A ks.length c) ks.length (intCells ks) rfl (Mine.alloc HM8.out _) ⟨w8.heap.size, 0, none⟩ 1 1 [.int .i64 k] rfl rfl (int_new _ k _) (int_one _) (by unfold maxLen; omega) (by omega) (by simp; omega) ?_); intro v' w9 hown7 hg7 hwh7; obtain ⟨A7, c7, rfl, h7, m7⟩ := RdI.appended HI8.out HM8.out HB0.out ((Below.refl _ _).alloc (Nat.le_refl _) _) hown7 hg7 hwh7)
       have HK9 := hid ((HK8.out.below ((Below.refl _ _).alloc (Nat.le_refl _) _)).grown hg7 (fun g hg => by rw [ownBlk] at hg; exact (Mine.blk HM8.out hg).1))
       rw [← ints_snoc] at m7
       have HI9 := hid h7.unres
       have HM9 := hid m7
       clear hown7 hg7 hwh7 h7 m7
       go_wp2_with fail
       refine pst (putK R.U hi d st5 row8 9 noT A7 (ks.length + 1) c7 (ks ++ [k]) w.heap.size w9 HI9.out HM9.out HLo.out) HK9 ?_
       intro w10 row10 HI10 HK10
       go_wp2
       go_ret
       exact ⟨rfl, row10, HI10.out, HK10.out⟩
      ·rw [if_neg (by rw [g5]; decide)]
       rw [g5] at T5
       rcases bft (isM R.sg (some s) ⟨#[40]⟩) with g6 | g6
       ·rw [if_pos g6]
        have T6 := hid (fun (row : Option Nat) (W : World) h => wants_u R.U hi d (some s) row ⟨#[40]⟩ W h)
        rw [take_yes g6] at T6
        have hlt : s.at_ < R.n := by
         obtain ⟨s2, e2, h2⟩ := isM_lt g6
         obtain rfl := Option.some.inj e2
         omega
        unfold parS
        dsimp only
        have HV := hid (fun (row : Option Nat) (W : World) h => HE.value R.U d (skipS (some s)) row W h (hn.next hlt (adv_skip (some s)) (by omega)) (by omega) (hdp.adv (adv_skip _)))
        unfold PosS at HV
        generalize exprF R.sg N f .value d (skipS (some s)) = r at HV ⊢
        obtain ⟨k, st2⟩ := r
        dsimp only at HV ⊢
        clear hI hn hdp g1 g2 g3 g4 g5 g6 hlen
        go_enter func234, ntmps234
        go_wp2_with fail
        refine (T1.out _ HI0.out).mono ?_
        rintro e w1 ⟨rfl, h1⟩
        have HI1 := hid (HI0.out.next h1)
        have HK1 := hid (HK0.out.below h1)
        clear h1 c2 cf cz
        go_wp2_with fail
        refine (T2.out _ HI1.out).mono ?_
        rintro e w2 ⟨rfl, h2⟩
        have HI2 := hid (HI1.out.next h2)
        have HK2 := hid (HK1.out.below h2)
        clear h2
        go_wp2_with fail
        refine (T3.out _ HI2.out).mono ?_
        rintro e w3 ⟨rfl, h3⟩
        have HI3 := hid (HI2.out.next h3)
        have HK3 := hid (HK2.out.below h3)
        clear h3
        go_wp2_with fail
        refine pst (T4.out w3 HI3.out) HK3 ?_
        intro w4 row4 HI4 HK4
        go_wp2_with fail
        refine (T5.out _ _ HI4.out).mono ?_
        rintro e w5 ⟨rfl, h5⟩
        have HI5 := hid (HI4.out.next h5)
        have HK5 := hid (HK4.out.below h5)
        clear h5
        go_wp2_with fail
        refine pst (T6.out row4 w5 HI5.out) HK5 ?_
        intro w6 row6 HI6 HK6
        obtain ⟨a6, b6, AN6, cN6, l6, hc6, hb6, hrow6⟩ := HI6.out
        obtain ⟨x0, x1, x2, x3, x4, xf, xz⟩ := hc6.cs hi
        obtain ⟨rfl, _, _⟩ := hb6
        clear hc6 hrow6 x0 x1 x3 x4
        go_wp2_with fail
        refine (HV.out _ _ HI6.out).mono ?_
        rintro e w7 ⟨rfl, row7, h7, k7⟩
        have HI7 := hid h7
        have HK7 := hid (HK6.out.trans k7)
        clear h7 k7 x2 xf xz
        go_wp2_with fail
        refine pst (wants_u R.U hi d st2 row7 ⟨#[41]⟩ w7 HI7.out) HK7 ?_
        intro w8 row8 HI8 HK8
        have HLo8 := hid HI8.out.lo
        go_wp2_with fail
        refine pst (putK R.U hi d _ row8 11 noT (some ⟨w8.heap.size, 0, none⟩) 1 1 [k] w8.heap.size _ (HI8.out.alloc _) (kid1 w8 k) HLo8.out) HK8 ?_
        intro w9 row9 HI9 HK9
        go_wp2
        go_ret
        exact ⟨rfl, row9, HI9.out, HK9.out⟩
       ·rw [if_neg (by rw [g6]; decide)]
        have T6 := hid (fun (row : Option Nat) (W : World) h => wants_u R.U hi d (some s) row ⟨#[40]⟩ W h)
        rw [take_no g6] at T6
        dsimp only
        clear hI hn hdp g1 g2 g3 g4 g5 g6 hlen
        go_enter func234, ntmps234
        go_wp2_with fail
        refine (T1.out _ HI0.out).mono ?_
        rintro e w1 ⟨rfl, h1⟩
        have HI1 := hid (HI0.out.next h1)
        have HK1 := hid (HK0.out.below h1)
        clear h1 c2 cf cz
        go_wp2_with fail
        refine (T2.out _ HI1.out).mono ?_
        rintro e w2 ⟨rfl, h2⟩
        have HI2 := hid (HI1.out.next h2)
        have HK2 := hid (HK1.out.below h2)
        clear h2
        go_wp2_with fail
        refine (T3.out _ HI2.out).mono ?_
        rintro e w3 ⟨rfl, h3⟩
        have HI3 := hid (HI2.out.next h3)
        have HK3 := hid (HK2.out.below h3)
        clear h3
        go_wp2_with fail
        refine pst (T4.out w3 HI3.out) HK3 ?_
        intro w4 row4 HI4 HK4
        go_wp2_with fail
        refine (T5.out _ _ HI4.out).mono ?_
        rintro e w5 ⟨rfl, h5⟩
        have HI5 := hid (HI4.out.next h5)
        have HK5 := hid (HK4.out.below h5)
        clear h5
        go_wp2_with fail
        refine pst (T6.out row4 w5 HI5.out) HK5 ?_
        intro w6 row6 HI6 HK6
        obtain ⟨a6, b6, AN6, cN6, l6, hc6, hb6, hrow6⟩ := HI6.out
        obtain ⟨x0, x1, x2, x3, x4, xf, xz⟩ := hc6.cs hi
        obtain rfl : b6 = true := hb6
        clear hc6 hrow6 x0 x1 x3 x4
        go_wp2
        go_ret
        exact ⟨rfl, row6, HI6.out, HK6.out⟩
end Go.Proofs.YtgbikafalcbibaaGreatDoor

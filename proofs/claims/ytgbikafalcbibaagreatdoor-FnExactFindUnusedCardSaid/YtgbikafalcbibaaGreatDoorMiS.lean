/-
  Put together by program (shake.py): SpaP, SpaQ.
-/
import Derived.Test.YtgbikafalcbibaaGreatDoorMiR
set_option maxRecDepth 100000
set_option maxHeartbeats 25600000
set_option linter.unusedVariables false
set_option linter.unusedSimpArgs false
open Go.Lib (hid)
open Go.Proofs.Tryz
namespace Go.Proofs.YtgbikafalcbibaaGreatDoor
open Go.RowKit
theorem nest_go' {R : RC} {d : Nat} {st : RdSt} {row : Option Nat} {w : World} (hi : R.imp = false) (h : RdI R d st row w) (hd : d < 20) :
  RdI R (d + 1) (nestS d st) row (w.setCell ⟨R.T, 3, none⟩ (.int .i64 ((d : Int) + 1))) ∧ Kr R.T row w row (w.setCell ⟨R.T, 3, none⟩ (.int .i64 ((d : Int) + 1))) := by
 obtain ⟨a, b, AN, cN, l, hc, hst, hrow⟩ := h
 unfold nestS
 rw [if_neg (by omega)]
 exact RdI.snest1 hi hc hst hrow (by omega)
theorem nest_bad' {R : RC} {d : Nat} {st : RdSt} {row : Option Nat} {w : World} (hi : R.imp = false) (h : RdI R d st row w) :
  RdI R (d + 1) none row ((w.setCell ⟨R.T, 3, none⟩ (.int .i64 ((d : Int) + 1))).setCell ⟨R.T, 2, none⟩ (.bool true)) ∧ Kr R.T row w row ((w.setCell ⟨R.T, 3, none⟩ (.int .i64 ((d : Int) + 1))).setCell ⟨R.T, 2, none⟩ (.bool true)) := by
 obtain ⟨a, b, AN, cN, l, hc, hst, hrow⟩ := h
 have hF := RdI.snest1 hi hc hst hrow (u := (d : Int) + 1) (d' := d + 1) (by omega)
 obtain ⟨a', b', AN', cN', l', hc', hst', hrow'⟩ := hF.1
 have hG := RdI.sbad1 hi hc' hrow'
 exact ⟨hG.1, hF.2.trans hG.2⟩
theorem nest_take {sg : List SgP} (d : Nat) (st : RdSt) (m : ByteArray) : takeS sg (nestS d st) m = nestS d (takeS sg st m) := by
 unfold nestS
 by_cases h : d = 20
 ·rw [if_pos h, if_pos h, take_none']
 ·rw [if_neg h, if_neg h]
theorem add_nn (st : RdSt) (x : PN) : 0 ≤ (addS st x).1 := by
 unfold addS
 split
 ·exact Int.le_refl _
 ·split
  ·exact Int.le_refl _
  ·exact Int.natCast_nonneg _
section
variable {sg : List SgP} {E : Md → Nat → RdSt → PR} {N : Nat}
theorem note_nn (b : Bool) (st : RdSt) : 0 ≤ (noteS sg b st).1 := add_nn _ _
theorem var_nn (d : Nat) (b : Bool) (st : RdSt) : 0 ≤ (varS sg E d b st).1 := by
 unfold varS
 split
 ·exact add_nn _ _
 ·exact add_nn _ _
theorem stmt_nn (d : Nat) (b : Bool) (st : RdSt) : 0 ≤ (stmtS sg E d b st).1 := by
 unfold stmtS
 split
 ·exact note_nn _ _
 ·split
  ·exact var_nn _ _ _
  ·split
   ·unfold leaveS
    split <;> exact add_nn _ _
   ·split
    ·unfold ifS
     dsimp only
     split <;> exact add_nn _ _
    ·split
     ·exact add_nn _ _
     ·split
      ·exact add_nn _ _
      ·exact add_nn _ _
theorem expr_nn (f d : Nat) (b : Bool) (st : RdSt) : 0 ≤ (exprF sg N f (.stmt b) d st).1 := by
 cases f with
 | zero => exact Int.le_refl _
 | succ f => exact stmt_nn d b st
theorem mem_nn (b : Bool) (st : RdSt) : 0 ≤ (memS sg E N b st).1 := by
 unfold memS
 split
 ·exact note_nn _ _
 ·split
  ·exact var_nn _ _ _
  ·exact add_nn _ _
theorem top_nn (b : Bool) (st : RdSt) : 0 ≤ (topS sg E N b st).1 := by
 unfold topS
 split
 ·exact note_nn _ _
 ·split
  ·exact var_nn _ _ _
  ·split
   ·exact add_nn _ _
   ·exact add_nn _ _
end
theorem sblock_step (R : RC) (hi : R.imp = false) (N f : Nat) (hN : R.n < N) (HE : SC R N f) (d : Nat) (st : RdSt) (row : Option Nat) (w : World) (hI : RdI R d st row w) (hn : Need R.n st 13 (f + 1)) (hd : d + (f + 1) ≤ 100000) (hdp : Deep d st) :
  Calls prog 78 #[.pointer (some ⟨R.T, 0, none⟩)] w (Does R d row w (.int .i64 (blockS R.sg (exprF R.sg N f) N d st).1) (blockS R.sg (exprF R.sg N f) N d st).2) := by
 obtain ⟨i0, hi0, hz0, hz1, hz2⟩ := info_parts infoInt
 have HII := hid (And.intro hi0 (And.intro hz0 (And.intro hz1 hz2)))
 clear hi0 hz0 hz1 hz2
 have HI0 := hid hI
 have HK0 := hid (Kr.refl R.T row w)
 have HLo := hid hI.lo
 have HB0 := hid hI.lo.1
 have hlen := hI.ok.len
 have HO : Hid (∀ (U : Nat → Prop) (t : PS) (row : Option Nat) (w : World), RdI { R with U := U } (d + 1) (some t) row w → Adv 1 0 st (some t) → Deep (d + 1) (some t) → Calls prog 106 #[.pointer (some ⟨R.T, 0, none⟩)] w (fun e w' => e = .returned (.int .i64 (exprF R.sg N f (.stmt false) (d + 1) (some t)).1) ∧ ∃ row', RdI { R with U := U } (d + 1) (exprF R.sg N f (.stmt false) (d + 1) (some t)).2 row' w' ∧ Kr R.T row w row' w')) := (show ∀ U t row w, _ → _ → _ → _ from fun U t row w h ha hdd => HE.step U (d + 1) (some t) row w h (by
  obtain ⟨s, rfl, h1, _⟩ := ha t rfl
  have h2 := (h.le rfl).1
  have h3 : ({ R with U := U } : RC).n = R.n := rfl
  exact hn.next (by omega) (ha.weak (i' := 0 + 1) (j' := 0) (by omega) (by omega)) (by omega)) (by omega) hdd)
 have HONE : Hid (∀ b st, exprF R.sg N f (.stmt b) (d + 1) st = blankR b (exprF R.sg N f (.stmt false) (d + 1) st)) := (show ∀ b st, _ from fun b st => expr_blank f (d + 1) b st)
 have HNN : Hid (∀ st, 0 ≤ (exprF R.sg N f (.stmt false) (d + 1) st).1) := (show ∀ st, _ from fun st => expr_nn f (d + 1) false st)
 have HA2 : Hid (∀ b st, Adv 1 1 st (exprF R.sg N f (.stmt b) (d + 1) st).2) := (show ∀ b st, _ from fun b st => adv_expr f (.stmt b) (d + 1) st)
 unfold Does blockS
 dsimp only
 rw [nest_take]
 have hadv := (adv_take (sg := R.sg) st ⟨#[123]⟩)
 have hdp1 := hdp.adv hadv
 have hadn := adv_nest d (takeS R.sg st ⟨#[123]⟩)
 obtain ⟨Q, hQ⟩ : ∃ Q, bodyF R.sg (fun b => exprF R.sg N f (.stmt b) (d + 1)) N [] (nestS d (takeS R.sg st ⟨#[123]⟩)) = Q := ⟨_, rfl⟩
 rw [hQ]
 have HQ := hid hQ
 obtain ⟨T, hT⟩ : ∃ T, takeS R.sg Q.2 ⟨#[125]⟩ = T := ⟨_, rfl⟩
 rw [hT]
 have HT := hid hT
 have HAD0 : Hid (Adv 1 0 st (nestS d (takeS R.sg st ⟨#[123]⟩))) := (hadv.trans hadn).weak (by omega) (by omega)
 have HDp0 : Hid (Deep (d + 1) (nestS d (takeS R.sg st ⟨#[123]⟩))) := hdp1.nest
 obtain ⟨one, hone⟩ : ∃ one, (fun b => exprF R.sg N f (.stmt b) (d + 1)) = one := ⟨_, rfl⟩
 have HA3 : Hid (∀ b st, Adv 1 1 st (one b st).2) := (show ∀ b st, _ by rw [← hone]; exact HA2.out)
 have HONE2 : Hid (∀ b st, one b st = blankR b (exprF R.sg N f (.stmt false) (d + 1) st)) := (show ∀ b st, _ by rw [← hone]; exact HONE.out)
 rw [hone] at HQ
 clear hone HONE HA2
 have HONE := HONE2
 have HA2 := HA3
 clear HONE2 HA3
 generalize exprF R.sg N f (.stmt false) (d + 1) = one2 at HO HONE HNN
 have HX1 := hid (wants_any R hi d st row ⟨#[123]⟩ w hI)
 unfold Does at HX1
 generalize takeS R.sg st ⟨#[123]⟩ = st1 at HQ HAD0 HDp0 HX1 hdp1
 have hbig : 20 ≤ d → nestS d st1 = none := fun h => by
  cases st1 with
  | none => exact nestS_none d
  | some s1 => have := hdp1 s1 rfl; exact if_pos (by omega)
 have HBig := hid hbig
 have hwd : IntKind.i64.wrap ((d : Int) + 1) = (d : Int) + 1 := IntWalk.i64_in _ (by omega)
 clear hI hn hadv hQ hT hadn hdp1 hdp hbig
 rcases Nat.lt_or_ge d 20 with hlt20 | hge20
 ·have hg20 : ¬ (20 : Int) < (d : Int) + 1 := by omega
  have hg21 : decide ((20 : Int) < (d : Int) + 1) = false := decide_eq_false hg20
  go_enter func78, ntmps78
  go_wp2_with fail
  refine pst (HX1.out) HK0 ?_
  intro w1 row1 HI1 HK1
  have hz1 := HK1.out.size
  obtain ⟨a, b, AN, cN, l, hc, hb, hrow⟩ := id HI1.out
  obtain ⟨c0, c1, c2, c3, c4, cf, cz⟩ := hc.cs hi
  have HD1 := hid (nest_go' hi HI1.out hlt20)
  clear hc hb hrow c0 c1 c4
  go_upto_region 6 with fail
  have HI2 := hid HD1.out.1
  have HK2 := hid (HK1.out.trans HD1.out.2)
  clear c2 c3 cf cz HD1
  generalize hW : w1.setCell ⟨R.T, 3, none⟩ (.int .i64 ((d : Int) + 1)) = W2 at HI2 HK2 ⊢
  have hsz : W2.heap.size = w1.heap.size := by rw [← hW]; simp [World.setCell]
  clear hW
  have hz2 := HK2.out.size
  have HM3 := hid ((kid0 W2).more (B' := w.heap.size) (by omega))
  have HI3 := hid (HI2.out.res_new (A := some ⟨W2.heap.size, 0, none⟩) ((Below.refl _ _).alloc (Nat.le_refl _) (.cells #[] 3)) (fun g hg => by simp at hg; subst hg; simp))
  have HK3 := hid (HK2.out.below ((Below.refl _ _).alloc (Nat.le_refl _) (.cells #[] 3)))
  rw [hsz] at HM3 HI3
  clear hsz
  go_loopw [3] (fun v wr => ∃ (M : Nat) (ks : List Int) (st' : RdSt) (row' : Option Nat) (A : Option Addr) (c : Nat), v = .slice A ks.length c ∧ Hid (bodyF R.sg one M ks st' = Q) ∧ Hid (Adv 1 0 st st') ∧ Hid (Deep (d + 1) st') ∧ Hid (Enough R.n M st') ∧ Hid (KidB ks st') ∧ Hid (Mine wr w.heap.size 3 1 A ks.length c (intCells ks)) ∧ Hid (RdI (R.res A) (d + 1) st' row' wr) ∧ Hid (Kr R.T row w row' wr)) (fun _ wr => measP R wr)
  case atStart => exact ⟨N, [], _, row1, _, 0, rfl, HQ, HAD0, HDp0, (show Enough _ _ _ from enough_of hN _), ⟨by simp, fun s _ => by simp⟩, HM3, HI3, HK3⟩
  case round =>
   clear HQ HAD0 HI3 HK3 HM3
   obtain ⟨M, ks, st', row', A, c, rfl, HQ, HAD, HDp, HEn, HKB, HM, HI, HK⟩ := hrel
   have HIo := HI
   cases st' with
   | none =>
    obtain ⟨a, b, AN, cN, l, hc, hb, hrow⟩ := HI.out
    obtain ⟨c1, c2, c3, cf, cz⟩ := hc.csu _ hi
    obtain rfl : b = true := hb
    have hq := HQ.out
    rw [bodyF_none] at hq
    subst hq
    have ht := HT.out
    rw [take_none'] at ht
    subst ht
    clear hc hrow c1 c3 HQ HT
    obtain ⟨d3, df, dz, hF1, hF2⟩ := nest_s3 hi HI.out
    have HMF := hid (HI.out.keepI hF2 HM.out)
    have HF1 := hid hF1.unres
    have HKF := hid (HK.out.trans hF2)
    clear hF1 hF2
    go_wp2_with fail
    refine (putK R.U hi d none _ 18 noT A ks.length c ks w.heap.size _ HF1.out HMF.out HLo.out).mono ?_
    rintro e w9 ⟨rfl, row9, h9, k9⟩
    go_wp2
    go_ret
    exact ⟨rfl, row9, h9, HKF.out.trans k9⟩
   | some t =>
    obtain ⟨M, rfl⟩ : ∃ M', M = M' + 1 := ⟨M - 1, by
     have h1 := HEn.out t rfl
     have h2 := (HI.out.le rfl).1
     have : (R.res A).n = R.n := rfl
     omega⟩
    obtain ⟨a, b, AN, cN, l, hc, hb, hrow⟩ := HI.out
    obtain ⟨c1, c2, c3, cf, cz⟩ := hc.csu _ hi
    obtain ⟨rfl, _, _⟩ := hb
    have HIs := hid (mark_u _ hi (d + 1) (some t) row' ⟨#[125]⟩ wr HI.out)
    have hq := HQ.out
    unfold bodyF at hq
    rw [if_neg (show ¬ (some t).isNone = true by simp)] at hq
    clear hc hrow c1 c3 HQ
    rcases bft (isM R.sg (some t) ⟨#[125]⟩) with hM | hM
    ·rw [if_pos hM] at hq
     subst hq
     have ht := HT.out
     rw [show takeS R.sg (ks, some t).2 ⟨#[125]⟩ = skipS (some t) from take_yes hM] at ht
     subst ht
     rw [hM, skipIf_yes hM] at HIs
     clear hM HT
     go_wp2_with fail
     refine HIs.out.mono ?_
     rintro e w2 ⟨rfl, row2, h2, k2⟩
     have HM2 := hid (HI.out.keepI k2 HM.out)
     have HK2 := hid (HK.out.trans k2)
     replace HM := HM2
     replace HK := HK2
     replace HI := hid h2
     clear c2 cf cz h2 k2 HM2 HK2
     obtain ⟨d3, df, dz, hF1, hF2⟩ := nest_s3 hi HI.out
     have HMF := hid (HI.out.keepI hF2 HM.out)
     have HF1 := hid hF1.unres
     have HKF := hid (HK.out.trans hF2)
     clear hF1 hF2
     go_wp2_with fail
     refine (putK R.U hi d (skipS (some t)) _ 18 noT A ks.length c ks w.heap.size _ HF1.out HMF.out HLo.out).mono ?_
     rintro e w9 ⟨rfl, row9, h9, k9⟩
     go_wp2
     go_ret
     exact ⟨rfl, row9, h9, HKF.out.trans k9⟩
    ·rw [if_neg (by rw [hM]; decide)] at hq
     rw [hM, skipIf_no hM] at HIs
     have HX := hid (fun (row : Option Nat) (W : World) h => sblank_any (R.res A) hi (d + 1) t row W h)
     have hbl : blankB R.sg (some t) ks = ((sgAt R.sg (some t) 0).2.2.2 && decide (0 < ks.length)) := rfl
     rw [hbl] at hq
     have hsr : (R.res A).sg = R.sg := rfl
     rw [hsr] at HX
     generalize sgAt R.sg (some t) 0 = x at HX hq hbl
     obtain ⟨xk, xt, xp, xz⟩ := x
     dsimp only at HX hq hbl
     clear hM hbl hsr
     have hkb1 := HKB.out.2 t rfl
     have hnb := (HI.out.le rfl).2
     have hkb := HKB.out.1
     have hadv3 := HA2.out (xz && decide (0 < ks.length)) (some t)
     rw [HONE.out] at hq hadv3
     have hnn := HNN.out (some t)
     have HC := hid (fun (row : Option Nat) (W : World) h => HO.out (fun x => R.U x ∨ A.map (·.block) = some x) t row W h HAD.out HDp.out)
     generalize one2 (some t) = r at hq hadv3 hnn HC
     obtain ⟨kc, st3⟩ := r
     unfold blankR at hq hadv3
     dsimp only at hq hadv3 hnn HC
     have HAK : Hid (KidB (ks ++ [kc]) (blankK kc (xz && decide (0 < ks.length)) st3)) := (show KidB _ _ from ⟨by rw [lA]; simp; omega, fun t2 e => by
      obtain ⟨s'', e2, _, h3⟩ := hadv3 t2 e
      obtain rfl := Option.some.inj e2
      rw [lA]
      simp
      omega⟩)
     have HAN : Hid (Enough R.n M (blankK kc (xz && decide (0 < ks.length)) st3)) := HEn.out.adv (i := 0) hadv3
     have HAA : Hid (Adv 1 0 st (blankK kc (xz && decide (0 < ks.length)) st3)) := (HAD.out.trans hadv3).weak (by omega) (by omega)
     have HDD : Hid (Deep ((d + 1)) (blankK kc (xz && decide (0 < ks.length)) st3)) := HDp.out.adv hadv3
     have hlk : (ks ++ [kc]).length = ks.length + 1 := by simp
     have HQ3 := hid hq
     have HAD3 := hid hadv3
     clear hq hadv3
     cases xz with
     | false =>
      rw [Bool.false_and] at HAK HAN HAA HDD HQ3 HAD3
      go_wp2_with fail
      refine HIs.out.mono ?_
      rintro e w2 ⟨rfl, row2, h2, k2⟩
      have HI2 := hid h2
      have HM2 := hid (HI.out.keepI k2 HM.out)
      have HK2 := hid (HK.out.trans k2)
      clear c2 cf cz h2 k2 HIs
      go_wp2_with fail
      refine (HX.out _ _ HI2.out).mono ?_
      rintro e w3 ⟨rfl, g3⟩
      have HI3 := hid (HI2.out.next g3)
      have HM3 := hid (HM2.out.next g3)
      have HK3 := hid (HK2.out.below g3)
      clear g3 HX HI2 HM2 HK2
      go_wp2_with fail
      refine (HC.out _ _ HI3.out).mono ?_
      rintro e w4 ⟨rfl, row4, h4, k4⟩
      have HM4 := hid (HI3.out.keepI k4 HM3.out)
      have HI4 := hid h4
      have HK4 := hid (HK3.out.trans k4)
      clear h4 k4 HI3 HM3 HK3
      have HBk := hid (blanked_any (R.res A) hi (d + 1) st3 row4 kc hnn false w4 HI4.out)
      unfold Does at HBk
      go_wp2_with fail
      refine HBk.out.mono ?_
      rintro e w5 ⟨rfl, row5, h5, k5⟩
      have HM := hid (HI4.out.keepI k5 HM4.out)
      have HI5 := hid h5
      have HK5 := hid (HK4.out.trans k5)
      clear h5 k5 HI4 HM4 HK4 HBk
      go_wp2_with (at_builtin; refine app_int (.tmp 48) (.tmp 50) HI5 HK5 HM HB0 rfl rfl rfl rfl (by omega) ?_; intro A6 c6 w6 HI6 HK6 HM6)
      replace HM := HM6
      clear HM6
      go_wp2
      go_roundw
      case rel => exact ⟨M, ks ++ [kc], _, row5, A6, c6, by rw [hlk], HQ3, HAA, HDD, HAN, HAK, by rw [hlk]; exact HM, HI6, HK6⟩
      case measure => exact measp_u hi HIo.out HI6.out (HAD3.out.weak (i' := 1) (j' := 0) (by omega) (by omega))
     | true =>
      rw [Bool.true_and] at HAK HAN HAA HDD HQ3 HAD3
      go_wp2_with fail
      refine HIs.out.mono ?_
      rintro e w2 ⟨rfl, row2, h2, k2⟩
      have HI2 := hid h2
      have HM2 := hid (HI.out.keepI k2 HM.out)
      have HK2 := hid (HK.out.trans k2)
      clear c2 cf cz h2 k2 HIs
      go_wp2_with fail
      refine (HX.out _ _ HI2.out).mono ?_
      rintro e w3 ⟨rfl, g3⟩
      have HI3 := hid (HI2.out.next g3)
      have HM3 := hid (HM2.out.next g3)
      have HK3 := hid (HK2.out.below g3)
      clear g3 HX HI2 HM2 HK2
      go_wp2_with fail
      refine (HC.out _ _ HI3.out).mono ?_
      rintro e w4 ⟨rfl, row4, h4, k4⟩
      have HM4 := hid (HI3.out.keepI k4 HM3.out)
      have HI4 := hid h4
      have HK4 := hid (HK3.out.trans k4)
      clear h4 k4 HI3 HM3 HK3
      have HBk := hid (blanked_any (R.res A) hi (d + 1) st3 row4 kc hnn (decide (0 < ks.length)) w4 HI4.out)
      unfold Does at HBk
      go_wp2_with fail
      refine HBk.out.mono ?_
      rintro e w5 ⟨rfl, row5, h5, k5⟩
      have HM := hid (HI4.out.keepI k5 HM4.out)
      have HI5 := hid h5
      have HK5 := hid (HK4.out.trans k5)
      clear h5 k5 HI4 HM4 HK4 HBk
      go_wp2_with (at_builtin; refine app_int (.tmp 48) (.tmp 50) HI5 HK5 HM HB0 rfl rfl rfl rfl (by omega) ?_; intro A6 c6 w6 HI6 HK6 HM6)
      replace HM := HM6
      clear HM6
      go_wp2
      go_roundw
      case rel => exact ⟨M, ks ++ [kc], _, row5, A6, c6, by rw [hlk], HQ3, HAA, HDD, HAN, HAK, by rw [hlk]; exact HM, HI6, HK6⟩
      case measure => exact measp_u hi HIo.out HI6.out (HAD3.out.weak (i' := 1) (j' := 0) (by omega) (by omega))
 ·have hg20 : (20 : Int) < (d : Int) + 1 := by omega
  have hg21 : decide ((20 : Int) < (d : Int) + 1) = true := decide_eq_true hg20
  have hb2 := HBig.out hge20
  rw [hb2] at HQ HAD0 HDp0
  go_enter func78, ntmps78
  go_wp2_with fail
  refine pst (HX1.out) HK0 ?_
  intro w1 row1 HI1 HK1
  have hz1 := HK1.out.size
  obtain ⟨a, b, AN, cN, l, hc, hb, hrow⟩ := id HI1.out
  obtain ⟨c0, c1, c2, c3, c4, cf, cz⟩ := hc.cs hi
  have HD1 := hid (nest_bad' hi HI1.out)
  clear hc hb hrow c0 c1 c4
  go_upto_region 6 with fail
  have HI2 := hid HD1.out.1
  have HK2 := hid (HK1.out.trans HD1.out.2)
  clear c2 c3 cf cz HD1
  generalize hW : (w1.setCell ⟨R.T, 3, none⟩ (.int .i64 ((d : Int) + 1))).setCell ⟨R.T, 2, none⟩ (.bool true) = W2 at HI2 HK2 ⊢
  have hsz : W2.heap.size = w1.heap.size := by rw [← hW]; simp [World.setCell]
  clear hW
  have hz2 := HK2.out.size
  have HM3 := hid ((kid0 W2).more (B' := w.heap.size) (by omega))
  have HI3 := hid (HI2.out.res_new (A := some ⟨W2.heap.size, 0, none⟩) ((Below.refl _ _).alloc (Nat.le_refl _) (.cells #[] 3)) (fun g hg => by simp at hg; subst hg; simp))
  have HK3 := hid (HK2.out.below ((Below.refl _ _).alloc (Nat.le_refl _) (.cells #[] 3)))
  rw [hsz] at HM3 HI3
  clear hsz
  go_loopw [3] (fun v wr => ∃ (M : Nat) (ks : List Int) (st' : RdSt) (row' : Option Nat) (A : Option Addr) (c : Nat), v = .slice A ks.length c ∧ Hid (bodyF R.sg one M ks st' = Q) ∧ Hid (Adv 1 0 st st') ∧ Hid (Deep (d + 1) st') ∧ Hid (Enough R.n M st') ∧ Hid (KidB ks st') ∧ Hid (Mine wr w.heap.size 3 1 A ks.length c (intCells ks)) ∧ Hid (RdI (R.res A) (d + 1) st' row' wr) ∧ Hid (Kr R.T row w row' wr)) (fun _ wr => measP R wr)
  case atStart => exact ⟨N, [], _, row1, _, 0, rfl, HQ, HAD0, HDp0, (show Enough _ _ _ from enough_of hN _), ⟨by simp, fun s _ => by simp⟩, HM3, HI3, HK3⟩
  case round =>
   clear HQ HAD0 HI3 HK3 HM3
   obtain ⟨M, ks, st', row', A, c, rfl, HQ, HAD, HDp, HEn, HKB, HM, HI, HK⟩ := hrel
   have HIo := HI
   cases st' with
   | none =>
    obtain ⟨a, b, AN, cN, l, hc, hb, hrow⟩ := HI.out
    obtain ⟨c1, c2, c3, cf, cz⟩ := hc.csu _ hi
    obtain rfl : b = true := hb
    have hq := HQ.out
    rw [bodyF_none] at hq
    subst hq
    have ht := HT.out
    rw [take_none'] at ht
    subst ht
    clear hc hrow c1 c3 HQ HT
    obtain ⟨d3, df, dz, hF1, hF2⟩ := nest_s3 hi HI.out
    have HMF := hid (HI.out.keepI hF2 HM.out)
    have HF1 := hid hF1.unres
    have HKF := hid (HK.out.trans hF2)
    clear hF1 hF2
    go_wp2_with fail
    refine (putK R.U hi d none _ 18 noT A ks.length c ks w.heap.size _ HF1.out HMF.out HLo.out).mono ?_
    rintro e w9 ⟨rfl, row9, h9, k9⟩
    go_wp2
    go_ret
    exact ⟨rfl, row9, h9, HKF.out.trans k9⟩
   | some t =>
    obtain ⟨M, rfl⟩ : ∃ M', M = M' + 1 := ⟨M - 1, by
     have h1 := HEn.out t rfl
     have h2 := (HI.out.le rfl).1
     have : (R.res A).n = R.n := rfl
     omega⟩
    obtain ⟨a, b, AN, cN, l, hc, hb, hrow⟩ := HI.out
    obtain ⟨c1, c2, c3, cf, cz⟩ := hc.csu _ hi
    obtain ⟨rfl, _, _⟩ := hb
    have HIs := hid (mark_u _ hi (d + 1) (some t) row' ⟨#[125]⟩ wr HI.out)
    have hq := HQ.out
    unfold bodyF at hq
    rw [if_neg (show ¬ (some t).isNone = true by simp)] at hq
    clear hc hrow c1 c3 HQ
    rcases bft (isM R.sg (some t) ⟨#[125]⟩) with hM | hM
    ·rw [if_pos hM] at hq
     subst hq
     have ht := HT.out
     rw [show takeS R.sg (ks, some t).2 ⟨#[125]⟩ = skipS (some t) from take_yes hM] at ht
     subst ht
     rw [hM, skipIf_yes hM] at HIs
     clear hM HT
     go_wp2_with fail
     refine HIs.out.mono ?_
     rintro e w2 ⟨rfl, row2, h2, k2⟩
     have HM2 := hid (HI.out.keepI k2 HM.out)
     have HK2 := hid (HK.out.trans k2)
     replace HM := HM2
     replace HK := HK2
     replace HI := hid h2
     clear c2 cf cz h2 k2 HM2 HK2
     obtain ⟨d3, df, dz, hF1, hF2⟩ := nest_s3 hi HI.out
     have HMF := hid (HI.out.keepI hF2 HM.out)
     have HF1 := hid hF1.unres
     have HKF := hid (HK.out.trans hF2)
     clear hF1 hF2
     go_wp2_with fail
     refine (putK R.U hi d (skipS (some t)) _ 18 noT A ks.length c ks w.heap.size _ HF1.out HMF.out HLo.out).mono ?_
     rintro e w9 ⟨rfl, row9, h9, k9⟩
     go_wp2
     go_ret
     exact ⟨rfl, row9, h9, HKF.out.trans k9⟩
    ·rw [if_neg (by rw [hM]; decide)] at hq
     rw [hM, skipIf_no hM] at HIs
     have HX := hid (fun (row : Option Nat) (W : World) h => sblank_any (R.res A) hi (d + 1) t row W h)
     have hbl : blankB R.sg (some t) ks = ((sgAt R.sg (some t) 0).2.2.2 && decide (0 < ks.length)) := rfl
     rw [hbl] at hq
     have hsr : (R.res A).sg = R.sg := rfl
     rw [hsr] at HX
     generalize sgAt R.sg (some t) 0 = x at HX hq hbl
     obtain ⟨xk, xt, xp, xz⟩ := x
     dsimp only at HX hq hbl
     clear hM hbl hsr
     have hkb1 := HKB.out.2 t rfl
     have hnb := (HI.out.le rfl).2
     have hkb := HKB.out.1
     have hadv3 := HA2.out (xz && decide (0 < ks.length)) (some t)
     rw [HONE.out] at hq hadv3
     have hnn := HNN.out (some t)
     have HC := hid (fun (row : Option Nat) (W : World) h => HO.out (fun x => R.U x ∨ A.map (·.block) = some x) t row W h HAD.out HDp.out)
     generalize one2 (some t) = r at hq hadv3 hnn HC
     obtain ⟨kc, st3⟩ := r
     unfold blankR at hq hadv3
     dsimp only at hq hadv3 hnn HC
     have HAK : Hid (KidB (ks ++ [kc]) (blankK kc (xz && decide (0 < ks.length)) st3)) := (show KidB _ _ from ⟨by rw [lA]; simp; omega, fun t2 e => by
      obtain ⟨s'', e2, _, h3⟩ := hadv3 t2 e
      obtain rfl := Option.some.inj e2
      rw [lA]
      simp
      omega⟩)
     have HAN : Hid (Enough R.n M (blankK kc (xz && decide (0 < ks.length)) st3)) := HEn.out.adv (i := 0) hadv3
     have HAA : Hid (Adv 1 0 st (blankK kc (xz && decide (0 < ks.length)) st3)) := (HAD.out.trans hadv3).weak (by omega) (by omega)
     have HDD : Hid (Deep ((d + 1)) (blankK kc (xz && decide (0 < ks.length)) st3)) := HDp.out.adv hadv3
     have hlk : (ks ++ [kc]).length = ks.length + 1 := by simp
     have HQ3 := hid hq
     have HAD3 := hid hadv3
     clear hq hadv3
     cases xz with
     | false =>
      rw [Bool.false_and] at HAK HAN HAA HDD HQ3 HAD3
      go_wp2_with fail
      refine HIs.out.mono ?_
      rintro e w2 ⟨rfl, row2, h2, k2⟩
      have HI2 := hid h2
      have HM2 := hid (HI.out.keepI k2 HM.out)
      have HK2 := hid (HK.out.trans k2)
      clear c2 cf cz h2 k2 HIs
      go_wp2_with fail
      refine (HX.out _ _ HI2.out).mono ?_
      rintro e w3 ⟨rfl, g3⟩
      have HI3 := hid (HI2.out.next g3)
      have HM3 := hid (HM2.out.next g3)
      have HK3 := hid (HK2.out.below g3)
      clear g3 HX HI2 HM2 HK2
      go_wp2_with fail
      refine (HC.out _ _ HI3.out).mono ?_
      rintro e w4 ⟨rfl, row4, h4, k4⟩
      have HM4 := hid (HI3.out.keepI k4 HM3.out)
      have HI4 := hid h4
      have HK4 := hid (HK3.out.trans k4)
      clear h4 k4 HI3 HM3 HK3
      have HBk := hid (blanked_any (R.res A) hi (d + 1) st3 row4 kc hnn false w4 HI4.out)
      unfold Does at HBk
      go_wp2_with fail
      refine HBk.out.mono ?_
      rintro e w5 ⟨rfl, row5, h5, k5⟩
      have HM := hid (HI4.out.keepI k5 HM4.out)
      have HI5 := hid h5
      have HK5 := hid (HK4.out.trans k5)
      clear h5 k5 HI4 HM4 HK4 HBk
      go_wp2_with (at_builtin; refine app_int (.tmp 48) (.tmp 50) HI5 HK5 HM HB0 rfl rfl rfl rfl (by omega) ?_; intro A6 c6 w6 HI6 HK6 HM6)
      replace HM := HM6
      clear HM6
      go_wp2
      go_roundw
      case rel => exact ⟨M, ks ++ [kc], _, row5, A6, c6, by rw [hlk], HQ3, HAA, HDD, HAN, HAK, by rw [hlk]; exact HM, HI6, HK6⟩
      case measure => exact measp_u hi HIo.out HI6.out (HAD3.out.weak (i' := 1) (j' := 0) (by omega) (by omega))
     | true =>
      rw [Bool.true_and] at HAK HAN HAA HDD HQ3 HAD3
      go_wp2_with fail
      refine HIs.out.mono ?_
      rintro e w2 ⟨rfl, row2, h2, k2⟩
      have HI2 := hid h2
      have HM2 := hid (HI.out.keepI k2 HM.out)
      have HK2 := hid (HK.out.trans k2)
      clear c2 cf cz h2 k2 HIs
      go_wp2_with fail
      refine (HX.out _ _ HI2.out).mono ?_
      rintro e w3 ⟨rfl, g3⟩
      have HI3 := hid (HI2.out.next g3)
      have HM3 := hid (HM2.out.next g3)
      have HK3 := hid (HK2.out.below g3)
      clear g3 HX HI2 HM2 HK2
      go_wp2_with fail
      refine (HC.out _ _ HI3.out).mono ?_
      rintro e w4 ⟨rfl, row4, h4, k4⟩
      have HM4 := hid (HI3.out.keepI k4 HM3.out)
      have HI4 := hid h4
      have HK4 := hid (HK3.out.trans k4)
      clear h4 k4 HI3 HM3 HK3
      have HBk := hid (blanked_any (R.res A) hi (d + 1) st3 row4 kc hnn (decide (0 < ks.length)) w4 HI4.out)
      unfold Does at HBk
      go_wp2_with fail
      refine HBk.out.mono ?_
      rintro e w5 ⟨rfl, row5, h5, k5⟩
      have HM := hid (HI4.out.keepI k5 HM4.out)
      have HI5 := hid h5
      have HK5 := hid (HK4.out.trans k5)
      clear h5 k5 HI4 HM4 HK4 HBk
      go_wp2_with (at_builtin; refine app_int (.tmp 48) (.tmp 50) HI5 HK5 HM HB0 rfl rfl rfl rfl (by omega) ?_; intro A6 c6 w6 HI6 HK6 HM6)
      replace HM := HM6
      clear HM6
      go_wp2
      go_roundw
      case rel => exact ⟨M, ks ++ [kc], _, row5, A6, c6, by rw [hlk], HQ3, HAA, HDD, HAN, HAK, by rw [hlk]; exact HM, HI6, HK6⟩
      case measure => exact measp_u hi HIo.out HI6.out (HAD3.out.weak (i' := 1) (j' := 0) (by omega) (by omega))
theorem setB_at {sg : List SgP} {st : RdSt} (h : nameS sg st 0 = true) : setB sg st = (((sgAt sg st 1).2.1.toList == [61]) && ((sgAt sg st 1).1 == 4)) := by unfold setB; rw [h, Bool.true_and]
theorem setB_eq {sg : List SgP} {s : PS} (h : setB sg (some s) = true) : isM sg (skipS (some s)) ⟨#[61]⟩ = true := by
 unfold setB at h
 rw [Bool.and_eq_true, Bool.and_eq_true] at h
 unfold isM
 have e : sgAt sg (skipS (some s)) 0 = sgAt sg (some s) 1 := rfl
 rw [e, h.2.2, Bool.true_and, show (⟨#[61]⟩ : ByteArray).toList = [61] by rw [ByteArray.toList_eq]]
 exact h.2.1
theorem setB_name {sg : List SgP} {st : RdSt} (h : setB sg st = true) : nameS sg st 0 = true := by
 unfold setB at h
 rw [Bool.and_eq_true] at h
 exact h.1
theorem sstep_step (R : RC) (hi : R.imp = false) (N f : Nat) (hN : R.n < N) (HE : SC R N f) (d : Nat) (st : RdSt) (row : Option Nat) (w : World) (hI : RdI R d st row w) (hn : Need R.n st 12 (f + 1)) (hd : d + (f + 1) ≤ 100000) (hdp : Deep d st) :
  Calls prog 106 #[.pointer (some ⟨R.T, 0, none⟩)] w (Does R d row w (.int .i64 (stmtS R.sg (exprF R.sg N f) d false st).1) (stmtS R.sg (exprF R.sg N f) d false st).2) := by
 obtain ⟨i0, hi0, hz0, hz1, hz2⟩ := info_parts infoInt
 have HII := hid (And.intro hi0 (And.intro hz0 (And.intro hz1 hz2)))
 clear hi0 hz0 hz1 hz2
 have HI0 := hid hI
 have HK0 := hid (Kr.refl R.T row w)
 have HLo := hid hI.lo
 have HB0 := hid hI.lo.1
 have hlen := hI.ok.len
 unfold Does stmtS
 have T1 := hid (fun (W : World) h => kindK_any R hi d st row 5 (by decide) (by decide) W h)
 by_cases g1 : (sgAt R.sg st 0).1 = 5
 ·rw [if_pos g1]
  rw [show ((sgAt R.sg st 0).1 == 5) = true from by rw [g1]; decide] at T1
  have X2 := hid (fun (W : World) h => textK_any R hi d st row 5 (by decide) (by decide) W h g1)
  unfold Does at X2
  have HEq := hid (noteS_eq (sg := R.sg) st)
  generalize noteS R.sg false st = r at HEq ⊢
  obtain ⟨k, st2⟩ := r
  generalize (sgAt R.sg st 0).2.1 = tx at X2 HEq
  dsimp only
  clear hI hn hdp g1 hlen
  go_enter func106, ntmps106
  go_wp2_with fail
  refine (T1.out _ HI0.out).mono ?_
  rintro e w1 ⟨rfl, h1⟩
  have HI1 := hid (HI0.out.next h1)
  have HK1 := hid (HK0.out.below h1)
  clear h1
  go_wp2_with fail
  refine pst (X2.out w1 HI1.out) HK1 ?_
  intro w2 row2 HI2 HK2
  have HLo2 := hid HI2.out.lo
  have HP := hid (putK R.U hi d (skipS st) row2 19 tx _ 0 0 [] w2.heap.size (w2.alloc (.cells #[] 3)) (HI2.out.next ((Below.refl _ _).alloc (Nat.le_refl _) _)) (kid0 w2) HLo2.out)
  rw [HEq.out] at HP
  dsimp only at HP
  go_wp2_with fail
  refine pst (HP.out) HK2 ?_
  intro w3 row3 HI3 HK3
  go_wp2
  go_ret
  exact ⟨rfl, row3, HI3.out, HK3.out⟩
 ·rw [if_neg g1]
  rw [show ((sgAt R.sg st 0).1 == 5) = false from beq_eq_false_iff_ne.2 g1] at T1
  have T2 := hid (fun (row : Option Nat) (W : World) h => word_u R.U hi d st row ⟨#[118, 97, 114]⟩ W h)
  rcases bft (isW R.sg st ⟨#[118, 97, 114]⟩) with g2 | g2
  ·rw [if_pos g2]
   rw [g2, skipWIf_yes g2] at T2
   obtain ⟨s, rfl, hlt⟩ := isWs_lt g2
   have hsn : s.at_ < R.n := by omega
   have HV := hid (fun (row : Option Nat) (W : World) h => svariable_any R hi N f HE d (skipS (some s)) row W h (hn.next hsn ((((adv_skip (some s)).trans (adv_nm (sg := R.sg) _)).trans (adv_skip _)).weak (i' := 1) (j' := 0) (by omega) (by omega)) (by omega)) (by omega) (hdp.adv (adv_skip _)))
   unfold Does at HV
   generalize varS R.sg (exprF R.sg N f) d false (skipS (some s)) = r at HV ⊢
   obtain ⟨k, st2⟩ := r
   dsimp only at HV ⊢
   clear hI hn hdp g1 g2 hlen
   go_enter func106, ntmps106
   go_wp2_with fail
   refine (T1.out _ HI0.out).mono ?_
   rintro e w1 ⟨rfl, h1⟩
   have HI1 := hid (HI0.out.next h1)
   have HK1 := hid (HK0.out.below h1)
   clear h1
   go_wp2_with fail
   refine pst (T2.out row w1 HI1.out) HK1 ?_
   intro w2 row2 HI2 HK2
   go_wp2_with fail
   refine pst (HV.out row2 w2 HI2.out) HK2 ?_
   intro w3 row3 HI3 HK3
   go_wp2
   go_ret
   exact ⟨rfl, row3, HI3.out, HK3.out⟩
  ·rw [if_neg (by rw [g2]; decide)]
   rw [g2, skipWIf_no g2] at T2
   have T3 := hid (fun (row : Option Nat) (W : World) h => word_u R.U hi d st row ⟨#[114, 101, 116, 117, 114, 110]⟩ W h)
   rcases bft (isW R.sg st ⟨#[114, 101, 116, 117, 114, 110]⟩) with g3 | g3
   ·rw [if_pos g3]
    rw [g3, skipWIf_yes g3] at T3
    obtain ⟨s, rfl, hlt⟩ := isWs_lt g3
    have hsn : s.at_ < R.n := by omega
    have HV := hid (fun (U : Nat → Prop) (row : Option Nat) (W : World) h => HE.value U d (skipS (some s)) row W h (hn.next hsn (adv_skip (some s)) (by omega)) (by omega) (hdp.adv (adv_skip _)))
    unfold PosS at HV
    unfold leaveS
    generalize exprF R.sg N f .value d (skipS (some s)) = r at HV ⊢
    obtain ⟨k, st2⟩ := r
    dsimp only at HV ⊢
    clear hI hn hdp g1 g2 g3 hlen hlt hsn
    generalize skipS (some s) = stl at HV T3 ⊢
    have T9 := hid (fun (U : Nat → Prop) (row : Option Nat) (W : World) h => sis_u U hi d stl row 4 (by decide) ⟨#[59]⟩ W h)
    rw [isM_isKm] at T9
    rcases bft (isM R.sg stl ⟨#[59]⟩) with g9 | g9
    ·rw [if_pos g9]
     rw [g9] at T9
     clear g9
     go_enter func106, ntmps106
     go_wp2_with fail
     refine (T1.out _ HI0.out).mono ?_
     rintro e w1 ⟨rfl, h1⟩
     have HI1 := hid (HI0.out.next h1)
     have HK1 := hid (HK0.out.below h1)
     clear h1
     go_wp2_with fail
     refine pst (T2.out row w1 HI1.out) HK1 ?_
     intro w2 row2 HI2 HK2
     go_wp2_with fail
     refine pst (T3.out row2 w2 HI2.out) HK2 ?_
     intro w3 row3 HI3 HK3
     have hz3 := HK3.out.size
     have HM := hid ((kid0 w3).more (B' := w.heap.size) (by omega))
     have HI3' := hid (HI3.out.next ((Below.refl _ _).alloc (Nat.le_refl _) (.cells #[] 3)))
     have HK3' := hid (HK3.out.below ((Below.refl _ _).alloc (Nat.le_refl _) (.cells #[] 3)))
     go_wp2_with fail
     refine (T9.out _ _ _ HI3'.out).mono ?_
     rintro e w4 ⟨rfl, h4⟩
     have HI4 := hid (HI3'.out.next h4)
     have HK4 := hid (HK3'.out.below h4)
     have HM4 := hid (HM.out.next h4)
     clear h4
     go_wp2_with fail
     refine (wants_any R hi d stl row3 ⟨#[59]⟩ w4 HI4.out).mono ?_
     rintro e w5 ⟨rfl, row5, h5, k5⟩
     replace HM4 := keep_row HI4 k5 HM4
     have HK5 := keep_kr HK4 k5
     have HI5 := hid h5
     clear h5 k5
     go_wp2_with fail
     refine pst (putK R.U hi d _ row5 15 noT _ 0 0 [] w.heap.size w5 HI5.out HM4.out HLo.out) HK5 ?_
     intro w6 row6 HI6 HK6
     go_wp2
     go_ret
     exact ⟨rfl, row6, HI6.out, HK6.out⟩
    ·rw [if_neg (by rw [g9]; decide)]
     rw [g9] at T9
     clear g9
     go_enter func106, ntmps106
     go_wp2_with fail
     refine (T1.out _ HI0.out).mono ?_
     rintro e w1 ⟨rfl, h1⟩
     have HI1 := hid (HI0.out.next h1)
     have HK1 := hid (HK0.out.below h1)
     clear h1
     go_wp2_with fail
     refine pst (T2.out row w1 HI1.out) HK1 ?_
     intro w2 row2 HI2 HK2
     go_wp2_with fail
     refine pst (T3.out row2 w2 HI2.out) HK2 ?_
     intro w3 row3 HI3 HK3
     have hz3 := HK3.out.size
     have HM3 := hid ((kid0 w3).more (B' := w.heap.size) (by omega))
     have HI3' := hid (HI3.out.res_new (A := some ⟨w3.heap.size, 0, none⟩) ((Below.refl _ _).alloc (Nat.le_refl _) (.cells #[] 3)) (fun g hg => by simp at hg; subst hg; simp))
     have HK3' := hid (HK3.out.below ((Below.refl _ _).alloc (Nat.le_refl _) (.cells #[] 3)))
     go_wp2_with fail
     refine (T9.out _ _ _ HI3'.out).mono ?_
     rintro e w4 ⟨rfl, h4⟩
     have HI4 := hid (HI3'.out.next h4)
     have HK4 := hid (HK3'.out.below h4)
     have HM4 := hid (HM3.out.next h4)
     clear h4
     go_wp2_with fail
     refine (HV.out _ _ _ HI4.out).mono ?_
     rintro e w5 ⟨rfl, row5, h5, k5⟩
     have HM := hid (HI4.out.keepI k5 HM4.out)
     have HI5 := hid h5
     have HK5 := hid (HK4.out.trans k5)
     clear h5 k5
     go_wp2_with (at_builtin; refine app_int (.tmp 29) (.tmp 32) HI5 HK5 HM HB0 rfl rfl rfl rfl (by omega) ?_; intro A6 c6 w6 HI6 HK6 HM6)
     replace HM := HM6
     clear HM6
     have HI6' := hid HI6.out.unres
     go_wp2_with fail
     refine (wants_any R hi d st2 row5 ⟨#[59]⟩ w6 HI6'.out).mono ?_
     rintro e w7 ⟨rfl, row7, h7, k7⟩
     have HM7 := hid (HI6'.out.keepI k7 HM.out)
     have HI7 := hid h7
     have HK7 := hid (HK6.out.trans k7)
     clear h7 k7
     go_wp2_with fail
     refine pst (putK R.U hi d _ row7 15 noT A6 (0 + 1) c6 [k] w.heap.size w7 HI7.out HM7.out HLo.out) HK7 ?_
     intro w8 row8 HI8 HK8
     go_wp2
     go_ret
     exact ⟨rfl, row8, HI8.out, HK8.out⟩
   ·rw [if_neg (by rw [g3]; decide)]
    rw [g3, skipWIf_no g3] at T3
    have T4 := hid (fun (row : Option Nat) (W : World) h => word_u R.U hi d st row ⟨#[105, 102]⟩ W h)
    rcases bft (isW R.sg st ⟨#[105, 102]⟩) with g4 | g4
    ·rw [if_pos g4]
     rw [g4, skipWIf_yes g4] at T4
     obtain ⟨s, rfl, hlt⟩ := isWs_lt g4
     have hsn : s.at_ < R.n := by omega
     have hadv := (adv_skip (some s)).trans (adv_held (sg := R.sg) (fun m d st => adv_expr (sg := R.sg) (N := N) f m d st) d (skipS (some s)))
     have HH := hid (fun (row : Option Nat) (W : World) h => held_any R hi N f HE d (skipS (some s)) row W h (hn.next hsn ((adv_skip (some s)).trans (adv_take (sg := R.sg) _ _)) (by omega)) (by omega) (hdp.adv (adv_skip _)))
     unfold Does at HH
     unfold ifS
     dsimp only
     generalize heldS R.sg (exprF R.sg N f) d (skipS (some s)) = r at hadv HH ⊢
     obtain ⟨k1, st2⟩ := r
     dsimp only at hadv HH ⊢
     have HV := hid (fun (U : Nat → Prop) (row : Option Nat) (W : World) h => HE.block U d st2 row W h (hn.next hsn (hadv.weak (i' := 1) (j' := 0) (by omega) (by omega)) (by omega)) (by omega) (hdp.adv hadv))
     unfold PosS at HV
     have hadv2 := hadv.trans (adv_expr (sg := R.sg) (N := N) f .block d st2)
     generalize exprF R.sg N f .block d st2 = r at HV hadv2 ⊢
     obtain ⟨k2, st3⟩ := r
     dsimp only at HV hadv2 ⊢
     have T9 := hid (fun (U : Nat → Prop) (row : Option Nat) (W : World) h => word_u U hi d st3 row ⟨#[101, 108, 115, 101]⟩ W h)
     rcases bft (isW R.sg st3 ⟨#[101, 108, 115, 101]⟩) with g9 | g9
     ·rw [if_pos g9]
      rw [g9, skipWIf_yes g9] at T9
      have hadv3 := hadv2.trans (adv_skip st3)
      have HV2 := hid (fun (U : Nat → Prop) (row : Option Nat) (W : World) h => HE.block U d (skipS st3) row W h (hn.next hsn (hadv3.weak (i' := 1) (j' := 0) (by omega) (by omega)) (by omega)) (by omega) (hdp.adv hadv3))
      unfold PosS at HV2
      generalize exprF R.sg N f .block d (skipS st3) = r at HV2 ⊢
      obtain ⟨k3, st4⟩ := r
      dsimp only at HV2 ⊢
      clear hI hn hdp g1 g2 g3 g4 hlen hlt hsn hadv hadv2 hadv3 g9
      go_enter func106, ntmps106
      go_wp2_with fail
      refine (T1.out _ HI0.out).mono ?_
      rintro e w1 ⟨rfl, h1⟩
      have HI1 := hid (HI0.out.next h1)
      have HK1 := hid (HK0.out.below h1)
      clear h1
      go_wp2_with fail
      refine pst (T2.out row w1 HI1.out) HK1 ?_
      intro w2 row2 HI2 HK2
      go_wp2_with fail
      refine pst (T3.out row2 w2 HI2.out) HK2 ?_
      intro w3 row3 HI3 HK3
      go_wp2_with fail
      refine pst (T4.out row3 w3 HI3.out) HK3 ?_
      intro w4 row4 HI4 HK4
      go_wp2_with fail
      refine pst (HH.out row4 w4 HI4.out) HK4 ?_
      intro w5 row5 HI5 HK5
      have hz5 := HK5.out.size
      have HM5 := hid ((kid1 w5 k1).more (B' := w.heap.size) (by omega))
      have HI5' := hid (HI5.out.res_new (A := some ⟨w5.heap.size, 0, none⟩) ((Below.refl _ _).alloc (Nat.le_refl _) (.cells #[.int .i64 k1] 3)) (fun g hg => by simp at hg; subst hg; simp))
      have HK5' := hid (HK5.out.below ((Below.refl _ _).alloc (Nat.le_refl _) (.cells #[.int .i64 k1] 3)))
      go_wp2_with fail
      refine (HV.out _ _ _ HI5'.out).mono ?_
      rintro e w6 ⟨rfl, row6, h6, k6⟩
      have HM := hid (HI5'.out.keepI k6 HM5.out)
      have HI6 := hid h6
      have HK6 := hid (HK5'.out.trans k6)
      clear h6 k6 HM5
      go_wp2_with (at_builtin; refine app_int (.tmp 45) (.tmp 48) HI6 HK6 HM HB0 rfl rfl rfl rfl (by omega) ?_; intro A7 c7 w7 HI7 HK7 HM7)
      replace HM := HM7
      clear HM7
      go_wp2_with fail
      refine (T9.out _ _ _ HI7.out).mono ?_
      rintro e w8 ⟨rfl, row8, h8, k8⟩
      have HM8 := hid (HI7.out.keepI k8 HM.out)
      have HI8 := hid h8
      have HK8 := hid (HK7.out.trans k8)
      clear h8 k8
      go_wp2_with fail
      refine (HV2.out _ _ _ HI8.out).mono ?_
      rintro e w9 ⟨rfl, row9, h9, k9⟩
      replace HM := hid (HI8.out.keepI k9 HM8.out)
      have HI9 := hid h9
      have HK9 := hid (HK8.out.trans k9)
      clear h9 k9 HM8
      go_wp2_with (at_builtin; refine app_int (.tmp 52) (.tmp 55) HI9 HK9 HM HB0 rfl rfl rfl rfl (by omega) ?_; intro A10 c10 w10 HI10 HK10 HM10)
      replace HM := HM10
      clear HM10
      have HI10' := hid HI10.out.unres
      go_wp2_with fail
      refine (putK R.U hi d st4 row9 16 noT A10 (1 + 1 + 1) c10 [k1, k2, k3] w.heap.size w10 HI10'.out HM.out HLo.out).mono ?_
      rintro e w11 ⟨rfl, row11, h11, k11⟩
      go_wp2
      go_ret
      exact ⟨rfl, row11, h11, HK10.out.trans k11⟩
     ·rw [if_neg (by rw [g9]; decide)]
      rw [g9, skipWIf_no g9] at T9
      clear hI hn hdp g1 g2 g3 g4 hlen hlt hsn hadv hadv2 g9
      go_enter func106, ntmps106
      go_wp2_with fail
      refine (T1.out _ HI0.out).mono ?_
      rintro e w1 ⟨rfl, h1⟩
      have HI1 := hid (HI0.out.next h1)
      have HK1 := hid (HK0.out.below h1)
      clear h1
      go_wp2_with fail
      refine pst (T2.out row w1 HI1.out) HK1 ?_
      intro w2 row2 HI2 HK2
      go_wp2_with fail
      refine pst (T3.out row2 w2 HI2.out) HK2 ?_
      intro w3 row3 HI3 HK3
      go_wp2_with fail
      refine pst (T4.out row3 w3 HI3.out) HK3 ?_
      intro w4 row4 HI4 HK4
      go_wp2_with fail
      refine pst (HH.out row4 w4 HI4.out) HK4 ?_
      intro w5 row5 HI5 HK5
      have hz5 := HK5.out.size
      have HM5 := hid ((kid1 w5 k1).more (B' := w.heap.size) (by omega))
      have HI5' := hid (HI5.out.res_new (A := some ⟨w5.heap.size, 0, none⟩) ((Below.refl _ _).alloc (Nat.le_refl _) (.cells #[.int .i64 k1] 3)) (fun g hg => by simp at hg; subst hg; simp))
      have HK5' := hid (HK5.out.below ((Below.refl _ _).alloc (Nat.le_refl _) (.cells #[.int .i64 k1] 3)))
      go_wp2_with fail
      refine (HV.out _ _ _ HI5'.out).mono ?_
      rintro e w6 ⟨rfl, row6, h6, k6⟩
      have HM := hid (HI5'.out.keepI k6 HM5.out)
      have HI6 := hid h6
      have HK6 := hid (HK5'.out.trans k6)
      clear h6 k6 HM5
      go_wp2_with (at_builtin; refine app_int (.tmp 45) (.tmp 48) HI6 HK6 HM HB0 rfl rfl rfl rfl (by omega) ?_; intro A7 c7 w7 HI7 HK7 HM7)
      replace HM := HM7
      clear HM7
      go_wp2_with fail
      refine (T9.out _ _ _ HI7.out).mono ?_
      rintro e w8 ⟨rfl, row8, h8, k8⟩
      have HM8 := hid (HI7.out.keepI k8 HM.out)
      have HI8 := hid h8.unres
      have HK8 := hid (HK7.out.trans k8)
      clear h8 k8
      go_wp2_with fail
      refine (putK R.U hi d st3 row8 16 noT A7 (1 + 1) c7 [k1, k2] w.heap.size w8 HI8.out HM8.out HLo.out).mono ?_
      rintro e w11 ⟨rfl, row11, h11, k11⟩
      go_wp2
      go_ret
      exact ⟨rfl, row11, h11, HK8.out.trans k11⟩
    ·rw [if_neg (by rw [g4]; decide)]
     rw [g4, skipWIf_no g4] at T4
     have T5 := hid (fun (row : Option Nat) (W : World) h => word_u R.U hi d st row ⟨#[119, 104, 105, 108, 101]⟩ W h)
     rcases bft (isW R.sg st ⟨#[119, 104, 105, 108, 101]⟩) with g5 | g5
     ·rw [if_pos g5]
      rw [g5, skipWIf_yes g5] at T5
      obtain ⟨s, rfl, hlt⟩ := isWs_lt g5
      have hsn : s.at_ < R.n := by omega
      have hadv := (adv_skip (some s)).trans (adv_held (sg := R.sg) (fun m d st => adv_expr (sg := R.sg) (N := N) f m d st) d (skipS (some s)))
      have HH := hid (fun (row : Option Nat) (W : World) h => held_any R hi N f HE d (skipS (some s)) row W h (hn.next hsn ((adv_skip (some s)).trans (adv_take (sg := R.sg) _ _)) (by omega)) (by omega) (hdp.adv (adv_skip _)))
      unfold Does at HH
      unfold whileS
      dsimp only
      generalize heldS R.sg (exprF R.sg N f) d (skipS (some s)) = r at hadv HH ⊢
      obtain ⟨k1, st2⟩ := r
      dsimp only at hadv HH ⊢
      have HV := hid (fun (U : Nat → Prop) (row : Option Nat) (W : World) h => HE.block U d st2 row W h (hn.next hsn (hadv.weak (i' := 1) (j' := 0) (by omega) (by omega)) (by omega)) (by omega) (hdp.adv hadv))
      unfold PosS at HV
      generalize exprF R.sg N f .block d st2 = r at HV ⊢
      obtain ⟨k2, st3⟩ := r
      dsimp only at HV ⊢
      clear hI hn hdp g1 g2 g3 g4 g5 hlen hlt hsn hadv
      go_enter func106, ntmps106
      go_wp2_with fail
      refine (T1.out _ HI0.out).mono ?_
      rintro e w1 ⟨rfl, h1⟩
      have HI1 := hid (HI0.out.next h1)
      have HK1 := hid (HK0.out.below h1)
      clear h1
      go_wp2_with fail
      refine pst (T2.out row w1 HI1.out) HK1 ?_
      intro w2 row2 HI2 HK2
      go_wp2_with fail
      refine pst (T3.out row2 w2 HI2.out) HK2 ?_
      intro w3 row3 HI3 HK3
      go_wp2_with fail
      refine pst (T4.out row3 w3 HI3.out) HK3 ?_
      intro w4 row4 HI4 HK4
      go_wp2_with fail
      refine pst (T5.out row4 w4 HI4.out) HK4 ?_
      intro w5 row5 HI5 HK5
      go_wp2_with fail
      refine pst (HH.out row5 w5 HI5.out) HK5 ?_
      intro w6 row6 HI6 HK6
      have hz6 := HK6.out.size
      have HM6 := hid ((kid1 w6 k1).more (B' := w.heap.size) (by omega))
      have HI6' := hid (HI6.out.res_new (A := some ⟨w6.heap.size, 0, none⟩) ((Below.refl _ _).alloc (Nat.le_refl _) (.cells #[.int .i64 k1] 3)) (fun g hg => by simp at hg; subst hg; simp))
      have HK6' := hid (HK6.out.below ((Below.refl _ _).alloc (Nat.le_refl _) (.cells #[.int .i64 k1] 3)))
      go_wp2_with fail
      refine (HV.out _ _ _ HI6'.out).mono ?_
      rintro e w7 ⟨rfl, row7, h7, k7⟩
      have HM := hid (HI6'.out.keepI k7 HM6.out)
      have HI7 := hid h7
      have HK7 := hid (HK6'.out.trans k7)
      clear h7 k7 HM6
      go_wp2_with (at_builtin; refine app_int (.tmp 66) (.tmp 69) HI7 HK7 HM HB0 rfl rfl rfl rfl (by omega) ?_; intro A8 c8 w8 HI8 HK8 HM8)
      replace HM := HM8
      clear HM8
      have HI8' := hid HI8.out.unres
      go_wp2_with fail
      refine (putK R.U hi d st3 row7 17 noT A8 (1 + 1) c8 [k1, k2] w.heap.size w8 HI8'.out HM.out HLo.out).mono ?_
      rintro e w11 ⟨rfl, row11, h11, k11⟩
      go_wp2
      go_ret
      exact ⟨rfl, row11, h11, HK8.out.trans k11⟩
     ·rw [if_neg (by rw [g5]; decide)]
      rw [g5, skipWIf_no g5] at T5
      have TQ := hid (fun (row : Option Nat) (W : World) h => kindN_quiet R hi d st row W h)
      rcases bft (setB R.sg st) with g6 | g6
      ·rw [if_pos g6]
       have gn := setB_name g6
       rw [gn] at TQ
       obtain ⟨s, rfl, hlt⟩ := nameS_lt gn
       have hsn : s.at_ < R.n := by omega
       have hse := setB_eq g6
       rw [setB_at gn] at g6
       rw [Bool.and_eq_true] at g6
       have hl1 : s.at_ + 1 < R.sg.length := by
        rcases Nat.lt_or_ge (s.at_ + 1) R.sg.length with h | h
        ·exact h
        ·have := g6.2
         rw [sgAt_out (i := 1) h] at this
         exact absurd this (by decide)
       obtain ⟨y, hy⟩ : ∃ y, R.sg[s.at_ + 1]? = some y := ⟨_, List.getElem?_eq_getElem hl1⟩
       rw [sgAt_in (i := 1) hy] at g6
       obtain ⟨yk, yt, yp, yz⟩ := y
       dsimp only at g6
       obtain ⟨q1, q2⟩ := g6
       have hadv := (adv_skip (some s)).trans (adv_skip (skipS (some s)))
       have hnm : nmS R.sg (some s) = skipS (some s) := if_pos gn
       have HX := hid (fun (row : Option Nat) (W : World) h => textN_u R.U hi d (some s) row W h)
       rw [hnm] at HX
       have HW2 := hid (fun (row : Option Nat) (W : World) h => wants_u R.U hi d (skipS (some s)) row ⟨#[61]⟩ W h)
       rw [take_yes hse] at HW2
       have HV := hid (fun (row : Option Nat) (W : World) h => HE.value R.U d (skipS (skipS (some s))) row W h (hn.next hsn (hadv.weak (i' := 1) (j' := 0) (by omega) (by omega)) (by omega)) (by omega) (hdp.adv hadv))
       unfold PosS at HV
       unfold setS
       dsimp only
       generalize exprF R.sg N f .value d (skipS (skipS (some s))) = r at HV ⊢
       obtain ⟨k, st2⟩ := r
       dsimp only at HV ⊢
       generalize nmT R.sg (some s) = tx at HX ⊢
       have HY := hid hy
       clear hI hn hdp g1 g2 g3 g4 g5 hlen hlt hse hadv hnm hl1 hy gn
       go_enter func106, ntmps106
       go_wp2_with fail
       refine (T1.out _ HI0.out).mono ?_
       rintro e w1 ⟨rfl, h1⟩
       have HI1 := hid (HI0.out.next h1)
       have HK1 := hid (HK0.out.below h1)
       clear h1
       go_wp2_with fail
       refine pst (T2.out row w1 HI1.out) HK1 ?_
       intro w2 row2 HI2 HK2
       go_wp2_with fail
       refine pst (T3.out row2 w2 HI2.out) HK2 ?_
       intro w3 row3 HI3 HK3
       go_wp2_with fail
       refine pst (T4.out row3 w3 HI3.out) HK3 ?_
       intro w4 row4 HI4 HK4
       go_wp2_with fail
       refine pst (T5.out row4 w4 HI4.out) HK4 ?_
       intro w5 row5 HI5 HK5
       have HR5 : RdI R d (some s) row5 w5 := HI5.out
       have hok5 : R.Ok := HR5.ok
       have hmo5 : R.n ≤ 3000 := hok5.most
       have hold5 := HR5.old
       obtain ⟨a5, b5, AN5, cN5, l5, hc5, hst5, hrow5⟩ := id HR5
       obtain ⟨x0, x1, x2, x3, x4, xf, xz⟩ := hc5.cs hi
       have ha5 : s.at_ = a5 := hst5.2.1
       have hy5 := HY.out
       rw [ha5] at hy5
       have hl5' : a5 + 1 < R.n := by
        have h1 : a5 + 1 < R.sg.length := (List.getElem?_eq_some_iff.1 hy5).1
        have h2 : R.sg.length = R.n := hok5.len
        omega
       obtain ⟨b1, off, hA, hblt, e0, e1, e2, e3⟩ := sgn_at (hok5.rd.below hold5) (show a5 + 1 < R.n from hl5') hy5
       rw [hA] at x0
       dsimp only at e0 e1
       have hl2 : (a5 : Int) + 1 < (R.n : Int) := by omega
       have hl3 : decide ((a5 : Int) + 1 < (R.n : Int)) = true := decide_eq_true hl2
       have ht2 : ((a5 : Int) + 1).toNat = a5 + 1 := by omega
       have hw5 : IntKind.i64.wrap ((a5 : Int) + 1) = (a5 : Int) + 1 := IntWalk.i64_in _ (by omega)
       clear HR5 hc5 hst5 hrow5 hy5 hok5 hold5 x2 x3 x4 e2 e3 hA
       have HBb := hid (fun (n : Nat) => HI5.out.next (below_drewN (Below.refl w5.heap.size w5) n))
       go_upto_region 21 with fail
       go_quiet ((go_at_call 71; exact Calls.quiet_of (TQ.out _ _ (HBb.out _))))
       go_wp2_with fail
       refine (HX.out _ _ (HBb.out _)).mono ?_
       rintro e w7 ⟨rfl, row7, h7, k7⟩
       have HI7 := hid h7
       have HK7 := hid ((HK5.out.below (below_drewN (Below.refl w5.heap.size w5) _)).trans k7)
       clear h7 k7
       go_wp2_with fail
       refine pst (HW2.out row7 w7 HI7.out) HK7 ?_
       intro w8 row8 HI8 HK8
       go_wp2_with fail
       refine pst (HV.out row8 w8 HI8.out) HK8 ?_
       intro w9 row9 HI9 HK9
       go_wp2_with fail
       refine pst (wants_any R hi d st2 row9 ⟨#[59]⟩ w9 HI9.out) HK9 ?_
       intro w10 row10 HI10 HK10
       have HLo10 := hid HI10.out.lo
       go_wp2_with fail
       refine pst (putK R.U hi d _ row10 13 tx (some ⟨w10.heap.size, 0, none⟩) 1 1 [k] w10.heap.size _ (HI10.out.alloc _) (kid1 w10 k) HLo10.out) HK10 ?_
       intro w11 row11 HI11 HK11
       go_wp2
       go_ret
       exact ⟨rfl, row11, HI11.out, HK11.out⟩
      ·rw [if_neg (by rw [g6]; decide)]
       have HV := hid (fun (row : Option Nat) (W : World) h => HE.value R.U d st row W h (hn.same (r' := 11) (by omega) (Adv.refl st)) (by omega) hdp)
       unfold PosS at HV
       unfold doS
       dsimp only
       generalize exprF R.sg N f .value d st = r at HV ⊢
       obtain ⟨k, st2⟩ := r
       dsimp only at HV ⊢
       rcases bft (nameS R.sg st 0) with gn | gn
       ·rw [gn] at TQ
        obtain ⟨s, rfl, hlt⟩ := nameS_lt gn
        have hsn : s.at_ < R.n := by omega
        rw [setB_at gn] at g6
        rcases Nat.lt_or_ge (s.at_ + 1) R.n with hl1 | hl1
        ·obtain ⟨y, hy⟩ : ∃ y, R.sg[s.at_ + 1]? = some y := ⟨_, gE (by omega)⟩
         rw [sgAt_in (i := 1) hy] at g6
         obtain ⟨yk, yt, yp, yz⟩ := y
         dsimp only at g6
         have HY := hid hy
         rcases bft (yk == 4) with q2 | q2
         ·rw [q2, Bool.and_true] at g6
          clear hI hn hdp g1 g2 g3 g4 g5 hlen hlt hl1 hy gn
          go_enter func106, ntmps106
          go_wp2_with fail
          refine (T1.out _ HI0.out).mono ?_
          rintro e w1 ⟨rfl, h1⟩
          have HI1 := hid (HI0.out.next h1)
          have HK1 := hid (HK0.out.below h1)
          clear h1
          go_wp2_with fail
          refine pst (T2.out row w1 HI1.out) HK1 ?_
          intro w2 row2 HI2 HK2
          go_wp2_with fail
          refine pst (T3.out row2 w2 HI2.out) HK2 ?_
          intro w3 row3 HI3 HK3
          go_wp2_with fail
          refine pst (T4.out row3 w3 HI3.out) HK3 ?_
          intro w4 row4 HI4 HK4
          go_wp2_with fail
          refine pst (T5.out row4 w4 HI4.out) HK4 ?_
          intro w5 row5 HI5 HK5
          have HR5 : RdI R d (some s) row5 w5 := HI5.out
          have hok5 : R.Ok := HR5.ok
          have hmo5 : R.n ≤ 3000 := hok5.most
          have hold5 := HR5.old
          obtain ⟨a5, b5, AN5, cN5, l5, hc5, hst5, hrow5⟩ := id HR5
          obtain ⟨x0, x1, x2, x3, x4, xf, xz⟩ := hc5.cs hi
          have ha5 : s.at_ = a5 := hst5.2.1
          have hy5 := HY.out
          rw [ha5] at hy5
          have hl5' : a5 + 1 < R.n := by
           have h1 : a5 + 1 < R.sg.length := (List.getElem?_eq_some_iff.1 hy5).1
           have h2 : R.sg.length = R.n := hok5.len
           omega
          obtain ⟨b1, off, hA, hblt, e0, e1, e2, e3⟩ := sgn_at (hok5.rd.below hold5) (show a5 + 1 < R.n from hl5') hy5
          rw [hA] at x0
          dsimp only at e0 e1
          have hl2 : (a5 : Int) + 1 < (R.n : Int) := by omega
          have hl3 : decide ((a5 : Int) + 1 < (R.n : Int)) = true := decide_eq_true hl2
          have ht2 : ((a5 : Int) + 1).toNat = a5 + 1 := by omega
          have hw5 : IntKind.i64.wrap ((a5 : Int) + 1) = (a5 : Int) + 1 := IntWalk.i64_in _ (by omega)
          clear HR5 hc5 hst5 hrow5 hy5 hok5 hold5 x2 x3 x4 e2 e3 hA
          have HBb := hid (fun (n : Nat) => HI5.out.next (below_drewN (Below.refl w5.heap.size w5) n))
          go_upto_region 21 with fail
          go_quiet ((go_at_call 71; exact Calls.quiet_of (TQ.out _ _ (HBb.out _))))
          go_wp2_with fail
          refine (HV.out _ _ (HBb.out _)).mono ?_
          rintro e w7 ⟨rfl, row7, h7, k7⟩
          have HI7 := hid h7
          have HK7 := hid ((HK5.out.below (below_drewN (Below.refl w5.heap.size w5) _)).trans k7)
          clear h7 k7
          go_wp2_with fail
          refine pst (wants_any R hi d st2 row7 ⟨#[59]⟩ w7 HI7.out) HK7 ?_
          intro w8 row8 HI8 HK8
          have HLo8 := hid HI8.out.lo
          go_wp2_with fail
          refine pst (putK R.U hi d _ row8 14 noT (some ⟨w8.heap.size, 0, none⟩) 1 1 [k] w8.heap.size _ (HI8.out.alloc _) (kid1 w8 k) HLo8.out) HK8 ?_
          intro w9 row9 HI9 HK9
          go_wp2
          go_ret
          exact ⟨rfl, row9, HI9.out, HK9.out⟩
         ·clear hI hn hdp g1 g2 g3 g4 g5 hlen hlt hl1 hy gn g6
          go_enter func106, ntmps106
          go_wp2_with fail
          refine (T1.out _ HI0.out).mono ?_
          rintro e w1 ⟨rfl, h1⟩
          have HI1 := hid (HI0.out.next h1)
          have HK1 := hid (HK0.out.below h1)
          clear h1
          go_wp2_with fail
          refine pst (T2.out row w1 HI1.out) HK1 ?_
          intro w2 row2 HI2 HK2
          go_wp2_with fail
          refine pst (T3.out row2 w2 HI2.out) HK2 ?_
          intro w3 row3 HI3 HK3
          go_wp2_with fail
          refine pst (T4.out row3 w3 HI3.out) HK3 ?_
          intro w4 row4 HI4 HK4
          go_wp2_with fail
          refine pst (T5.out row4 w4 HI4.out) HK4 ?_
          intro w5 row5 HI5 HK5
          have HR5 : RdI R d (some s) row5 w5 := HI5.out
          have hok5 : R.Ok := HR5.ok
          have hmo5 : R.n ≤ 3000 := hok5.most
          have hold5 := HR5.old
          obtain ⟨a5, b5, AN5, cN5, l5, hc5, hst5, hrow5⟩ := id HR5
          obtain ⟨x0, x1, x2, x3, x4, xf, xz⟩ := hc5.cs hi
          have ha5 : s.at_ = a5 := hst5.2.1
          have hy5 := HY.out
          rw [ha5] at hy5
          have hl5' : a5 + 1 < R.n := by
           have h1 : a5 + 1 < R.sg.length := (List.getElem?_eq_some_iff.1 hy5).1
           have h2 : R.sg.length = R.n := hok5.len
           omega
          obtain ⟨b1, off, hA, hblt, e0, e1, e2, e3⟩ := sgn_at (hok5.rd.below hold5) (show a5 + 1 < R.n from hl5') hy5
          rw [hA] at x0
          dsimp only at e0 e1
          have hl2 : (a5 : Int) + 1 < (R.n : Int) := by omega
          have hl3 : decide ((a5 : Int) + 1 < (R.n : Int)) = true := decide_eq_true hl2
          have ht2 : ((a5 : Int) + 1).toNat = a5 + 1 := by omega
          have hw5 : IntKind.i64.wrap ((a5 : Int) + 1) = (a5 : Int) + 1 := IntWalk.i64_in _ (by omega)
          clear HR5 hc5 hst5 hrow5 hy5 hok5 hold5 x2 x3 x4 e2 e3 hA
          have HBb := hid (fun (n : Nat) => HI5.out.next (below_drewN (Below.refl w5.heap.size w5) n))
          go_upto_region 21 with fail
          go_quiet ((go_at_call 71; exact Calls.quiet_of (TQ.out _ _ (HBb.out _))))
          go_wp2_with fail
          refine (HV.out _ _ (HBb.out _)).mono ?_
          rintro e w7 ⟨rfl, row7, h7, k7⟩
          have HI7 := hid h7
          have HK7 := hid ((HK5.out.below (below_drewN (Below.refl w5.heap.size w5) _)).trans k7)
          clear h7 k7
          go_wp2_with fail
          refine pst (wants_any R hi d st2 row7 ⟨#[59]⟩ w7 HI7.out) HK7 ?_
          intro w8 row8 HI8 HK8
          have HLo8 := hid HI8.out.lo
          go_wp2_with fail
          refine pst (putK R.U hi d _ row8 14 noT (some ⟨w8.heap.size, 0, none⟩) 1 1 [k] w8.heap.size _ (HI8.out.alloc _) (kid1 w8 k) HLo8.out) HK8 ?_
          intro w9 row9 HI9 HK9
          go_wp2
          go_ret
          exact ⟨rfl, row9, HI9.out, HK9.out⟩
        ·clear hI hn hdp g1 g2 g3 g4 g5 hlen hlt gn g6
         go_enter func106, ntmps106
         go_wp2_with fail
         refine (T1.out _ HI0.out).mono ?_
         rintro e w1 ⟨rfl, h1⟩
         have HI1 := hid (HI0.out.next h1)
         have HK1 := hid (HK0.out.below h1)
         clear h1
         go_wp2_with fail
         refine pst (T2.out row w1 HI1.out) HK1 ?_
         intro w2 row2 HI2 HK2
         go_wp2_with fail
         refine pst (T3.out row2 w2 HI2.out) HK2 ?_
         intro w3 row3 HI3 HK3
         go_wp2_with fail
         refine pst (T4.out row3 w3 HI3.out) HK3 ?_
         intro w4 row4 HI4 HK4
         go_wp2_with fail
         refine pst (T5.out row4 w4 HI4.out) HK4 ?_
         intro w5 row5 HI5 HK5
         have HR5 : RdI R d (some s) row5 w5 := HI5.out
         have hok5 : R.Ok := HR5.ok
         have hmo5 : R.n ≤ 3000 := hok5.most
         obtain ⟨a5, b5, AN5, cN5, l5, hc5, hst5, hrow5⟩ := id HR5
         obtain ⟨x0, x1, x2, x3, x4, xf, xz⟩ := hc5.cs hi
         have ha5 : s.at_ = a5 := hst5.2.1
         have hl2 : ¬ (a5 : Int) + 1 < (R.n : Int) := by omega
         have hl3 : decide ((a5 : Int) + 1 < (R.n : Int)) = false := decide_eq_false hl2
         have hw5 : IntKind.i64.wrap ((a5 : Int) + 1) = (a5 : Int) + 1 := IntWalk.i64_in _ (by have h1 := hc5.2.2.2.2.1; omega)
         clear HR5 hc5 hst5 hrow5 hok5 x2 x3 x4
         have HBb := hid (fun (n : Nat) => HI5.out.next (below_drewN (Below.refl w5.heap.size w5) n))
         go_upto_region 21 with fail
         go_quiet ((go_at_call 71; exact Calls.quiet_of (TQ.out _ _ (HBb.out _))))
         go_wp2_with fail
         refine (HV.out _ _ (HBb.out _)).mono ?_
         rintro e w7 ⟨rfl, row7, h7, k7⟩
         have HI7 := hid h7
         have HK7 := hid ((HK5.out.below (below_drewN (Below.refl w5.heap.size w5) _)).trans k7)
         clear h7 k7
         go_wp2_with fail
         refine pst (wants_any R hi d st2 row7 ⟨#[59]⟩ w7 HI7.out) HK7 ?_
         intro w8 row8 HI8 HK8
         have HLo8 := hid HI8.out.lo
         go_wp2_with fail
         refine pst (putK R.U hi d _ row8 14 noT (some ⟨w8.heap.size, 0, none⟩) 1 1 [k] w8.heap.size _ (HI8.out.alloc _) (kid1 w8 k) HLo8.out) HK8 ?_
         intro w9 row9 HI9 HK9
         go_wp2
         go_ret
         exact ⟨rfl, row9, HI9.out, HK9.out⟩
       ·rw [gn] at TQ
        clear hI hn hdp g1 g2 g3 g4 g5 hlen gn g6
        go_enter func106, ntmps106
        go_wp2_with fail
        refine (T1.out _ HI0.out).mono ?_
        rintro e w1 ⟨rfl, h1⟩
        have HI1 := hid (HI0.out.next h1)
        have HK1 := hid (HK0.out.below h1)
        clear h1
        go_wp2_with fail
        refine pst (T2.out row w1 HI1.out) HK1 ?_
        intro w2 row2 HI2 HK2
        go_wp2_with fail
        refine pst (T3.out row2 w2 HI2.out) HK2 ?_
        intro w3 row3 HI3 HK3
        go_wp2_with fail
        refine pst (T4.out row3 w3 HI3.out) HK3 ?_
        intro w4 row4 HI4 HK4
        go_wp2_with fail
        refine pst (T5.out row4 w4 HI4.out) HK4 ?_
        intro w5 row5 HI5 HK5
        have HBb := hid (fun (n : Nat) => HI5.out.next (below_drewN (Below.refl w5.heap.size w5) n))
        go_upto_region 21 with fail
        go_quiet ((go_at_call 71; exact Calls.quiet_of (TQ.out _ _ (HBb.out _))))
        go_wp2_with fail
        refine (HV.out _ _ (HBb.out _)).mono ?_
        rintro e w7 ⟨rfl, row7, h7, k7⟩
        have HI7 := hid h7
        have HK7 := hid ((HK5.out.below (below_drewN (Below.refl w5.heap.size w5) _)).trans k7)
        clear h7 k7
        go_wp2_with fail
        refine pst (wants_any R hi d st2 row7 ⟨#[59]⟩ w7 HI7.out) HK7 ?_
        intro w8 row8 HI8 HK8
        have HLo8 := hid HI8.out.lo
        go_wp2_with fail
        refine pst (putK R.U hi d _ row8 14 noT (some ⟨w8.heap.size, 0, none⟩) 1 1 [k] w8.heap.size _ (HI8.out.alloc _) (kid1 w8 k) HLo8.out) HK8 ?_
        intro w9 row9 HI9 HK9
        go_wp2
        go_ret
        exact ⟨rfl, row9, HI9.out, HK9.out⟩
end Go.Proofs.YtgbikafalcbibaaGreatDoor

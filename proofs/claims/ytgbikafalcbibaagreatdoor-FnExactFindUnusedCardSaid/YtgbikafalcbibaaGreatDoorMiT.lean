/-
  Put together by program (shake.py): SpaR.
-/
import Derived.Test.YtgbikafalcbibaaGreatDoorMiS
set_option maxRecDepth 100000
set_option maxHeartbeats 25600000
set_option linter.unusedVariables false
set_option linter.unusedSimpArgs false
open Go.Lib (hid)
open Go.Proofs.Tryz
namespace Go.Proofs.YtgbikafalcbibaaGreatDoor
open Go.RowKit
theorem sc_u {R : RC} {N f : Nat} (U : Nat → Prop) (h : SC R N f) : SC { R with U := U } N f :=
 ⟨fun U' d st row w hI => h.value U' d st row w hI, fun U' d st row w hI => h.pick U' d st row w hI, fun U' l d st row w hI => h.chain U' l d st row w hI, fun U' d st row w hI => h.end_ U' d st row w hI, fun U' d st row w hI => h.base U' d st row w hI, fun U' d st row w hI => h.step U' d st row w hI, fun U' d st row w hI => h.block U' d st row w hI⟩
theorem sc_all (R : RC) (hi : R.imp = false) (hm : MarksOk R.sg) (N : Nat) (hN : R.n < N) : ∀ f, SC R N f := by
 intro f
 induction f with
 | zero =>
  exact ⟨fun U d st row w hI hn => absurd hn.1 (by omega), fun U d st row w hI hn => absurd hn.1 (by omega), fun U l d st row w hI hl hn => absurd hn.1 (by omega), fun U d st row w hI hn => absurd hn.1 (by omega), fun U d st row w hI hn => absurd hn.1 (by omega), fun U d st row w hI hn => absurd hn.1 (by omega), fun U d st row w hI hn => absurd hn.1 (by omega)⟩
 | succ f ih =>
  exact ⟨fun U d st row w hI hn hd hdp => svalue_step { R with U := U } hi N f hN (sc_u U ih) d st row w hI hn hd hdp,
   fun U d st row w hI hn hd hdp => spick_step { R with U := U } hi N f (sc_u U ih) d st row w hI hn hd hdp,
   fun U l d st row w hI hl hn hd hdp => schain_step { R with U := U } hi N f hN (sc_u U ih) l d hl st row w hI hn hd hdp,
   fun U d st row w hI hn hd hdp => send_step { R with U := U } hi N f hN (sc_u U ih) d st row w hI hn hd hdp,
   fun U d st row w hI hn hd hdp => sbase_step { R with U := U } hi hm N f hN (sc_u U ih) d st row w hI hn hd hdp,
   fun U d st row w hI hn hd hdp => sstep_step { R with U := U } hi N f hN (sc_u U ih) d st row w hI hn hd hdp,
   fun U d st row w hI hn hd hdp => sblock_step { R with U := U } hi N f hN (sc_u U ih) d st row w hI hn hd hdp⟩
theorem need_top {n F : Nat} (hF : 14 * (n + 2) ≤ F) (st : RdSt) {r : Nat} (hr : r ≤ 28) : Need n st r F := ⟨by omega, fun s _ => by
 have : n - s.at_ ≤ n := Nat.sub_le _ _
 omega⟩
theorem deep0 (st : RdSt) : Deep 0 st := fun _ _ => by omega
theorem smember_no (R : RC) (hi : R.imp = false) (N F : Nat) (hF : 14 * (R.n + 2) ≤ F) (hd : F ≤ 100000) (hN : R.n < N) (HE : SC R N F) (st : RdSt) (row : Option Nat) (w : World) (hI : RdI R 0 st row w) :
  Calls prog 44 #[.pointer (some ⟨R.T, 0, none⟩), .bool false] w (Does R 0 row w (.int .i64 (memS R.sg (exprF R.sg N F) N false st).1) (memS R.sg (exprF R.sg N F) N false st).2) := by
 obtain ⟨i0, hi0, hz0, hz1, hz2⟩ := info_parts infoInt
 have HII := hid (And.intro hi0 (And.intro hz0 (And.intro hz1 hz2)))
 clear hi0 hz0 hz1 hz2
 have HI0 := hid hI
 have HK0 := hid (Kr.refl R.T row w)
 have HLo := hid hI.lo
 have HB0 := hid hI.lo.1
 unfold Does memS
 have T1 := hid (fun (W : World) h => kindK_any R hi 0 st row 5 (by decide) (by decide) W h)
 by_cases g1 : (sgAt R.sg st 0).1 = 5
 ·rw [if_pos g1]
  rw [show ((sgAt R.sg st 0).1 == 5) = true from by rw [g1]; decide] at T1
  have X2 := hid (fun (W : World) h => textK_any R hi 0 st row 5 (by decide) (by decide) W h g1)
  unfold Does at X2
  have HEq := hid (noteS_eq (sg := R.sg) st)
  generalize noteS R.sg false st = r at HEq ⊢
  obtain ⟨k, st2⟩ := r
  generalize (sgAt R.sg st 0).2.1 = tx at X2 HEq
  dsimp only
  clear hI g1
  go_enter func44, ntmps44
  go_wp2_with fail
  refine (T1.out _ HI0.out).mono ?_
  rintro e w1 ⟨rfl, h1⟩
  have HI1 := hid (HI0.out.next h1)
  have HK1 := hid (HK0.out.below h1)
  clear h1
  go_wp2_with fail
  refine pst (X2.out w1 HI1.out) HK1 ?_
  intro w2 row2 HI2 HK2
  have HLo2 := hid HI2.out.lo
  have HP := hid (putK R.U hi 0 (skipS st) row2 19 tx _ 0 0 [] w2.heap.size (w2.alloc (.cells #[] 3)) (HI2.out.next ((Below.refl _ _).alloc (Nat.le_refl _) _)) (kid0 w2) HLo2.out)
  rw [HEq.out] at HP
  dsimp only at HP
  go_wp2_with fail
  refine pst (HP.out) HK2 ?_
  intro w3 row3 HI3 HK3
  go_wp2
  go_ret
  exact ⟨rfl, row3, HI3.out, HK3.out⟩
 ·rw [if_neg g1]
  rw [show ((sgAt R.sg st 0).1 == 5) = false from beq_eq_false_iff_ne.2 g1] at T1
  have T2 := hid (fun (row : Option Nat) (W : World) h => word_u R.U hi 0 st row ⟨#[118, 97, 114]⟩ W h)
  rcases bft (isW R.sg st ⟨#[118, 97, 114]⟩) with g2 | g2
  ·rw [if_pos g2]
   rw [g2, skipWIf_yes g2] at T2
   have HV := hid (fun (row : Option Nat) (W : World) h => svariable_any R hi N F HE 0 (skipS st) row W h (need_top hF _ (by omega)) (by omega) (deep0 _))
   unfold Does at HV
   generalize varS R.sg (exprF R.sg N F) 0 false (skipS st) = r at HV ⊢
   obtain ⟨k, st2⟩ := r
   dsimp only at HV ⊢
   clear hI g1 g2
   go_enter func44, ntmps44
   go_wp2_with fail
   refine (T1.out _ HI0.out).mono ?_
   rintro e w1 ⟨rfl, h1⟩
   have HI1 := hid (HI0.out.next h1)
   have HK1 := hid (HK0.out.below h1)
   clear h1
   go_wp2_with fail
   refine pst (T2.out row w1 HI1.out) HK1 ?_
   intro w2 row2 HI2 HK2
   go_wp2_with fail
   refine pst (HV.out row2 w2 HI2.out) HK2 ?_
   intro w3 row3 HI3 HK3
   go_wp2
   go_ret
   exact ⟨rfl, row3, HI3.out, HK3.out⟩
  ·rw [if_neg (by rw [g2]; decide)]
   rw [g2, skipWIf_no g2] at T2
   unfold methS
   dsimp only
   have HX := hid (fun (row : Option Nat) (W : World) h => textN_u R.U hi 0 st row W h)
   generalize nmT R.sg st = tx at HX ⊢
   generalize nmS R.sg st = stn at HX ⊢
   have HL := hid (fun (row : Option Nat) (W : World) h => names_any R hi 0 N stn row W h hN)
   generalize listF R.sg (nameNodeS R.sg) ⟨#[41]⟩ N [] (takeS R.sg stn ⟨#[40]⟩) = q at HL ⊢
   obtain ⟨ks, stq⟩ := q
   dsimp only at HL ⊢
   have HV := hid (fun (U : Nat → Prop) (row : Option Nat) (W : World) h => HE.block U 0 (takeS R.sg stq ⟨#[41]⟩) row W h (need_top hF _ (by omega)) (by omega) (deep0 _))
   unfold PosS at HV
   generalize exprF R.sg N F .block 0 (takeS R.sg stq ⟨#[41]⟩) = r at HV ⊢
   obtain ⟨k, st2⟩ := r
   dsimp only at HV ⊢
   clear hI g1 g2 
   go_enter func44, ntmps44
   go_wp2_with fail
   refine (T1.out _ HI0.out).mono ?_
   rintro e w1 ⟨rfl, h1⟩
   have HI1 := hid (HI0.out.next h1)
   have HK1 := hid (HK0.out.below h1)
   clear h1
   go_wp2_with fail
   refine pst (T2.out row w1 HI1.out) HK1 ?_
   intro w2 row2 HI2 HK2
   have HI3 := HI2
   have HK3 := HK2
   go_wp2_with fail
   refine pst (HX.out row2 w2 HI3.out) HK3 ?_
   intro w4 row4 HI4 HK4
   go_wp2_with fail
   refine (HL.out row4 w4 HI4.out).mono ?_
   rintro e w5 ⟨A, n, c, rfl, rfl, m5, hle, row5, h5, k5⟩
   have hz4 := HK4.out.size
   have HM5 := hid (m5.more (B' := w.heap.size) hz4)
   have HI5 := hid h5
   have HK5 := hid (HK4.out.trans k5)
   clear h5 k5 m5 HL
   go_wp2_with fail
   refine (HV.out _ _ _ HI5.out).mono ?_
   rintro e w6 ⟨rfl, row6, h6, k6⟩
   have HM := hid (HI5.out.keepI k6 HM5.out)
   have HI6 := hid h6
   have HK6 := hid (HK5.out.trans k6)
   clear h6 k6 HV HM5
   go_wp2_with (at_builtin; refine app_int (.tmp 67) (.tmp 70) HI6 HK6 HM HB0 rfl rfl rfl rfl (by omega) ?_; intro A7 c7 w7 HI7 HK7 HM7)
   replace HM := HM7
   clear HM7
   have HI7' := hid HI7.out.unres
   go_wp2_with fail
   refine (putK R.U hi 0 st2 row6 20 tx A7 (ks.length + 1) c7 (ks ++ [k]) w.heap.size w7 HI7'.out HM.out HLo.out).mono ?_
   rintro e w8 ⟨rfl, row8, h8, k8⟩
   go_wp2
   go_ret
   exact ⟨rfl, row8, h8, HK7.out.trans k8⟩
theorem smember_top (R : RC) (hi : R.imp = false) (N F : Nat) (hF : 14 * (R.n + 2) ≤ F) (hd : F ≤ 100000) (hN : R.n < N) (HE : SC R N F) (st : RdSt) (row : Option Nat) (w : World) (hI : RdI R 0 st row w) :
  Calls prog 44 #[.pointer (some ⟨R.T, 0, none⟩), .bool true] w (Does R 0 row w (.int .i64 (topS R.sg (exprF R.sg N F) N false st).1) (topS R.sg (exprF R.sg N F) N false st).2) := by
 obtain ⟨i0, hi0, hz0, hz1, hz2⟩ := info_parts infoInt
 have HII := hid (And.intro hi0 (And.intro hz0 (And.intro hz1 hz2)))
 clear hi0 hz0 hz1 hz2
 have HI0 := hid hI
 have HK0 := hid (Kr.refl R.T row w)
 have HLo := hid hI.lo
 have HB0 := hid hI.lo.1
 unfold Does topS
 have T1 := hid (fun (W : World) h => kindK_any R hi 0 st row 5 (by decide) (by decide) W h)
 by_cases g1 : (sgAt R.sg st 0).1 = 5
 ·rw [if_pos g1]
  rw [show ((sgAt R.sg st 0).1 == 5) = true from by rw [g1]; decide] at T1
  have X2 := hid (fun (W : World) h => textK_any R hi 0 st row 5 (by decide) (by decide) W h g1)
  unfold Does at X2
  have HEq := hid (noteS_eq (sg := R.sg) st)
  generalize noteS R.sg false st = r at HEq ⊢
  obtain ⟨k, st2⟩ := r
  generalize (sgAt R.sg st 0).2.1 = tx at X2 HEq
  dsimp only
  clear hI g1
  go_enter func44, ntmps44
  go_wp2_with fail
  refine (T1.out _ HI0.out).mono ?_
  rintro e w1 ⟨rfl, h1⟩
  have HI1 := hid (HI0.out.next h1)
  have HK1 := hid (HK0.out.below h1)
  clear h1
  go_wp2_with fail
  refine pst (X2.out w1 HI1.out) HK1 ?_
  intro w2 row2 HI2 HK2
  have HLo2 := hid HI2.out.lo
  have HP := hid (putK R.U hi 0 (skipS st) row2 19 tx _ 0 0 [] w2.heap.size (w2.alloc (.cells #[] 3)) (HI2.out.next ((Below.refl _ _).alloc (Nat.le_refl _) _)) (kid0 w2) HLo2.out)
  rw [HEq.out] at HP
  dsimp only at HP
  go_wp2_with fail
  refine pst (HP.out) HK2 ?_
  intro w3 row3 HI3 HK3
  go_wp2
  go_ret
  exact ⟨rfl, row3, HI3.out, HK3.out⟩
 ·rw [if_neg g1]
  rw [show ((sgAt R.sg st 0).1 == 5) = false from beq_eq_false_iff_ne.2 g1] at T1
  have T2 := hid (fun (row : Option Nat) (W : World) h => word_u R.U hi 0 st row ⟨#[118, 97, 114]⟩ W h)
  rcases bft (isW R.sg st ⟨#[118, 97, 114]⟩) with g2 | g2
  ·rw [if_pos g2]
   rw [g2, skipWIf_yes g2] at T2
   have HV := hid (fun (row : Option Nat) (W : World) h => svariable_any R hi N F HE 0 (skipS st) row W h (need_top hF _ (by omega)) (by omega) (deep0 _))
   unfold Does at HV
   generalize varS R.sg (exprF R.sg N F) 0 false (skipS st) = r at HV ⊢
   obtain ⟨k, st2⟩ := r
   dsimp only at HV ⊢
   clear hI g1 g2
   go_enter func44, ntmps44
   go_wp2_with fail
   refine (T1.out _ HI0.out).mono ?_
   rintro e w1 ⟨rfl, h1⟩
   have HI1 := hid (HI0.out.next h1)
   have HK1 := hid (HK0.out.below h1)
   clear h1
   go_wp2_with fail
   refine pst (T2.out row w1 HI1.out) HK1 ?_
   intro w2 row2 HI2 HK2
   go_wp2_with fail
   refine pst (HV.out row2 w2 HI2.out) HK2 ?_
   intro w3 row3 HI3 HK3
   go_wp2
   go_ret
   exact ⟨rfl, row3, HI3.out, HK3.out⟩
  ·rw [if_neg (by rw [g2]; decide)]
   rw [g2, skipWIf_no g2] at T2
   have T3 := hid (fun (row : Option Nat) (W : World) h => word_u R.U hi 0 st row ⟨#[99, 108, 97, 115, 115]⟩ W h)
   rcases bft (isW R.sg st ⟨#[99, 108, 97, 115, 115]⟩) with g3 | g3
   ·rw [if_pos g3]
    rw [g3, skipWIf_yes g3] at T3
    have HO : Hid (∀ (U : Nat → Prop) (t : PS) (row : Option Nat) (w : World), RdI { R with U := U } 0 (some t) row w → Adv 0 0 (none : RdSt) none → Deep 0 (some t) → Calls prog 44 #[.pointer (some ⟨R.T, 0, none⟩), .bool false] w (fun e w' => e = .returned (.int .i64 (memS R.sg (exprF R.sg N F) N false (some t)).1) ∧ ∃ row', RdI { R with U := U } 0 (memS R.sg (exprF R.sg N F) N false (some t)).2 row' w' ∧ Kr R.T row w row' w')) := (show ∀ U t row w, _ → _ → _ → _ from fun U t row w h _ _ => smember_no { R with U := U } hi N F hF hd hN (sc_u U HE) (some t) row w h)
    have HONE : Hid (∀ b st, memS R.sg (exprF R.sg N F) N b st = blankR b (memS R.sg (exprF R.sg N F) N false st)) := (show ∀ b st, _ from fun b st => mem_blank b st)
    have HNN : Hid (∀ st, 0 ≤ (memS R.sg (exprF R.sg N F) N false st).1) := (show ∀ st, _ from fun st => mem_nn false st)
    have HA2 : Hid (∀ b st, Adv 1 1 st (memS R.sg (exprF R.sg N F) N b st).2) := (show ∀ b st, _ from fun b st => adv_mem (fun m d st => adv_expr F m d st) b st)
    unfold classS
    dsimp only
    have HX := hid (fun (row : Option Nat) (W : World) h => textN_u R.U hi 0 (skipS st) row W h)
    generalize nmT R.sg (skipS st) = tx at HX ⊢
    generalize nmS R.sg (skipS st) = stn at HX ⊢
    have HW := hid (fun (row : Option Nat) (W : World) h => wants_u R.U hi 0 stn row ⟨#[123]⟩ W h)
    generalize takeS R.sg stn ⟨#[123]⟩ = st2 at HW ⊢
    obtain ⟨Q, hQ⟩ : ∃ Q, bodyF R.sg (memS R.sg (exprF R.sg N F) N) N [] st2 = Q := ⟨_, rfl⟩
    rw [hQ]
    have HQ := hid hQ
    obtain ⟨T, hT⟩ : ∃ T, takeS R.sg Q.2 ⟨#[125]⟩ = T := ⟨_, rfl⟩
    rw [hT]
    have HT := hid hT
    obtain ⟨one, hone⟩ : ∃ one, memS R.sg (exprF R.sg N F) N = one := ⟨_, rfl⟩
    rw [hone] at HQ HONE HA2 HNN HO
    obtain ⟨one2, hone2⟩ : ∃ one2, one false = one2 := ⟨_, rfl⟩
    rw [hone2] at HONE HNN HO
    have HAD0 : Hid (Adv 0 0 (none : RdSt) none) := (Adv.refl none)
    have HDp0 : Hid (Deep 0 st2) := deep0 _
    clear hI g1 g2 g3 hQ hT hone hone2 HE
    go_enter func44, ntmps44
    go_wp2_with fail
    refine (T1.out _ HI0.out).mono ?_
    rintro e w1 ⟨rfl, h1⟩
    have HI1 := hid (HI0.out.next h1)
    have HK1 := hid (HK0.out.below h1)
    clear h1
    go_wp2_with fail
    refine pst (T2.out row w1 HI1.out) HK1 ?_
    intro w2 row2 HI2 HK2
    have HI12 := HI2
    have HK12 := HK2
    go_wp2_with fail
    refine pst (T3.out row2 w2 HI12.out) HK12 ?_
    intro w13 row13 HI13 HK13
    go_wp2_with fail
    refine pst (HX.out row13 w13 HI13.out) HK13 ?_
    intro w14 row14 HI14 HK14
    go_wp2_with fail
    refine pst (HW.out row14 w14 HI14.out) HK14 ?_
    intro w15 row15 HI15 HK15
    go_upto_region 9 with fail
    have hz2 := HK15.out.size
    have HM3 := hid ((kid0 w15).more (B' := w.heap.size) (by omega))
    have HI3 := hid (HI15.out.res_new (A := some ⟨w15.heap.size, 0, none⟩) ((Below.refl _ _).alloc (Nat.le_refl _) (.cells #[] 3)) (fun g hg => by simp at hg; subst hg; simp))
    have HK3 := hid (HK15.out.below ((Below.refl _ _).alloc (Nat.le_refl _) (.cells #[] 3)))
    go_loopw [6] (fun v wr => ∃ (M : Nat) (ks : List Int) (st' : RdSt) (row' : Option Nat) (A : Option Addr) (c : Nat), v = .slice A ks.length c ∧ Hid (bodyF R.sg one M ks st' = Q) ∧ Hid (Adv 0 0 (none : RdSt) none) ∧ Hid (Deep 0 st') ∧ Hid (Enough R.n M st') ∧ Hid (KidB ks st') ∧ Hid (Mine wr w.heap.size 3 1 A ks.length c (intCells ks)) ∧ Hid (RdI (R.res A) 0 st' row' wr) ∧ Hid (Kr R.T row w row' wr)) (fun _ wr => measP R wr)
    case atStart => exact ⟨N, [], st2, row15, _, 0, rfl, HQ, HAD0, HDp0, (show Enough _ _ _ from enough_of hN _), ⟨by simp, fun s _ => by simp⟩, HM3, HI3, HK3⟩
    case round =>
     clear HQ HAD0 HI3 HK3 HM3
     obtain ⟨M, ks, st', row', A, c, rfl, HQ, HAD, HDp, HEn, HKB, HM, HI, HK⟩ := hrel
     have HIo := HI
     cases st' with
     | none =>
      obtain ⟨a, b, AN, cN, l, hc, hb, hrow⟩ := HI.out
      obtain ⟨c1, c2, c3, cf, cz⟩ := hc.csu _ hi
      obtain rfl : b = true := hb
      have hq := HQ.out
      rw [bodyF_none] at hq
      subst hq
      have ht := HT.out
      rw [take_none'] at ht
      subst ht
      clear hc hrow c1 c3 HQ HT
      have HF1 := hid HI.out.unres
      have HMF := HM
      have HKF := HK
      go_wp2_with fail
      refine (putK R.U hi 0 none _ 21 tx A ks.length c ks w.heap.size _ HF1.out HMF.out HLo.out).mono ?_
      rintro e w9 ⟨rfl, row9, h9, k9⟩
      go_wp2
      go_ret
      exact ⟨rfl, row9, h9, HKF.out.trans k9⟩
     | some t =>
      obtain ⟨M, rfl⟩ : ∃ M', M = M' + 1 := ⟨M - 1, by
       have h1 := HEn.out t rfl
       have h2 := (HI.out.le rfl).1
       have : (R.res A).n = R.n := rfl
       omega⟩
      obtain ⟨a, b, AN, cN, l, hc, hb, hrow⟩ := HI.out
      obtain ⟨c1, c2, c3, cf, cz⟩ := hc.csu _ hi
      obtain ⟨rfl, _, _⟩ := hb
      have HIs := hid (mark_u _ hi 0 (some t) row' ⟨#[125]⟩ wr HI.out)
      have hq := HQ.out
      unfold bodyF at hq
      rw [if_neg (show ¬ (some t).isNone = true by simp)] at hq
      clear hc hrow c1 c3 HQ
      rcases bft (isM R.sg (some t) ⟨#[125]⟩) with hM | hM
      ·rw [if_pos hM] at hq
       subst hq
       have ht := HT.out
       rw [show takeS R.sg (ks, some t).2 ⟨#[125]⟩ = skipS (some t) from take_yes hM] at ht
       subst ht
       rw [hM, skipIf_yes hM] at HIs
       clear hM HT
       go_wp2_with fail
       refine HIs.out.mono ?_
       rintro e w2 ⟨rfl, row2, h2, k2⟩
       have HM2 := hid (HI.out.keepI k2 HM.out)
       have HK2 := hid (HK.out.trans k2)
       replace HM := HM2
       replace HK := HK2
       replace HI := hid h2
       clear c2 cf cz h2 k2 HM2 HK2
       have HF1 := hid HI.out.unres
       have HMF := HM
       have HKF := HK
       go_wp2_with fail
       refine (putK R.U hi 0 (skipS (some t)) _ 21 tx A ks.length c ks w.heap.size _ HF1.out HMF.out HLo.out).mono ?_
       rintro e w9 ⟨rfl, row9, h9, k9⟩
       go_wp2
       go_ret
       exact ⟨rfl, row9, h9, HKF.out.trans k9⟩
      ·rw [if_neg (by rw [hM]; decide)] at hq
       rw [hM, skipIf_no hM] at HIs
       have HX := hid (fun (row : Option Nat) (W : World) h => sblank_any (R.res A) hi 0 t row W h)
       have hbl : blankB R.sg (some t) ks = ((sgAt R.sg (some t) 0).2.2.2 && decide (0 < ks.length)) := rfl
       rw [hbl] at hq
       have hsr : (R.res A).sg = R.sg := rfl
       rw [hsr] at HX
       generalize sgAt R.sg (some t) 0 = x at HX hq hbl
       obtain ⟨xk, xt, xp, xz⟩ := x
       dsimp only at HX hq hbl
       clear hM hbl hsr
       have hkb1 := HKB.out.2 t rfl
       have hnb := (HI.out.le rfl).2
       have hkb := HKB.out.1
       have hadv3 := HA2.out (xz && decide (0 < ks.length)) (some t)
       rw [HONE.out] at hq hadv3
       have hnn := HNN.out (some t)
       have HC := hid (fun (row : Option Nat) (W : World) h => HO.out (fun x => R.U x ∨ A.map (·.block) = some x) t row W h HAD.out HDp.out)
       generalize one2 (some t) = r at hq hadv3 hnn HC
       obtain ⟨kc, st3⟩ := r
       unfold blankR at hq hadv3
       dsimp only at hq hadv3 hnn HC
       have HAK : Hid (KidB (ks ++ [kc]) (blankK kc (xz && decide (0 < ks.length)) st3)) := (show KidB _ _ from ⟨by rw [lA]; simp; omega, fun t2 e => by
        obtain ⟨s'', e2, _, h3⟩ := hadv3 t2 e
        obtain rfl := Option.some.inj e2
        rw [lA]
        simp
        omega⟩)
       have HAN : Hid (Enough R.n M (blankK kc (xz && decide (0 < ks.length)) st3)) := HEn.out.adv (i := 0) hadv3
       have HAA := HAD
       have HDD : Hid (Deep (0) (blankK kc (xz && decide (0 < ks.length)) st3)) := HDp.out.adv hadv3
       have hlk : (ks ++ [kc]).length = ks.length + 1 := by simp
       have HQ3 := hid hq
       have HAD3 := hid hadv3
       clear hq hadv3
       cases xz with
       | false =>
        rw [Bool.false_and] at HAK HAN HDD HQ3 HAD3
        go_wp2_with fail
        refine HIs.out.mono ?_
        rintro e w2 ⟨rfl, row2, h2, k2⟩
        have HI2 := hid h2
        have HM2 := hid (HI.out.keepI k2 HM.out)
        have HK2 := hid (HK.out.trans k2)
        clear c2 cf cz h2 k2 HIs
        go_wp2_with fail
        refine (HX.out _ _ HI2.out).mono ?_
        rintro e w3 ⟨rfl, g3⟩
        have HI3 := hid (HI2.out.next g3)
        have HM3 := hid (HM2.out.next g3)
        have HK3 := hid (HK2.out.below g3)
        clear g3 HX HI2 HM2 HK2
        go_wp2_with fail
        refine (HC.out _ _ HI3.out).mono ?_
        rintro e w4 ⟨rfl, row4, h4, k4⟩
        have HM4 := hid (HI3.out.keepI k4 HM3.out)
        have HI4 := hid h4
        have HK4 := hid (HK3.out.trans k4)
        clear h4 k4 HI3 HM3 HK3
        have HBk := hid (blanked_any (R.res A) hi 0 st3 row4 kc hnn false w4 HI4.out)
        unfold Does at HBk
        go_wp2_with fail
        refine HBk.out.mono ?_
        rintro e w5 ⟨rfl, row5, h5, k5⟩
        have HM := hid (HI4.out.keepI k5 HM4.out)
        have HI5 := hid h5
        have HK5 := hid (HK4.out.trans k5)
        clear h5 k5 HI4 HM4 HK4 HBk
        go_wp2_with (at_builtin; refine app_int (.tmp 55) (.tmp 57) HI5 HK5 HM HB0 rfl rfl rfl rfl (by omega) ?_; intro A6 c6 w6 HI6 HK6 HM6)
        replace HM := HM6
        clear HM6
        go_wp2
        go_roundw
        case rel => exact ⟨M, ks ++ [kc], _, row5, A6, c6, by rw [hlk], HQ3, HAA, HDD, HAN, HAK, by rw [hlk]; exact HM, HI6, HK6⟩
        case measure => exact measp_u hi HIo.out HI6.out (HAD3.out.weak (i' := 1) (j' := 0) (by omega) (by omega))
       | true =>
        rw [Bool.true_and] at HAK HAN HDD HQ3 HAD3
        go_wp2_with fail
        refine HIs.out.mono ?_
        rintro e w2 ⟨rfl, row2, h2, k2⟩
        have HI2 := hid h2
        have HM2 := hid (HI.out.keepI k2 HM.out)
        have HK2 := hid (HK.out.trans k2)
        clear c2 cf cz h2 k2 HIs
        go_wp2_with fail
        refine (HX.out _ _ HI2.out).mono ?_
        rintro e w3 ⟨rfl, g3⟩
        have HI3 := hid (HI2.out.next g3)
        have HM3 := hid (HM2.out.next g3)
        have HK3 := hid (HK2.out.below g3)
        clear g3 HX HI2 HM2 HK2
        go_wp2_with fail
        refine (HC.out _ _ HI3.out).mono ?_
        rintro e w4 ⟨rfl, row4, h4, k4⟩
        have HM4 := hid (HI3.out.keepI k4 HM3.out)
        have HI4 := hid h4
        have HK4 := hid (HK3.out.trans k4)
        clear h4 k4 HI3 HM3 HK3
        have HBk := hid (blanked_any (R.res A) hi 0 st3 row4 kc hnn (decide (0 < ks.length)) w4 HI4.out)
        unfold Does at HBk
        go_wp2_with fail
        refine HBk.out.mono ?_
        rintro e w5 ⟨rfl, row5, h5, k5⟩
        have HM := hid (HI4.out.keepI k5 HM4.out)
        have HI5 := hid h5
        have HK5 := hid (HK4.out.trans k5)
        clear h5 k5 HI4 HM4 HK4 HBk
        go_wp2_with (at_builtin; refine app_int (.tmp 55) (.tmp 57) HI5 HK5 HM HB0 rfl rfl rfl rfl (by omega) ?_; intro A6 c6 w6 HI6 HK6 HM6)
        replace HM := HM6
        clear HM6
        go_wp2
        go_roundw
        case rel => exact ⟨M, ks ++ [kc], _, row5, A6, c6, by rw [hlk], HQ3, HAA, HDD, HAN, HAK, by rw [hlk]; exact HM, HI6, HK6⟩
        case measure => exact measp_u hi HIo.out HI6.out (HAD3.out.weak (i' := 1) (j' := 0) (by omega) (by omega))
   ·rw [if_neg (by rw [g3]; decide)]
    rw [g3, skipWIf_no g3] at T3
    unfold methS
    dsimp only
    have HX := hid (fun (row : Option Nat) (W : World) h => textN_u R.U hi 0 st row W h)
    generalize nmT R.sg st = tx at HX ⊢
    generalize nmS R.sg st = stn at HX ⊢
    have HL := hid (fun (row : Option Nat) (W : World) h => names_any R hi 0 N stn row W h hN)
    generalize listF R.sg (nameNodeS R.sg) ⟨#[41]⟩ N [] (takeS R.sg stn ⟨#[40]⟩) = q at HL ⊢
    obtain ⟨ks, stq⟩ := q
    dsimp only at HL ⊢
    have HV := hid (fun (U : Nat → Prop) (row : Option Nat) (W : World) h => HE.block U 0 (takeS R.sg stq ⟨#[41]⟩) row W h (need_top hF _ (by omega)) (by omega) (deep0 _))
    unfold PosS at HV
    generalize exprF R.sg N F .block 0 (takeS R.sg stq ⟨#[41]⟩) = r at HV ⊢
    obtain ⟨k, st2⟩ := r
    dsimp only at HV ⊢
    clear hI g1 g2 g3
    go_enter func44, ntmps44
    go_wp2_with fail
    refine (T1.out _ HI0.out).mono ?_
    rintro e w1 ⟨rfl, h1⟩
    have HI1 := hid (HI0.out.next h1)
    have HK1 := hid (HK0.out.below h1)
    clear h1
    go_wp2_with fail
    refine pst (T2.out row w1 HI1.out) HK1 ?_
    intro w2 row2 HI2 HK2
    go_wp2_with fail
    refine pst (T3.out row2 w2 HI2.out) HK2 ?_
    intro w3 row3 HI3 HK3
    go_wp2_with fail
    refine pst (HX.out row3 w3 HI3.out) HK3 ?_
    intro w4 row4 HI4 HK4
    go_wp2_with fail
    refine (HL.out row4 w4 HI4.out).mono ?_
    rintro e w5 ⟨A, n, c, rfl, rfl, m5, hle, row5, h5, k5⟩
    have hz4 := HK4.out.size
    have HM5 := hid (m5.more (B' := w.heap.size) hz4)
    have HI5 := hid h5
    have HK5 := hid (HK4.out.trans k5)
    clear h5 k5 m5 HL
    go_wp2_with fail
    refine (HV.out _ _ _ HI5.out).mono ?_
    rintro e w6 ⟨rfl, row6, h6, k6⟩
    have HM := hid (HI5.out.keepI k6 HM5.out)
    have HI6 := hid h6
    have HK6 := hid (HK5.out.trans k6)
    clear h6 k6 HV HM5
    go_wp2_with (at_builtin; refine app_int (.tmp 67) (.tmp 70) HI6 HK6 HM HB0 rfl rfl rfl rfl (by omega) ?_; intro A7 c7 w7 HI7 HK7 HM7)
    replace HM := HM7
    clear HM7
    have HI7' := hid HI7.out.unres
    go_wp2_with fail
    refine (putK R.U hi 0 st2 row6 20 tx A7 (ks.length + 1) c7 (ks ++ [k]) w.heap.size w7 HI7'.out HM.out HLo.out).mono ?_
    rintro e w8 ⟨rfl, row8, h8, k8⟩
    go_wp2
    go_ret
    exact ⟨rfl, row8, h8, HK7.out.trans k8⟩
end Go.Proofs.YtgbikafalcbibaaGreatDoor

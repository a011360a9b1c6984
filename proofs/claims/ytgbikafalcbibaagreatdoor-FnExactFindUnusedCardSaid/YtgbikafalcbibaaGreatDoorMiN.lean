/-
  Put together by program (shake.py): ParO, ParQ, ParR.
-/
import Derived.Test.YtgbikafalcbibaaGreatDoorMiM
set_option maxRecDepth 100000
set_option maxHeartbeats 25600000
set_option linter.unusedVariables false
set_option linter.unusedSimpArgs false
open Go.Lib (hid)
open Go.Proofs.Tryz
namespace Go.Proofs.YtgbikafalcbibaaGreatDoor
open Go.RowKit
section
variable {R : RC} (U : Nat → Prop) (hi : R.imp = true) (d : Nat) (st : RdSt) (row : Option Nat)
include hi
theorem next_u (w : World) (hI : RdI { R with U := U } d st row w) :
 Calls prog 138 #[.pointer (some ⟨R.T, 0, none⟩)] w fun e w' => e = .returned (.agg #[.int .i64 (sgAt R.sg st 0).1, .string (sgAt R.sg st 0).2.1, .int .i64 (sgAt R.sg st 0).2.2.1, .bool (sgAt R.sg st 0).2.2.2]) ∧ Below w.heap.size w w' := next_any { R with U := U } hi d st row w hI
theorem isWord_u (m : ByteArray) (w : World) (hI : RdI { R with U := U } d st row w) :
 Calls prog 174 #[.pointer (some ⟨R.T, 0, none⟩), .string m] w fun e w' => e = .returned (.bool (isW R.sg st m)) ∧ Below w.heap.size w w' := isWord_any { R with U := U } hi d st row m w hI
theorem pass_u (w : World) (hI : RdI { R with U := U } d st row w) (hlt : ∀ s, st = some s → s.at_ < R.n) :
 Calls prog 214 #[.pointer (some ⟨R.T, 0, none⟩)] w fun e w' => e = .returned (.tuple #[]) ∧ ∃ row', RdI { R with U := U } d (skipS st) row' w' ∧ Kr R.T row w row' w' := pass_any { R with U := U } hi d st row w hI hlt
end
theorem isW_lt {sg : List SgP} {st : RdSt} {m : ByteArray} (h : isW sg st m = true) : ∃ s, st = some s ∧ s.at_ < sg.length := by
 cases st with
 | none => exact absurd h (by rw [isW_none]; decide)
 | some s =>
  refine ⟨s, rfl, ?_⟩
  rcases Nat.lt_or_ge s.at_ sg.length with hl | hl
  ·exact hl
  ·unfold isW at h
   rw [sgAt_out (i := 0) hl, show (sgZero.1 == 1) = false from rfl, Bool.false_and] at h
   exact absurd h (by decide)
theorem branch_step (R : RC) (hi : R.imp = true) (N f : Nat) (HE : EC R N f) (d : Nat) (b : Bool) (s : PS) (row : Option Nat) (w : World) (hI : RdI R d (some s) row w) (hlt : s.at_ < R.n) {r : Nat} (hn : Need R.n (some s) r (f + 1)) (hd : d + f ≤ 100000) :
  Calls prog 238 #[.pointer (some ⟨R.T, 0, none⟩), .bool b] w (Does R d row w (.int .i64 (ifS R.sg (exprF R.sg N f) d b (skipS (some s))).1) (ifS R.sg (exprF R.sg N f) d b (skipS (some s))).2) := by
 obtain ⟨i0, hi0, hz0, hz1, hz2⟩ := info_parts infoInt
 have HII := hid (And.intro hi0 (And.intro hz0 (And.intro hz1 hz2)))
 clear hi0 hz0 hz1 hz2
 have HI0 := hid hI
 have HK0 := hid (Kr.refl R.T row w)
 have HLo := hid hI.lo
 have HB0 := hid hI.lo.1
 have HL := hid (fun t (e : (some s) = some t) => show t.at_ < R.n by obtain rfl := Option.some.inj e; exact hlt)
 have hlen := hI.ok.len
 unfold Does ifS
 dsimp only
 have hadv0 := adv_skip (some s)
 have HC := hid (fun (row : Option Nat) (W : World) h => condition_step R hi N f HE d (skipS (some s)) row W h (hn.next hlt (hadv0.trans (adv_take _ _)) (by omega)) hd)
 have hadv1 := hadv0.trans (adv_held (sg := R.sg) (E := exprF R.sg N f) (fun m d st => adv_expr f m d st) d (skipS (some s)))
 generalize heldS R.sg (exprF R.sg N f) d (skipS (some s)) = rc at HC hadv1 ⊢
 obtain ⟨kc, st1⟩ := rc
 dsimp only at HC hadv1 ⊢
 have HT := hid (fun (U : Nat → Prop) (row : Option Nat) (W : World) h => HE.block U d st1 row W h (hn.next hlt hadv1 (by omega)) hd)
 have hadv2 := hadv1.trans (adv_expr (sg := R.sg) (N := N) f .block d st1)
 unfold Does at HT
 generalize exprF R.sg N f .block d st1 = rt at HT hadv2 ⊢
 obtain ⟨kt, st2⟩ := rt
 dsimp only at HT hadv2 ⊢
 have HW := hid (fun (U : Nat → Prop) (row : Option Nat) (W : World) h => isWord_u (R := R) U hi d st2 row ⟨#[101, 108, 115, 101]⟩ W h)
 rcases bft (isW R.sg st2 ⟨#[101, 108, 115, 101]⟩) with hM | hM
 ·rw [if_pos hM]
  rw [hM] at HW
  have HL2 := hid (fun t (e : st2 = some t) => show t.at_ < R.n by
   obtain ⟨t', e', hl⟩ := isW_lt hM
   rw [e] at e'
   obtain rfl := Option.some.inj e'
   omega)
  have HTo := hid (fun (U : Nat → Prop) (row : Option Nat) (W : World) h => HE.block U d (skipS st2) row W h (hn.next hlt (hadv2.trans (adv_skip _)) (by omega)) hd)
  unfold Does at HTo
  generalize exprF R.sg N f .block d (skipS st2) = ro at HTo ⊢
  obtain ⟨ko, st3⟩ := ro
  dsimp only at HTo ⊢
  clear hI hn hM hadv0 hadv1 hadv2 hlt hlen
  go_enter func238, ntmps238
  go_wp2_with fail
  refine pst (pass_any R hi d (some s) row w HI0.out HL.out) HK0 ?_
  intro w1 row1 HI1 HK1
  go_wp2_with fail
  refine (HC.out _ _ HI1.out).mono ?_
  rintro e w2 ⟨A, rfl, m2, row2, h2, k2⟩
  have HK2 := keep_kr HK1 k2
  have HI2 := hid h2
  have HM := hid (m2.more (B' := w.heap.size) HK1.out.size)
  clear h2 k2 m2 HC
  go_wp2_with fail
  refine (HT.out _ _ _ HI2.out).mono ?_
  rintro e w3 ⟨rfl, row3, h3, k3⟩
  replace HM := hid (HI2.out.keepI k3 HM.out)
  have HI3 := hid h3
  have HK3 := hid (HK2.out.trans k3)
  clear h3 k3 HT
  go_wp2_with (at_builtin; refine app_int (.tmp 14) (.tmp 16) HI3 HK3 HM HB0 rfl rfl rfl rfl (by omega) ?_; intro A4 c4 w4 HI4 HK4 HM4)
  replace HM := HM4
  clear HM4
  go_wp2_with fail
  refine (HW.out _ _ _ HI4.out).mono ?_
  rintro e w5 ⟨rfl, g5⟩
  replace HM := hid (HM.out.next g5)
  have HI5 := hid (HI4.out.next g5)
  have HK5 := hid (HK4.out.below g5)
  clear g5 HW
  go_wp2_with fail
  refine (pass_u _ hi d st2 row3 w5 HI5.out HL2.out).mono ?_
  rintro e w6 ⟨rfl, row6, h6, k6⟩
  replace HM := hid (HI5.out.keepI k6 HM.out)
  have HI6 := hid h6
  have HK6 := hid (HK5.out.trans k6)
  clear h6 k6
  go_wp2_with fail
  refine (HTo.out _ _ _ HI6.out).mono ?_
  rintro e w7 ⟨rfl, row7, h7, k7⟩
  replace HM := hid (HI6.out.keepI k7 HM.out)
  have HI7 := hid h7
  have HK7 := hid (HK6.out.trans k7)
  clear h7 k7 HTo
  go_wp2_with (at_builtin; refine app_int (.tmp 24) (.tmp 26) HI7 HK7 HM HB0 rfl rfl rfl rfl (by omega) ?_; intro A8 c8 w8 HI8 HK8 HM8)
  replace HM := HM8
  clear HM8
  have hA := addK R hi d st3 row7 16 noT A8 3 c8 [kc, kt, ko] b w.heap.size w8 HI8.out.unres HM.out HLo.out
  unfold Does at hA
  have HAd := hid hA
  clear hA
  go_wp2_with fail
  refine HAd.out.mono ?_
  rintro e w9 ⟨rfl, row9, h9, k9⟩
  go_wp2
  go_ret
  exact ⟨rfl, row9, h9, HK8.out.trans k9⟩
 ·rw [if_neg (by rw [hM]; decide)]
  rw [hM] at HW
  clear hI hn hM hadv0 hadv1 hadv2 hlt hlen
  go_enter func238, ntmps238
  go_wp2_with fail
  refine pst (pass_any R hi d (some s) row w HI0.out HL.out) HK0 ?_
  intro w1 row1 HI1 HK1
  go_wp2_with fail
  refine (HC.out _ _ HI1.out).mono ?_
  rintro e w2 ⟨A, rfl, m2, row2, h2, k2⟩
  have HK2 := keep_kr HK1 k2
  have HI2 := hid h2
  have HM := hid (m2.more (B' := w.heap.size) HK1.out.size)
  clear h2 k2 m2 HC
  go_wp2_with fail
  refine (HT.out _ _ _ HI2.out).mono ?_
  rintro e w3 ⟨rfl, row3, h3, k3⟩
  replace HM := hid (HI2.out.keepI k3 HM.out)
  have HI3 := hid h3
  have HK3 := hid (HK2.out.trans k3)
  clear h3 k3 HT
  go_wp2_with (at_builtin; refine app_int (.tmp 14) (.tmp 16) HI3 HK3 HM HB0 rfl rfl rfl rfl (by omega) ?_; intro A4 c4 w4 HI4 HK4 HM4)
  replace HM := HM4
  clear HM4
  go_wp2_with fail
  refine (HW.out _ _ _ HI4.out).mono ?_
  rintro e w5 ⟨rfl, g5⟩
  replace HM := hid (HM.out.next g5)
  have HI5 := hid (HI4.out.next g5)
  have HK5 := hid (HK4.out.below g5)
  clear g5 HW
  have hA := addK R hi d st2 row3 16 noT A4 2 c4 [kc, kt] b w.heap.size w5 HI5.out.unres HM.out HLo.out
  unfold Does at hA
  have HAd := hid hA
  clear hA
  go_wp2_with fail
  refine HAd.out.mono ?_
  rintro e w9 ⟨rfl, row9, h9, k9⟩
  go_wp2
  go_ret
  exact ⟨rfl, row9, h9, HK5.out.trans k9⟩
def BodyC (R : RC) (d : Nat) (st0 : RdSt) (one : Bool → RdSt → PR) (C : World → Bool → (Ending → World → Prop) → Prop) : Prop :=
 ∀ (U : Nat → Prop) (b : Bool) (t : PS) (row : Option Nat) (w : World), RdI { R with U := U } d (some t) row w → Adv 1 0 st0 (some t) → C w b (Does { R with U := U } d row w (.int .i64 (one b (some t)).1) (one b (some t)).2)
theorem block_step (R : RC) (hi : R.imp = true) (N f : Nat) (hN : R.n < N) (HE : EC R N f) (d : Nat) (st : RdSt) (row : Option Nat) (w : World) (hI : RdI R d st row w) (hn : Need R.n st 13 (f + 1)) (hd : d + (f + 1) ≤ 100000) :
  Calls prog 181 #[.pointer (some ⟨R.T, 0, none⟩)] w (Does R d row w (.int .i64 (blockS R.sg (exprF R.sg N f) N d st).1) (blockS R.sg (exprF R.sg N f) N d st).2) := by
 obtain ⟨i0, hi0, hz0, hz1, hz2⟩ := info_parts infoInt
 have HII := hid (And.intro hi0 (And.intro hz0 (And.intro hz1 hz2)))
 clear hi0 hz0 hz1 hz2
 have HI0 := hid hI
 have HK0 := hid (Kr.refl R.T row w)
 have HLo := hid hI.lo
 have HB0 := hid hI.lo.1
 have hlen := hI.ok.len
 have HO : Hid (BodyC R (d + 1) st (fun b => exprF R.sg N f (.stmt b) (d + 1)) (fun w b Q => Calls prog 222 #[.pointer (some ⟨R.T, 0, none⟩), .bool b] w Q)) := (show BodyC _ _ _ _ _ from fun U b t row w h ha => HE.stmt U b (d + 1) (some t) row w h (by
  obtain ⟨s, rfl, h1, _⟩ := ha t rfl
  have h2 := (h.le rfl).1
  have h3 : ({ R with U := U } : RC).n = R.n := rfl
  exact hn.next (by omega) (ha.weak (i' := 0 + 1) (j' := 0) (by omega) (by omega)) (by omega)) (by omega))
 have HA := hid (fun (b : Bool) st => adv_expr (sg := R.sg) (N := N) f (.stmt b) (d + 1) st)
 unfold Does blockS
 dsimp only
 have hadv := (adv_nest d st).trans (adv_take (sg := R.sg) (nestS d st) ⟨#[123]⟩)
 obtain ⟨Q, hQ⟩ : ∃ Q, bodyF R.sg (fun b => exprF R.sg N f (.stmt b) (d + 1)) N [] (takeS R.sg (nestS d st) ⟨#[123]⟩) = Q := ⟨_, rfl⟩
 rw [hQ]
 have HQ := hid hQ
 have HAD0 : Hid (Adv 1 0 st (takeS R.sg (nestS d st) ⟨#[123]⟩)) := hadv.weak (by omega) (by omega)
 have HA2 : Hid (∀ b st, Adv 1 1 st ((fun b => exprF R.sg N f (.stmt b) (d + 1)) b st).2) := (show ∀ b st, _ from HA.out)
 generalize (fun b => exprF R.sg N f (.stmt b) (d + 1)) = one at HO HQ HA2
 have hF3 := fld3
 clear hI hn hadv hQ
 go_enter func181, ntmps181
 go_wp2_with fail
 refine pst (enter_any R hi d st row w HI0.out (by omega)) HK0 ?_
 intro w1 row1 HI1 HK1
 go_wp2_with fail
 refine pst (take_any R hi (d + 1) (nestS d st) row1 ⟨#[123]⟩ w1 HI1.out) HK1 ?_
 intro w2 row2 HI2 HK2
 generalize takeS R.sg (nestS d st) ⟨#[123]⟩ = st2 at HQ HAD0 HI2
 go_upto_region 4 with fail
 go_loopw [3] (fun v wr => ∃ (M : Nat) (ks : List Int) (st' : RdSt) (row' : Option Nat) (A : Option Addr) (c : Nat), v = .slice A ks.length c ∧ Hid (bodyF R.sg one M ks st' = Q) ∧ Hid (Adv 1 0 st st') ∧ Hid (Enough R.n M st') ∧ Hid (KidB ks st') ∧ Hid (Mine wr w.heap.size 3 1 A ks.length c (intCells ks)) ∧ Hid (RdI (R.res A) (d + 1) st' row' wr) ∧ Hid (Kr R.T row w row' wr)) (fun _ wr => measI R wr)
 case atStart => exact ⟨N, [], st2, row2, none, 0, rfl, HQ, HAD0, (show Enough _ _ _ from enough_of hN _), ⟨by simp, fun s _ => by simp⟩, Mine.mk_nil _ _ _ _, HI2.out.res_new (Below.refl _ _) (fun g hg => by cases hg), HK2⟩
 case round =>
  clear HQ HAD0 HI0 HI1 HI2 HK0 HK1 HK2
  obtain ⟨M, ks, st', row', A, c, rfl, HQ, HAD, HEn, HKB, HM, HI, HK⟩ := hrel
  have HFin := hid (fun (row : Option Nat) (W : World) (hI : RdI R (d + 1) st' row W) (hm : Mine W w.heap.size 3 1 A ks.length c (intCells ks)) => close_any R hi (d + 1) st' row ⟨#[125]⟩ 18 noT A ks.length c ks false w.heap.size W hI hm HLo.out)
  unfold Does at HFin
  cases st' with
  | none =>
   obtain ⟨a, b, AN, cN, l, hc, hb, hrow⟩ := HI.out
   obtain ⟨c2, c3, c4, cf, cz⟩ := hc.cu _ hi
   obtain rfl : b = true := hb
   have hq := HQ.out
   rw [bodyF_none] at hq
   subst hq
   clear hc c2 c3 hrow HQ
   go_wp2_with fail
   refine (HFin.out _ _ HI.out.unres HM.out).mono ?_
   rintro e w4 ⟨rfl, row4, h4, k4⟩
   obtain ⟨d3, df, dz, hF1, hF2⟩ := nest_c3 hi h4
   have HF := hid (And.intro hF1 ((HK.out.trans k4).trans hF2))
   clear h4 k4 hF1 hF2 c4 cf cz
   go_wp2
   go_ret
   exact ⟨rfl, row4, HF.out.1, HF.out.2⟩
  | some t =>
   obtain ⟨M, rfl⟩ : ∃ M', M = M' + 1 := ⟨M - 1, by
    have h1 := HEn.out t rfl
    have h2 := (HI.out.le rfl).1
    have : (R.res A).n = R.n := rfl
    omega⟩
   obtain ⟨a, b, AN, cN, l, hc, hb, hrow⟩ := HI.out
   obtain ⟨c2, c3, c4, cf, cz⟩ := hc.cu _ hi
   obtain ⟨rfl, _, _⟩ := hb
   have HIs := hid (is_u _ hi (d + 1) (some t) row' ⟨#[125]⟩ wr HI.out)
   have hq := HQ.out
   unfold bodyF at hq
   rw [if_neg (show ¬ (some t).isNone = true by simp)] at hq
   clear hc c2 c3 hrow HQ
   rcases bft (isM R.sg (some t) ⟨#[125]⟩) with hM | hM
   ·rw [if_pos hM] at hq
    subst hq
    rw [hM] at HIs
    clear hM
    go_wp2_with fail
    refine HIs.out.mono ?_
    rintro e w2 ⟨rfl, g2⟩
    have HI2 := hid (HI.out.next g2)
    have HM2 := hid (HM.out.next g2)
    have HK2 := hid (HK.out.below g2)
    clear c4 cf cz g2
    go_wp2_with fail
    refine (HFin.out _ _ HI2.out.unres HM2.out).mono ?_
    rintro e w4 ⟨rfl, row4, h4, k4⟩
    obtain ⟨d3, df, dz, hF1, hF2⟩ := nest_c3 hi h4
    have HF := hid (And.intro hF1 ((HK2.out.trans k4).trans hF2))
    clear h4 k4 hF1 hF2
    go_wp2
    go_ret
    exact ⟨rfl, row4, HF.out.1, HF.out.2⟩
   ·rw [if_neg (by rw [hM]; decide)] at hq
    rw [hM] at HIs
    have HX := hid (fun (row : Option Nat) (W : World) h => next_u (R := R) (fun x => R.U x ∨ A.map (·.block) = some x) hi (d + 1) (some t) row W h)
    have hbl : blankB R.sg (some t) ks = ((sgAt R.sg (some t) 0).2.2.2 && decide (0 < ks.length)) := rfl
    rw [hbl] at hq
    generalize sgAt R.sg (some t) 0 = x at HX hq hbl
    obtain ⟨xk, xt, xp, xz⟩ := x
    dsimp only at HX hq hbl
    clear hM hbl HFin
    have hkb1 := HKB.out.2 t rfl
    have hnb := (HI.out.le rfl).2
    have hkb := HKB.out.1
    have HR3 : Hid (∀ bb : Bool, (xz && decide (0 < ks.length)) = bb → ∃ r : PR, bodyF R.sg one M (ks ++ [r.1]) r.2 = Q ∧ Adv 1 1 (some t) r.2 ∧ ∀ (row : Option Nat) (W : World), RdI { R with U := fun x => R.U x ∨ A.map (·.block) = some x } (d + 1) (some t) row W → Calls prog 222 #[.pointer (some ⟨R.T, 0, none⟩), .bool bb] W (fun e w' => e = .returned (.int .i64 r.1) ∧ ∃ row', RdI { R with U := fun x => R.U x ∨ A.map (·.block) = some x } (d + 1) r.2 row' w' ∧ Kr R.T row W row' w')) := (show ∀ bb, _ → _ from fun bb e => ⟨one bb (some t), by rw [← e]; exact hq, HA2.out bb (some t), fun row W h => HO.out _ bb t row W h HAD.out⟩)
    clear hq
    cases xz with
    | false =>
     obtain ⟨r, hq, hadv3, hC⟩ := HR3.out false rfl
     obtain ⟨kc, st3⟩ := r
     dsimp only at hq hadv3 hC
     have HQ3 := hid hq
     have HC := hid hC
     have HAD3 := hid hadv3
     have HAK : Hid (KidB (ks ++ [kc]) st3) := (show KidB _ _ from ⟨by rw [lA]; simp; omega, fun t2 e => by
      obtain ⟨s'', e2, _, h3⟩ := hadv3 t2 e
      obtain rfl := Option.some.inj e2
      rw [lA]
      simp
      omega⟩)
     have HAN : Hid (Enough R.n M st3) := HEn.out.adv (i := 0) hadv3
     have HAA : Hid (Adv 1 0 st st3) := (HAD.out.trans hadv3).weak (by omega) (by omega)
     have hlk : (ks ++ [kc]).length = ks.length + 1 := by simp
     clear hq hC hadv3 HR3
     go_wp2_with fail
     refine HIs.out.mono ?_
     rintro e w2 ⟨rfl, g2⟩
     have HI2 := hid (HI.out.next g2)
     have HM2 := hid (HM.out.next g2)
     have HK2 := hid (HK.out.below g2)
     clear c4 cf cz g2 HIs
     go_wp2_with fail
     refine (HX.out _ _ HI2.out).mono ?_
     rintro e w3 ⟨rfl, g3⟩
     have HI3 := hid (HI2.out.next g3)
     have HM3 := hid (HM2.out.next g3)
     have HK3 := hid (HK2.out.below g3)
     clear g3 HX HI2 HM2 HK2
     go_wp2_with fail
     refine (HC.out _ _ HI3.out).mono ?_
     rintro e w4 ⟨rfl, row4, h4, k4⟩
     have HM := hid (HI3.out.keepI k4 HM3.out)
     have HI4 := hid h4
     have HK4 := hid (HK3.out.trans k4)
     clear h4 k4 HI3 HM3 HK3
     go_wp2_with (at_builtin; refine app_int (.tmp 30) (.tmp 32) HI4 HK4 HM HB0 rfl rfl rfl rfl (by omega) ?_; intro A5 c5 w5 HI5 HK5 HM5)
     replace HM := HM5
     clear HM5
     go_wp2
     go_roundw
     case rel => exact ⟨M, ks ++ [kc], st3, row4, A5, c5, by rw [hlk], HQ3, HAA, HAN, HAK, by rw [hlk]; exact HM, HI5, HK5⟩
     case measure => exact meas_u hi HI.out HI5.out (HAD3.out.weak (i' := 1) (j' := 0) (by omega) (by omega))
    | true =>
     obtain ⟨r, hq, hadv3, hC⟩ := HR3.out _ rfl
     obtain ⟨kc, st3⟩ := r
     dsimp only at hq hadv3 hC
     rw [Bool.true_and] at hC
     have HQ3 := hid hq
     have HC := hid hC
     have HAD3 := hid hadv3
     have HAK : Hid (KidB (ks ++ [kc]) st3) := (show KidB _ _ from ⟨by rw [lA]; simp; omega, fun t2 e => by
      obtain ⟨s'', e2, _, h3⟩ := hadv3 t2 e
      obtain rfl := Option.some.inj e2
      rw [lA]
      simp
      omega⟩)
     have HAN : Hid (Enough R.n M st3) := HEn.out.adv (i := 0) hadv3
     have HAA : Hid (Adv 1 0 st st3) := (HAD.out.trans hadv3).weak (by omega) (by omega)
     have hlk : (ks ++ [kc]).length = ks.length + 1 := by simp
     clear hq hC hadv3 HR3
     go_wp2_with fail
     refine HIs.out.mono ?_
     rintro e w2 ⟨rfl, g2⟩
     have HI2 := hid (HI.out.next g2)
     have HM2 := hid (HM.out.next g2)
     have HK2 := hid (HK.out.below g2)
     clear c4 cf cz g2 HIs
     go_wp2_with fail
     refine (HX.out _ _ HI2.out).mono ?_
     rintro e w3 ⟨rfl, g3⟩
     have HI3 := hid (HI2.out.next g3)
     have HM3 := hid (HM2.out.next g3)
     have HK3 := hid (HK2.out.below g3)
     clear g3 HX HI2 HM2 HK2
     go_wp2_with fail
     refine (HC.out _ _ HI3.out).mono ?_
     rintro e w4 ⟨rfl, row4, h4, k4⟩
     have HM := hid (HI3.out.keepI k4 HM3.out)
     have HI4 := hid h4
     have HK4 := hid (HK3.out.trans k4)
     clear h4 k4 HI3 HM3 HK3
     go_wp2_with (at_builtin; refine app_int (.tmp 30) (.tmp 32) HI4 HK4 HM HB0 rfl rfl rfl rfl (by omega) ?_; intro A5 c5 w5 HI5 HK5 HM5)
     replace HM := HM5
     clear HM5
     go_wp2
     go_roundw
     case rel => exact ⟨M, ks ++ [kc], st3, row4, A5, c5, by rw [hlk], HQ3, HAA, HAN, HAK, by rw [hlk]; exact HM, HI5, HK5⟩
     case measure => exact meas_u hi HI.out HI5.out (HAD3.out.weak (i' := 1) (j' := 0) (by omega) (by omega))
theorem stmt_note (R : RC) (hi : R.imp = true) (N f : Nat) (hN : R.n < N) (HE : EC R N f) (d : Nat) (b : Bool) (st : RdSt) (row : Option Nat) (w : World) (hI : RdI R d st row w) (hn : Need R.n st 12 (f + 1)) (hd : d + f ≤ 100000) (h5 : (sgAt R.sg st 0).1 = 5) :
  Calls prog 222 #[.pointer (some ⟨R.T, 0, none⟩), .bool b] w (Does R d row w (.int .i64 (noteS R.sg b st).1) (noteS R.sg b st).2) := by
 have hln : ∀ s, st = some s → s.at_ < R.n := fun s e => by
  rcases Nat.lt_or_ge s.at_ R.sg.length with hl | hl
  ·rw [← hI.ok.len]; exact hl
  ·exact absurd h5 (by rw [e, sgAt_out (i := 0) hl]; decide)
 have HP := hid (fun (row : Option Nat) (W : World) h => note_any R hi d st row b W h hln)
 unfold Does at HP ⊢
 generalize noteS R.sg b st = r at HP ⊢
 obtain ⟨k, st2⟩ := r
 dsimp only at HP ⊢
 have HI0 := hid hI
 have HK0 := hid (Kr.refl R.T row w)
 have HX := hid (next_any R hi d st row w hI)
 have hF0 := fld0
 have hF1 := fld1
 generalize sgAt R.sg st 0 = x at HX h5
 obtain ⟨kd, xt, xp, xz⟩ := x
 dsimp only at HX h5
 subst h5
 clear hI hn hln
 go_enter func222, ntmps222
 go_wp2_with fail
 refine rst (HX.out) HI0 HK0 ?_
 intro w1 HI1 HK1
 go_wp2_with fail
 refine pst (HP.out _ _ HI1.out) HK1 ?_
 intro w2 row2 HI2 HK2
 go_wp2
 go_ret
 exact ⟨rfl, row2, HI2.out, HK2.out⟩
theorem stmt_var (R : RC) (hi : R.imp = true) (N f : Nat) (hN : R.n < N) (HE : EC R N f) (d : Nat) (b : Bool) (st : RdSt) (row : Option Nat) (w : World) (hI : RdI R d st row w) (hn : Need R.n st 12 (f + 1)) (hd : d + f ≤ 100000) (h5 : (sgAt R.sg st 0).1 ≠ 5) (hw0 : isW R.sg st ⟨#[118, 97, 114]⟩ = true) :
  Calls prog 222 #[.pointer (some ⟨R.T, 0, none⟩), .bool b] w (Does R d row w (.int .i64 (varS R.sg (exprF R.sg N f) d b (skipS st)).1) (varS R.sg (exprF R.sg N f) d b (skipS st)).2) := by
 obtain ⟨s, es, hlt⟩ := isW_lt hw0
 subst es
 have hsn : s.at_ < R.n := by rw [← hI.ok.len]; exact hlt
 have HP := hid (fun (row : Option Nat) (W : World) h => variable_step R hi N f HE d b s row W h hsn hn hd)
 unfold Does at HP ⊢
 generalize varS R.sg (exprF R.sg N f) d b (skipS (some s)) = r at HP ⊢
 obtain ⟨k, st2⟩ := r
 dsimp only at HP ⊢
 have HI0 := hid hI
 have HK0 := hid (Kr.refl R.T row w)
 have HX := hid (next_any R hi d (some s) row w hI)
 have hF0 := fld0
 have hF1 := fld1
 have HW0 := hid (fun (W : World) h => isWord_any R hi d (some s) row ⟨#[118, 97, 114]⟩ W h)
 rw [hw0] at HW0
 generalize sgAt R.sg (some s) 0 = x at HX h5
 obtain ⟨kd, xt, xp, xz⟩ := x
 dsimp only at HX h5
 have h5' : (kd == 5) = false := by rw [beq_eq_false_iff_ne]; exact h5
 clear hI hn hlt
 go_enter func222, ntmps222
 go_wp2_with fail
 refine rst (HX.out) HI0 HK0 ?_
 intro w1 HI1 HK1
 go_wp2_with fail
 refine rst (HW0.out _ HI1.out) HI1 HK1 ?_
 intro w2 HI2 HK2
 go_wp2_with fail
 refine pst (HP.out _ _ HI2.out) HK2 ?_
 intro w3 row3 HI3 HK3
 go_wp2
 go_ret
 exact ⟨rfl, row3, HI3.out, HK3.out⟩
theorem stmt_ret (R : RC) (hi : R.imp = true) (N f : Nat) (hN : R.n < N) (HE : EC R N f) (d : Nat) (b : Bool) (st : RdSt) (row : Option Nat) (w : World) (hI : RdI R d st row w) (hn : Need R.n st 12 (f + 1)) (hd : d + f ≤ 100000) (h5 : (sgAt R.sg st 0).1 ≠ 5) (hw0 : isW R.sg st ⟨#[118, 97, 114]⟩ = false) (hw1 : isW R.sg st ⟨#[114, 101, 116, 117, 114, 110]⟩ = true) :
  Calls prog 222 #[.pointer (some ⟨R.T, 0, none⟩), .bool b] w (Does R d row w (.int .i64 (leaveS R.sg (exprF R.sg N f) d b (skipS st)).1) (leaveS R.sg (exprF R.sg N f) d b (skipS st)).2) := by
 obtain ⟨s, es, hlt⟩ := isW_lt hw1
 subst es
 have hsn : s.at_ < R.n := by rw [← hI.ok.len]; exact hlt
 have HP := hid (fun (row : Option Nat) (W : World) h => leave_step R hi N f HE d b s row W h hsn hn hd)
 unfold Does at HP ⊢
 generalize leaveS R.sg (exprF R.sg N f) d b (skipS (some s)) = r at HP ⊢
 obtain ⟨k, st2⟩ := r
 dsimp only at HP ⊢
 have HI0 := hid hI
 have HK0 := hid (Kr.refl R.T row w)
 have HX := hid (next_any R hi d (some s) row w hI)
 have hF0 := fld0
 have hF1 := fld1
 have HW0 := hid (fun (W : World) h => isWord_any R hi d (some s) row ⟨#[118, 97, 114]⟩ W h)
 rw [hw0] at HW0
 have HW1 := hid (fun (W : World) h => isWord_any R hi d (some s) row ⟨#[114, 101, 116, 117, 114, 110]⟩ W h)
 rw [hw1] at HW1
 generalize sgAt R.sg (some s) 0 = x at HX h5
 obtain ⟨kd, xt, xp, xz⟩ := x
 dsimp only at HX h5
 have h5' : (kd == 5) = false := by rw [beq_eq_false_iff_ne]; exact h5
 clear hI hn hlt
 go_enter func222, ntmps222
 go_wp2_with fail
 refine rst (HX.out) HI0 HK0 ?_
 intro w1 HI1 HK1
 go_wp2_with fail
 refine rst (HW0.out _ HI1.out) HI1 HK1 ?_
 intro w2 HI2 HK2
 go_wp2_with fail
 refine rst (HW1.out _ HI2.out) HI2 HK2 ?_
 intro w3 HI3 HK3
 go_wp2_with fail
 refine pst (HP.out _ _ HI3.out) HK3 ?_
 intro w4 row4 HI4 HK4
 go_wp2
 go_ret
 exact ⟨rfl, row4, HI4.out, HK4.out⟩
theorem stmt_if (R : RC) (hi : R.imp = true) (N f : Nat) (hN : R.n < N) (HE : EC R N f) (d : Nat) (b : Bool) (st : RdSt) (row : Option Nat) (w : World) (hI : RdI R d st row w) (hn : Need R.n st 12 (f + 1)) (hd : d + f ≤ 100000) (h5 : (sgAt R.sg st 0).1 ≠ 5) (hw0 : isW R.sg st ⟨#[118, 97, 114]⟩ = false) (hw1 : isW R.sg st ⟨#[114, 101, 116, 117, 114, 110]⟩ = false) (hw2 : isW R.sg st ⟨#[105, 102]⟩ = true) :
  Calls prog 222 #[.pointer (some ⟨R.T, 0, none⟩), .bool b] w (Does R d row w (.int .i64 (ifS R.sg (exprF R.sg N f) d b (skipS st)).1) (ifS R.sg (exprF R.sg N f) d b (skipS st)).2) := by
 obtain ⟨s, es, hlt⟩ := isW_lt hw2
 subst es
 have hsn : s.at_ < R.n := by rw [← hI.ok.len]; exact hlt
 have HP := hid (fun (row : Option Nat) (W : World) h => branch_step R hi N f HE d b s row W h hsn hn hd)
 unfold Does at HP ⊢
 generalize ifS R.sg (exprF R.sg N f) d b (skipS (some s)) = r at HP ⊢
 obtain ⟨k, st2⟩ := r
 dsimp only at HP ⊢
 have HI0 := hid hI
 have HK0 := hid (Kr.refl R.T row w)
 have HX := hid (next_any R hi d (some s) row w hI)
 have hF0 := fld0
 have hF1 := fld1
 have HW0 := hid (fun (W : World) h => isWord_any R hi d (some s) row ⟨#[118, 97, 114]⟩ W h)
 rw [hw0] at HW0
 have HW1 := hid (fun (W : World) h => isWord_any R hi d (some s) row ⟨#[114, 101, 116, 117, 114, 110]⟩ W h)
 rw [hw1] at HW1
 have HW2 := hid (fun (W : World) h => isWord_any R hi d (some s) row ⟨#[105, 102]⟩ W h)
 rw [hw2] at HW2
 generalize sgAt R.sg (some s) 0 = x at HX h5
 obtain ⟨kd, xt, xp, xz⟩ := x
 dsimp only at HX h5
 have h5' : (kd == 5) = false := by rw [beq_eq_false_iff_ne]; exact h5
 clear hI hn hlt
 go_enter func222, ntmps222
 go_wp2_with fail
 refine rst (HX.out) HI0 HK0 ?_
 intro w1 HI1 HK1
 go_wp2_with fail
 refine rst (HW0.out _ HI1.out) HI1 HK1 ?_
 intro w2 HI2 HK2
 go_wp2_with fail
 refine rst (HW1.out _ HI2.out) HI2 HK2 ?_
 intro w3 HI3 HK3
 go_wp2_with fail
 refine rst (HW2.out _ HI3.out) HI3 HK3 ?_
 intro w4 HI4 HK4
 go_wp2_with fail
 refine pst (HP.out _ _ HI4.out) HK4 ?_
 intro w5 row5 HI5 HK5
 go_wp2
 go_ret
 exact ⟨rfl, row5, HI5.out, HK5.out⟩
theorem stmt_while (R : RC) (hi : R.imp = true) (N f : Nat) (hN : R.n < N) (HE : EC R N f) (d : Nat) (b : Bool) (st : RdSt) (row : Option Nat) (w : World) (hI : RdI R d st row w) (hn : Need R.n st 12 (f + 1)) (hd : d + f ≤ 100000) (h5 : (sgAt R.sg st 0).1 ≠ 5) (hw0 : isW R.sg st ⟨#[118, 97, 114]⟩ = false) (hw1 : isW R.sg st ⟨#[114, 101, 116, 117, 114, 110]⟩ = false) (hw2 : isW R.sg st ⟨#[105, 102]⟩ = false) (hw3 : isW R.sg st ⟨#[119, 104, 105, 108, 101]⟩ = true) :
  Calls prog 222 #[.pointer (some ⟨R.T, 0, none⟩), .bool b] w (Does R d row w (.int .i64 (whileS R.sg (exprF R.sg N f) d b (skipS st)).1) (whileS R.sg (exprF R.sg N f) d b (skipS st)).2) := by
 obtain ⟨s, es, hlt⟩ := isW_lt hw3
 subst es
 have hsn : s.at_ < R.n := by rw [← hI.ok.len]; exact hlt
 obtain ⟨i0, hi0, hz0, hz1, hz2⟩ := info_parts infoInt
 have HII := hid (And.intro hi0 (And.intro hz0 (And.intro hz1 hz2)))
 clear hi0 hz0 hz1 hz2
 have HLo := hid hI.lo
 have HB0 := hid hI.lo.1
 have HL := hid (fun t (e : (some s) = some t) => show t.at_ < R.n by obtain rfl := Option.some.inj e; exact hsn)
 unfold Does whileS
 dsimp only
 have hadv0 := adv_skip (some s)
 have HC := hid (fun (row : Option Nat) (W : World) h => condition_step R hi N f HE d (skipS (some s)) row W h (hn.next hsn (hadv0.trans (adv_take _ _)) (by omega)) hd)
 have hadv1 := hadv0.trans (adv_held (sg := R.sg) (E := exprF R.sg N f) (fun m d st => adv_expr f m d st) d (skipS (some s)))
 generalize heldS R.sg (exprF R.sg N f) d (skipS (some s)) = rc at HC hadv1 ⊢
 obtain ⟨kc, st1⟩ := rc
 dsimp only at HC hadv1 ⊢
 have HT := hid (fun (U : Nat → Prop) (row : Option Nat) (W : World) h => HE.block U d st1 row W h (hn.next hsn hadv1 (by omega)) hd)
 unfold Does at HT
 generalize exprF R.sg N f .block d st1 = rt at HT ⊢
 obtain ⟨kt, st2⟩ := rt
 dsimp only at HT ⊢
 have HI0 := hid hI
 have HK0 := hid (Kr.refl R.T row w)
 have HX := hid (next_any R hi d (some s) row w hI)
 have hF0 := fld0
 have hF1 := fld1
 have HW0 := hid (fun (W : World) h => isWord_any R hi d (some s) row ⟨#[118, 97, 114]⟩ W h)
 rw [hw0] at HW0
 have HW1 := hid (fun (W : World) h => isWord_any R hi d (some s) row ⟨#[114, 101, 116, 117, 114, 110]⟩ W h)
 rw [hw1] at HW1
 have HW2 := hid (fun (W : World) h => isWord_any R hi d (some s) row ⟨#[105, 102]⟩ W h)
 rw [hw2] at HW2
 have HW3 := hid (fun (W : World) h => isWord_any R hi d (some s) row ⟨#[119, 104, 105, 108, 101]⟩ W h)
 rw [hw3] at HW3
 generalize sgAt R.sg (some s) 0 = x at HX h5
 obtain ⟨kd, xt, xp, xz⟩ := x
 dsimp only at HX h5
 have h5' : (kd == 5) = false := by rw [beq_eq_false_iff_ne]; exact h5
 clear hI hn hlt hadv0 hadv1
 go_enter func222, ntmps222
 go_wp2_with fail
 refine rst (HX.out) HI0 HK0 ?_
 intro w1 HI1 HK1
 go_wp2_with fail
 refine rst (HW0.out _ HI1.out) HI1 HK1 ?_
 intro w2 HI2 HK2
 go_wp2_with fail
 refine rst (HW1.out _ HI2.out) HI2 HK2 ?_
 intro w3 HI3 HK3
 go_wp2_with fail
 refine rst (HW2.out _ HI3.out) HI3 HK3 ?_
 intro w4 HI4 HK4
 go_wp2_with fail
 refine rst (HW3.out _ HI4.out) HI4 HK4 ?_
 intro w5 HI5 HK5
 go_wp2_with fail
 refine pst (pass_any R hi d (some s) row w5 HI5.out HL.out) HK5 ?_
 intro w6 row6 HI6 HK6
 go_wp2_with fail
 refine (HC.out _ _ HI6.out).mono ?_
 rintro e w7 ⟨A, rfl, m7, row7, h7, k7⟩
 have HK7 := keep_kr HK6 k7
 have HI7 := hid h7
 have HM := hid (m7.more (B' := w.heap.size) HK6.out.size)
 clear h7 k7 m7 HC
 go_wp2_with fail
 refine (HT.out _ _ _ HI7.out).mono ?_
 rintro e w8 ⟨rfl, row8, h8, k8⟩
 replace HM := hid (HI7.out.keepI k8 HM.out)
 have HI8 := hid h8
 have HK8 := hid (HK7.out.trans k8)
 clear h8 k8 HT
 go_wp2_with (at_builtin; refine app_int (.tmp 46) (.tmp 48) HI8 HK8 HM HB0 rfl rfl rfl rfl (by omega) ?_; intro A9 c9 w9 HI9 HK9 HM9)
 replace HM := HM9
 clear HM9
 have hA := addK R hi d st2 row8 17 noT A9 2 c9 [kc, kt] b w.heap.size w9 HI9.out.unres HM.out HLo.out
 unfold Does at hA
 have HAd := hid hA
 clear hA
 go_wp2_with fail
 refine HAd.out.mono ?_
 rintro e w10 ⟨rfl, row10, h10, k10⟩
 go_wp2
 go_ret
 exact ⟨rfl, row10, h10, HK9.out.trans k10⟩
theorem stmt_set (R : RC) (hi : R.imp = true) (N f : Nat) (hN : R.n < N) (HE : EC R N f) (d : Nat) (b : Bool) (st : RdSt) (row : Option Nat) (w : World) (hI : RdI R d st row w) (hn : Need R.n st 12 (f + 1)) (hd : d + f ≤ 100000) (h5 : (sgAt R.sg st 0).1 ≠ 5) (hw0 : isW R.sg st ⟨#[118, 97, 114]⟩ = false) (hw1 : isW R.sg st ⟨#[114, 101, 116, 117, 114, 110]⟩ = false) (hw2 : isW R.sg st ⟨#[105, 102]⟩ = false) (hw3 : isW R.sg st ⟨#[119, 104, 105, 108, 101]⟩ = false) (hs : setB R.sg st = true) :
  Calls prog 222 #[.pointer (some ⟨R.T, 0, none⟩), .bool b] w (Does R d row w (.int .i64 (setS R.sg (exprF R.sg N f) d b st).1) (setS R.sg (exprF R.sg N f) d b st).2) := by
 unfold setB at hs
 simp only [Bool.and_eq_true] at hs
 obtain ⟨hnm, hs1, hs2⟩ := hs
 obtain ⟨s, es, hlt⟩ := nameS_lt hnm
 subst es
 have hsn : s.at_ < R.n := by rw [← hI.ok.len]; exact hlt
 have hM : isM R.sg (skipS (some s)) ⟨#[61]⟩ = true := by
  have e1 : sgAt R.sg (skipS (some s)) 0 = sgAt R.sg (some s) 1 := rfl
  have e2 : (⟨#[61]⟩ : ByteArray).toList = [61] := by rw [ByteArray.toList_eq]
  unfold isM
  rw [e1, hs2, e2, hs1]; rfl
 have HTk := hid (fun (row : Option Nat) (W : World) h => take_any R hi d (skipS (some s)) row ⟨#[61]⟩ W h)
 rw [take_yes hM] at HTk
 have HNm := hid (fun (row : Option Nat) (W : World) h => name_any R hi d (some s) row W h)
 have HNx := hid (fun (row : Option Nat) (W : World) h => namesNext_any R hi d (some s) row 0 W h (by omega))
 rw [hnm] at HNx
 rw [show nmS R.sg (some s) = skipS (some s) from if_pos hnm] at HNm
 have HPk := hid (fun (row : Option Nat) (W : World) h => peek_any R hi d (some s) row 1 W h (by omega))
 have HP := hid (fun (row : Option Nat) (W : World) h => HE.value R.U d (skipS (skipS (some s))) row W h (hn.next hsn ((adv_skip _).trans (adv_skip _)) (by omega)) hd)
 unfold Does at HP HTk HNm ⊢
 unfold setS
 dsimp only
 generalize exprF R.sg N f .value d (skipS (skipS (some s))) = r at HP ⊢
 obtain ⟨k, st2⟩ := r
 dsimp only at HP ⊢
 generalize nmT R.sg (some s) = nt at HNm ⊢
 have HI0 := hid hI
 have HK0 := hid (Kr.refl R.T row w)
 have HX := hid (next_any R hi d (some s) row w hI)
 have hF0 := fld0
 have hF1 := fld1
 have HW0 := hid (fun (W : World) h => isWord_any R hi d (some s) row ⟨#[118, 97, 114]⟩ W h)
 rw [hw0] at HW0
 have HW1 := hid (fun (W : World) h => isWord_any R hi d (some s) row ⟨#[114, 101, 116, 117, 114, 110]⟩ W h)
 rw [hw1] at HW1
 have HW2 := hid (fun (W : World) h => isWord_any R hi d (some s) row ⟨#[105, 102]⟩ W h)
 rw [hw2] at HW2
 have HW3 := hid (fun (W : World) h => isWord_any R hi d (some s) row ⟨#[119, 104, 105, 108, 101]⟩ W h)
 rw [hw3] at HW3
 generalize sgAt R.sg (some s) 0 = x at HX h5
 obtain ⟨kd, xt, xp, xz⟩ := x
 dsimp only at HX h5
 have h5' : (kd == 5) = false := by rw [beq_eq_false_iff_ne]; exact h5
 generalize sgAt R.sg (some s) 1 = y at HPk hs1 hs2
 obtain ⟨yk, yt, yp, yz⟩ := y
 dsimp only at HPk hs1 hs2
 obtain rfl : yk = 4 := eq_of_beq hs2
 clear hI hn hlt hnm hM hs2
 go_enter func222, ntmps222
 go_wp2_with fail
 refine rst (HX.out) HI0 HK0 ?_
 intro w1 HI1 HK1
 go_wp2_with fail
 refine rst (HW0.out _ HI1.out) HI1 HK1 ?_
 intro w2 HI2 HK2
 go_wp2_with fail
 refine rst (HW1.out _ HI2.out) HI2 HK2 ?_
 intro w3 HI3 HK3
 go_wp2_with fail
 refine rst (HW2.out _ HI3.out) HI3 HK3 ?_
 intro w4 HI4 HK4
 go_wp2_with fail
 refine rst (HW3.out _ HI4.out) HI4 HK4 ?_
 intro w5 HI5 HK5
 go_wp2_with fail
 refine rst (HNx.out _ _ HI5.out) HI5 HK5 ?_
 intro w6 HI6 HK6
 go_wp2_with fail
 refine rst (HPk.out _ _ HI6.out) HI6 HK6 ?_
 intro w7 HI7 HK7
 go_wp2_with fail
 refine rst (HPk.out _ _ HI7.out) HI7 HK7 ?_
 intro w8 HI8 HK8
 go_wp2_with fail
 refine pst (HNm.out _ _ HI8.out) HK8 ?_
 intro w9 row9 HI9 HK9
 go_wp2_with fail
 refine pst (HTk.out _ _ HI9.out) HK9 ?_
 intro w10 row10 HI10 HK10
 go_wp2_with fail
 refine pst (HP.out _ _ HI10.out) HK10 ?_
 intro w11 row11 HI11 HK11
 have HLo11 := hid HI11.out.lo
 go_wp2_with fail
 refine pst (close_any R hi d st2 row11 ⟨#[59]⟩ 13 nt (some ⟨w11.heap.size, 0, none⟩) 1 1 [k] b w11.heap.size _ (HI11.out.alloc _) (kid1 w11 k) HLo11.out) HK11 ?_
 intro w12 row12 HI12 HK12
 go_wp2
 go_ret
 exact ⟨rfl, row12, HI12.out, HK12.out⟩
theorem stmt_do_a (R : RC) (hi : R.imp = true) (N f : Nat) (hN : R.n < N) (HE : EC R N f) (d : Nat) (b : Bool) (st : RdSt) (row : Option Nat) (w : World) (hI : RdI R d st row w) (hn : Need R.n st 12 (f + 1)) (hd : d + f ≤ 100000) (h5 : (sgAt R.sg st 0).1 ≠ 5) (hw0 : isW R.sg st ⟨#[118, 97, 114]⟩ = false) (hw1 : isW R.sg st ⟨#[114, 101, 116, 117, 114, 110]⟩ = false) (hw2 : isW R.sg st ⟨#[105, 102]⟩ = false) (hw3 : isW R.sg st ⟨#[119, 104, 105, 108, 101]⟩ = false) (hs : nameS R.sg st 0 = false) :
  Calls prog 222 #[.pointer (some ⟨R.T, 0, none⟩), .bool b] w (Does R d row w (.int .i64 (doS R.sg (exprF R.sg N f) d b st).1) (doS R.sg (exprF R.sg N f) d b st).2) := by
 have HP := hid (fun (row : Option Nat) (W : World) h => HE.value R.U d st row W h (hn.same (by omega) (Adv.refl st)) hd)
 have HNx := hid (fun (row : Option Nat) (W : World) h => namesNext_any R hi d st row 0 W h (by omega))
 have HPk := hid (fun (row : Option Nat) (W : World) h => peek_any R hi d st row 1 W h (by omega))
 unfold Does at HP ⊢
 unfold doS
 dsimp only
 generalize exprF R.sg N f .value d st = r at HP ⊢
 obtain ⟨k, st2⟩ := r
 dsimp only at HP ⊢
 have HI0 := hid hI
 have HK0 := hid (Kr.refl R.T row w)
 have HX := hid (next_any R hi d st row w hI)
 have hF0 := fld0
 have hF1 := fld1
 have HW0 := hid (fun (W : World) h => isWord_any R hi d st row ⟨#[118, 97, 114]⟩ W h)
 rw [hw0] at HW0
 have HW1 := hid (fun (W : World) h => isWord_any R hi d st row ⟨#[114, 101, 116, 117, 114, 110]⟩ W h)
 rw [hw1] at HW1
 have HW2 := hid (fun (W : World) h => isWord_any R hi d st row ⟨#[105, 102]⟩ W h)
 rw [hw2] at HW2
 have HW3 := hid (fun (W : World) h => isWord_any R hi d st row ⟨#[119, 104, 105, 108, 101]⟩ W h)
 rw [hw3] at HW3
 generalize sgAt R.sg st 0 = x at HX h5
 obtain ⟨kd, xt, xp, xz⟩ := x
 dsimp only at HX h5
 have h5' : (kd == 5) = false := by rw [beq_eq_false_iff_ne]; exact h5
 rw [hs] at HNx
 clear hs HPk
 clear hI hn
 go_enter func222, ntmps222
 go_wp2_with fail
 refine rst (HX.out) HI0 HK0 ?_
 intro w1 HI1 HK1
 go_wp2_with fail
 refine rst (HW0.out _ HI1.out) HI1 HK1 ?_
 intro w2 HI2 HK2
 go_wp2_with fail
 refine rst (HW1.out _ HI2.out) HI2 HK2 ?_
 intro w3 HI3 HK3
 go_wp2_with fail
 refine rst (HW2.out _ HI3.out) HI3 HK3 ?_
 intro w4 HI4 HK4
 go_wp2_with fail
 refine rst (HW3.out _ HI4.out) HI4 HK4 ?_
 intro w5 HI5 HK5
 go_wp2_with fail
 refine rst (HNx.out _ _ HI5.out) HI5 HK5 ?_
 intro w6 HI6 HK6
 go_wp2_with fail
 refine pst (HP.out _ _ HI6.out) HK6 ?_
 intro w7 row7 HI7 HK7
 have HLoX := hid HI7.out.lo
 go_wp2_with fail
 refine pst (close_any R hi d st2 row7 ⟨#[59]⟩ 14 noT (some ⟨w7.heap.size, 0, none⟩) 1 1 [k] b w7.heap.size _ (HI7.out.alloc _) (kid1 w7 k) HLoX.out) HK7 ?_
 intro w8 row8 HI8 HK8
 go_wp2
 go_ret
 exact ⟨rfl, row8, HI8.out, HK8.out⟩
theorem stmt_do_b (R : RC) (hi : R.imp = true) (N f : Nat) (hN : R.n < N) (HE : EC R N f) (d : Nat) (b : Bool) (st : RdSt) (row : Option Nat) (w : World) (hI : RdI R d st row w) (hn : Need R.n st 12 (f + 1)) (hd : d + f ≤ 100000) (h5 : (sgAt R.sg st 0).1 ≠ 5) (hw0 : isW R.sg st ⟨#[118, 97, 114]⟩ = false) (hw1 : isW R.sg st ⟨#[114, 101, 116, 117, 114, 110]⟩ = false) (hw2 : isW R.sg st ⟨#[105, 102]⟩ = false) (hw3 : isW R.sg st ⟨#[119, 104, 105, 108, 101]⟩ = false) (hs0 : nameS R.sg st 0 = true) (hs : ((sgAt R.sg st 1).2.1.toList == [61]) = false) :
  Calls prog 222 #[.pointer (some ⟨R.T, 0, none⟩), .bool b] w (Does R d row w (.int .i64 (doS R.sg (exprF R.sg N f) d b st).1) (doS R.sg (exprF R.sg N f) d b st).2) := by
 have HP := hid (fun (row : Option Nat) (W : World) h => HE.value R.U d st row W h (hn.same (by omega) (Adv.refl st)) hd)
 have HNx := hid (fun (row : Option Nat) (W : World) h => namesNext_any R hi d st row 0 W h (by omega))
 have HPk := hid (fun (row : Option Nat) (W : World) h => peek_any R hi d st row 1 W h (by omega))
 unfold Does at HP ⊢
 unfold doS
 dsimp only
 generalize exprF R.sg N f .value d st = r at HP ⊢
 obtain ⟨k, st2⟩ := r
 dsimp only at HP ⊢
 have HI0 := hid hI
 have HK0 := hid (Kr.refl R.T row w)
 have HX := hid (next_any R hi d st row w hI)
 have hF0 := fld0
 have hF1 := fld1
 have HW0 := hid (fun (W : World) h => isWord_any R hi d st row ⟨#[118, 97, 114]⟩ W h)
 rw [hw0] at HW0
 have HW1 := hid (fun (W : World) h => isWord_any R hi d st row ⟨#[114, 101, 116, 117, 114, 110]⟩ W h)
 rw [hw1] at HW1
 have HW2 := hid (fun (W : World) h => isWord_any R hi d st row ⟨#[105, 102]⟩ W h)
 rw [hw2] at HW2
 have HW3 := hid (fun (W : World) h => isWord_any R hi d st row ⟨#[119, 104, 105, 108, 101]⟩ W h)
 rw [hw3] at HW3
 generalize sgAt R.sg st 0 = x at HX h5
 obtain ⟨kd, xt, xp, xz⟩ := x
 dsimp only at HX h5
 have h5' : (kd == 5) = false := by rw [beq_eq_false_iff_ne]; exact h5
 generalize sgAt R.sg st 1 = y at HPk hs
 obtain ⟨yk, yt, yp, yz⟩ := y
 dsimp only at HPk hs
 rw [hs0] at HNx
 clear hI hn
 go_enter func222, ntmps222
 go_wp2_with fail
 refine rst (HX.out) HI0 HK0 ?_
 intro w1 HI1 HK1
 go_wp2_with fail
 refine rst (HW0.out _ HI1.out) HI1 HK1 ?_
 intro w2 HI2 HK2
 go_wp2_with fail
 refine rst (HW1.out _ HI2.out) HI2 HK2 ?_
 intro w3 HI3 HK3
 go_wp2_with fail
 refine rst (HW2.out _ HI3.out) HI3 HK3 ?_
 intro w4 HI4 HK4
 go_wp2_with fail
 refine rst (HW3.out _ HI4.out) HI4 HK4 ?_
 intro w5 HI5 HK5
 go_wp2_with fail
 refine rst (HNx.out _ _ HI5.out) HI5 HK5 ?_
 intro w6 HI6 HK6
 go_wp2_with fail
 refine rst (HPk.out _ _ HI6.out) HI6 HK6 ?_
 intro w7 HI7 HK7
 go_wp2_with fail
 refine pst (HP.out _ _ HI7.out) HK7 ?_
 intro w8 row8 HI8 HK8
 have HLoX := hid HI8.out.lo
 go_wp2_with fail
 refine pst (close_any R hi d st2 row8 ⟨#[59]⟩ 14 noT (some ⟨w8.heap.size, 0, none⟩) 1 1 [k] b w8.heap.size _ (HI8.out.alloc _) (kid1 w8 k) HLoX.out) HK8 ?_
 intro w9 row9 HI9 HK9
 go_wp2
 go_ret
 exact ⟨rfl, row9, HI9.out, HK9.out⟩
theorem stmt_do_c (R : RC) (hi : R.imp = true) (N f : Nat) (hN : R.n < N) (HE : EC R N f) (d : Nat) (b : Bool) (st : RdSt) (row : Option Nat) (w : World) (hI : RdI R d st row w) (hn : Need R.n st 12 (f + 1)) (hd : d + f ≤ 100000) (h5 : (sgAt R.sg st 0).1 ≠ 5) (hw0 : isW R.sg st ⟨#[118, 97, 114]⟩ = false) (hw1 : isW R.sg st ⟨#[114, 101, 116, 117, 114, 110]⟩ = false) (hw2 : isW R.sg st ⟨#[105, 102]⟩ = false) (hw3 : isW R.sg st ⟨#[119, 104, 105, 108, 101]⟩ = false) (hs0 : nameS R.sg st 0 = true) (hs1 : ((sgAt R.sg st 1).2.1.toList == [61]) = true) (hs : ((sgAt R.sg st 1).1 == 4) = false) :
  Calls prog 222 #[.pointer (some ⟨R.T, 0, none⟩), .bool b] w (Does R d row w (.int .i64 (doS R.sg (exprF R.sg N f) d b st).1) (doS R.sg (exprF R.sg N f) d b st).2) := by
 have HP := hid (fun (row : Option Nat) (W : World) h => HE.value R.U d st row W h (hn.same (by omega) (Adv.refl st)) hd)
 have HNx := hid (fun (row : Option Nat) (W : World) h => namesNext_any R hi d st row 0 W h (by omega))
 have HPk := hid (fun (row : Option Nat) (W : World) h => peek_any R hi d st row 1 W h (by omega))
 unfold Does at HP ⊢
 unfold doS
 dsimp only
 generalize exprF R.sg N f .value d st = r at HP ⊢
 obtain ⟨k, st2⟩ := r
 dsimp only at HP ⊢
 have HI0 := hid hI
 have HK0 := hid (Kr.refl R.T row w)
 have HX := hid (next_any R hi d st row w hI)
 have hF0 := fld0
 have hF1 := fld1
 have HW0 := hid (fun (W : World) h => isWord_any R hi d st row ⟨#[118, 97, 114]⟩ W h)
 rw [hw0] at HW0
 have HW1 := hid (fun (W : World) h => isWord_any R hi d st row ⟨#[114, 101, 116, 117, 114, 110]⟩ W h)
 rw [hw1] at HW1
 have HW2 := hid (fun (W : World) h => isWord_any R hi d st row ⟨#[105, 102]⟩ W h)
 rw [hw2] at HW2
 have HW3 := hid (fun (W : World) h => isWord_any R hi d st row ⟨#[119, 104, 105, 108, 101]⟩ W h)
 rw [hw3] at HW3
 generalize sgAt R.sg st 0 = x at HX h5
 obtain ⟨kd, xt, xp, xz⟩ := x
 dsimp only at HX h5
 have h5' : (kd == 5) = false := by rw [beq_eq_false_iff_ne]; exact h5
 generalize sgAt R.sg st 1 = y at HPk hs hs1
 obtain ⟨yk, yt, yp, yz⟩ := y
 dsimp only at HPk hs hs1
 rw [hs0] at HNx
 clear hI hn
 go_enter func222, ntmps222
 go_wp2_with fail
 refine rst (HX.out) HI0 HK0 ?_
 intro w1 HI1 HK1
 go_wp2_with fail
 refine rst (HW0.out _ HI1.out) HI1 HK1 ?_
 intro w2 HI2 HK2
 go_wp2_with fail
 refine rst (HW1.out _ HI2.out) HI2 HK2 ?_
 intro w3 HI3 HK3
 go_wp2_with fail
 refine rst (HW2.out _ HI3.out) HI3 HK3 ?_
 intro w4 HI4 HK4
 go_wp2_with fail
 refine rst (HW3.out _ HI4.out) HI4 HK4 ?_
 intro w5 HI5 HK5
 go_wp2_with fail
 refine rst (HNx.out _ _ HI5.out) HI5 HK5 ?_
 intro w6 HI6 HK6
 go_wp2_with fail
 refine rst (HPk.out _ _ HI6.out) HI6 HK6 ?_
 intro w7 HI7 HK7
 go_wp2_with fail
 refine rst (HPk.out _ _ HI7.out) HI7 HK7 ?_
 intro w8 HI8 HK8
 go_wp2_with fail
 refine pst (HP.out _ _ HI8.out) HK8 ?_
 intro w9 row9 HI9 HK9
 have HLoX := hid HI9.out.lo
 go_wp2_with fail
 refine pst (close_any R hi d st2 row9 ⟨#[59]⟩ 14 noT (some ⟨w9.heap.size, 0, none⟩) 1 1 [k] b w9.heap.size _ (HI9.out.alloc _) (kid1 w9 k) HLoX.out) HK9 ?_
 intro w10 row10 HI10 HK10
 go_wp2
 go_ret
 exact ⟨rfl, row10, HI10.out, HK10.out⟩
theorem stmt_step (R : RC) (hi : R.imp = true) (N f : Nat) (hN : R.n < N) (HE : EC R N f) (d : Nat) (b : Bool) (st : RdSt) (row : Option Nat) (w : World) (hI : RdI R d st row w) (hn : Need R.n st 12 (f + 1)) (hd : d + f ≤ 100000) :
  Calls prog 222 #[.pointer (some ⟨R.T, 0, none⟩), .bool b] w (Does R d row w (.int .i64 (stmtS R.sg (exprF R.sg N f) d b st).1) (stmtS R.sg (exprF R.sg N f) d b st).2) := by
 by_cases h5 : (sgAt R.sg st 0).1 = 5
 ·rw [show stmtS R.sg (exprF R.sg N f) d b st = noteS R.sg b st from if_pos h5]
  exact stmt_note R hi N f hN HE d b st row w hI hn hd h5
 ·rcases bft (isW R.sg st ⟨#[118, 97, 114]⟩) with h0 | h0
  ·rw [show stmtS R.sg (exprF R.sg N f) d b st = varS R.sg (exprF R.sg N f) d b (skipS st) by unfold stmtS; rw [if_neg h5, if_pos h0]]
   exact stmt_var R hi N f hN HE d b st row w hI hn hd h5 h0
  ·rcases bft (isW R.sg st ⟨#[114, 101, 116, 117, 114, 110]⟩) with h1 | h1
   ·rw [show stmtS R.sg (exprF R.sg N f) d b st = leaveS R.sg (exprF R.sg N f) d b (skipS st) by unfold stmtS; rw [if_neg h5, if_neg (by rw [h0]; decide), if_pos h1]]
    exact stmt_ret R hi N f hN HE d b st row w hI hn hd h5 h0 h1
   ·rcases bft (isW R.sg st ⟨#[105, 102]⟩) with h2 | h2
    ·rw [show stmtS R.sg (exprF R.sg N f) d b st = ifS R.sg (exprF R.sg N f) d b (skipS st) by unfold stmtS; rw [if_neg h5, if_neg (by rw [h0]; decide), if_neg (by rw [h1]; decide), if_pos h2]]
     exact stmt_if R hi N f hN HE d b st row w hI hn hd h5 h0 h1 h2
    ·rcases bft (isW R.sg st ⟨#[119, 104, 105, 108, 101]⟩) with h3 | h3
     ·rw [show stmtS R.sg (exprF R.sg N f) d b st = whileS R.sg (exprF R.sg N f) d b (skipS st) by unfold stmtS; rw [if_neg h5, if_neg (by rw [h0]; decide), if_neg (by rw [h1]; decide), if_neg (by rw [h2]; decide), if_pos h3]]
      exact stmt_while R hi N f hN HE d b st row w hI hn hd h5 h0 h1 h2 h3
     ·rcases bft (setB R.sg st) with h4 | h4
      ·rw [show stmtS R.sg (exprF R.sg N f) d b st = setS R.sg (exprF R.sg N f) d b st by unfold stmtS; rw [if_neg h5, if_neg (by rw [h0]; decide), if_neg (by rw [h1]; decide), if_neg (by rw [h2]; decide), if_neg (by rw [h3]; decide), if_pos h4]]
       exact stmt_set R hi N f hN HE d b st row w hI hn hd h5 h0 h1 h2 h3 h4
      ·rw [show stmtS R.sg (exprF R.sg N f) d b st = doS R.sg (exprF R.sg N f) d b st by unfold stmtS; rw [if_neg h5, if_neg (by rw [h0]; decide), if_neg (by rw [h1]; decide), if_neg (by rw [h2]; decide), if_neg (by rw [h3]; decide), if_neg (by rw [h4]; decide)]]
       unfold setB at h4
       rcases bft (nameS R.sg st 0) with g0 | g0
       ·rw [g0, Bool.true_and] at h4
        rcases bft ((sgAt R.sg st 1).2.1.toList == [61]) with g1 | g1
        ·rw [g1, Bool.true_and] at h4
         exact stmt_do_c R hi N f hN HE d b st row w hI hn hd h5 h0 h1 h2 h3 g0 g1 h4
        ·exact stmt_do_b R hi N f hN HE d b st row w hI hn hd h5 h0 h1 h2 h3 g0 g1
       ·exact stmt_do_a R hi N f hN HE d b st row w hI hn hd h5 h0 h1 h2 h3 g0
theorem ec_u {R : RC} {N f : Nat} (U : Nat → Prop) (h : EC R N f) : EC { R with U := U } N f :=
 ⟨fun U' d st row w hI => h.value U' d st row w hI, fun U' d st row w hI => h.pick U' d st row w hI, fun U' l d st row w hI => h.chain U' l d st row w hI, fun U' d st row w hI => h.end_ U' d st row w hI, fun U' d st row w hI => h.base U' d st row w hI, fun U' b d st row w hI => h.stmt U' b d st row w hI, fun U' d st row w hI => h.block U' d st row w hI⟩
theorem ec_all (R : RC) (hi : R.imp = true) (N : Nat) (hN : R.n < N) : ∀ f, EC R N f := by
 intro f
 induction f with
 | zero =>
  exact ⟨fun U d st row w hI hn => absurd hn.1 (by omega), fun U d st row w hI hn => absurd hn.1 (by omega), fun U l d st row w hI hl hn => absurd hn.1 (by omega), fun U d st row w hI hn => absurd hn.1 (by omega), fun U d st row w hI hn => absurd hn.1 (by omega), fun U b d st row w hI hn => absurd hn.1 (by omega), fun U d st row w hI hn => absurd hn.1 (by omega)⟩
 | succ f ih =>
  exact ⟨fun U d st row w hI hn hd => value_step { R with U := U } hi N f hN (ec_u U ih) d st row w hI hn hd,
   fun U d st row w hI hn hd => pick_step { R with U := U } hi N f (ec_u U ih) d st row w hI hn hd,
   fun U l d st row w hI hl hn hd => chain_step { R with U := U } hi N f hN (ec_u U ih) l d hl st row w hI hn hd,
   fun U d st row w hI hn hd => end_step { R with U := U } hi N f hN (ec_u U ih) d st row w hI hn hd,
   fun U d st row w hI hn hd => base_step { R with U := U } hi N f hN (ec_u U ih) d st row w hI hn hd,
   fun U b d st row w hI hn hd => stmt_step { R with U := U } hi N f hN (ec_u U ih) d b st row w hI hn (by omega),
   fun U d st row w hI hn hd => block_step { R with U := U } hi N f hN (ec_u U ih) d st row w hI hn hd⟩
end Go.Proofs.YtgbikafalcbibaaGreatDoor

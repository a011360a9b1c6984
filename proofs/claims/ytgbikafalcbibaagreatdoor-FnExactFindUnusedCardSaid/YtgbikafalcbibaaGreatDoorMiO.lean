/-
  Put together by program (shake.py): ParT, ParU, ParW, ParV.
-/
import Derived.Test.YtgbikafalcbibaaGreatDoorMiN
import Derived.Test.YtgbikafalcbibaaGreatDoorMiK
set_option maxRecDepth 100000
set_option maxHeartbeats 25600000
set_option linter.unusedVariables false
set_option linter.unusedSimpArgs false
open Go.Lib (hid)
open Go.Proofs.Tryz
namespace Go.Proofs.YtgbikafalcbibaaGreatDoor
open Go.RowKit
theorem need_any {n r F : Nat} (st : RdSt) (hF : 14 * (n + 2) ≤ F) (hr : r ≤ 13) : Need n st r F := ⟨by omega, fun s _ => by
 have : n - s.at_ ≤ n := by omega
 omega⟩
theorem member_note (R : RC) (hi : R.imp = true) (N F : Nat) (hF : 14 * (R.n + 2) ≤ F) (hd : F ≤ 100000) (hN : R.n < N) (HE : EC R N F) (b cl : Bool) (st : RdSt) (row : Option Nat) (w : World) (hI : RdI R 0 st row w) (h5 : (sgAt R.sg st 0).1 = 5) :
  Calls prog 137 #[.pointer (some ⟨R.T, 0, none⟩), .bool b, .bool cl] w (Does R 0 row w (.int .i64 (noteS R.sg b st).1) (noteS R.sg b st).2) := by
 have hln : ∀ s, st = some s → s.at_ < R.n := fun s e => by
  rcases Nat.lt_or_ge s.at_ R.sg.length with hl | hl
  ·rw [← hI.ok.len]; exact hl
  ·exact absurd h5 (by rw [e, sgAt_out (i := 0) hl]; decide)
 have HP := hid (fun (row : Option Nat) (W : World) h => note_any R hi 0 st row b W h hln)
 unfold Does at HP ⊢
 generalize noteS R.sg b st = r at HP ⊢
 obtain ⟨k, st2⟩ := r
 dsimp only at HP ⊢
 have HI0 := hid hI
 have HK0 := hid (Kr.refl R.T row w)
 have HX := hid (next_any R hi 0 st row w hI)
 have hF0 := fld0
 generalize sgAt R.sg st 0 = x at HX h5
 obtain ⟨kd, xt, xp, xz⟩ := x
 dsimp only at HX h5
 subst h5
 clear hI hln
 go_enter func137, ntmps137
 go_wp2_with fail
 refine rst (HX.out) HI0 HK0 ?_
 intro w1 HI1 HK1
 go_wp2_with fail
 refine pst (HP.out _ _ HI1.out) HK1 ?_
 intro w2 row2 HI2 HK2
 go_wp2
 go_ret
 exact ⟨rfl, row2, HI2.out, HK2.out⟩
theorem member_var (R : RC) (hi : R.imp = true) (N F : Nat) (hF : 14 * (R.n + 2) ≤ F) (hd : F ≤ 100000) (hN : R.n < N) (HE : EC R N F) (b cl : Bool) (st : RdSt) (row : Option Nat) (w : World) (hI : RdI R 0 st row w) (h5 : (sgAt R.sg st 0).1 ≠ 5) (hw0 : isW R.sg st ⟨#[118, 97, 114]⟩ = true) :
  Calls prog 137 #[.pointer (some ⟨R.T, 0, none⟩), .bool b, .bool cl] w (Does R 0 row w (.int .i64 (varS R.sg (exprF R.sg N F) 0 b (skipS st)).1) (varS R.sg (exprF R.sg N F) 0 b (skipS st)).2) := by
 obtain ⟨s, es, hlt⟩ := isW_lt hw0
 subst es
 have hsn : s.at_ < R.n := by rw [← hI.ok.len]; exact hlt
 have HP := hid (fun (row : Option Nat) (W : World) h => variable_step R hi N F HE 0 b s row W h hsn (need_any (r := 12) (F := F + 1) (some s) (by omega) (by omega)) (by omega))
 unfold Does at HP ⊢
 generalize varS R.sg (exprF R.sg N F) 0 b (skipS (some s)) = r at HP ⊢
 obtain ⟨k, st2⟩ := r
 dsimp only at HP ⊢
 have HI0 := hid hI
 have HK0 := hid (Kr.refl R.T row w)
 have HX := hid (next_any R hi 0 (some s) row w hI)
 have hF0 := fld0
 have HW0 := hid (fun (W : World) h => isWord_any R hi 0 (some s) row ⟨#[118, 97, 114]⟩ W h)
 rw [hw0] at HW0
 generalize sgAt R.sg (some s) 0 = x at HX h5
 obtain ⟨kd, xt, xp, xz⟩ := x
 dsimp only at HX h5
 have h5' : (kd == 5) = false := by rw [beq_eq_false_iff_ne]; exact h5
 clear hI hlt
 go_enter func137, ntmps137
 go_wp2_with fail
 refine rst (HX.out) HI0 HK0 ?_
 intro w1 HI1 HK1
 go_wp2_with fail
 refine rst (HW0.out _ HI1.out) HI1 HK1 ?_
 intro w2 HI2 HK2
 go_wp2_with fail
 refine pst (HP.out _ _ HI2.out) HK2 ?_
 intro w3 row3 HI3 HK3
 go_wp2
 go_ret
 exact ⟨rfl, row3, HI3.out, HK3.out⟩
theorem member_meth_f (R : RC) (hi : R.imp = true) (N F : Nat) (hF : 14 * (R.n + 2) ≤ F) (hd : F ≤ 100000) (hN : R.n < N) (HE : EC R N F) (b cl : Bool) (st : RdSt) (row : Option Nat) (w : World) (hI : RdI R 0 st row w) (h5 : (sgAt R.sg st 0).1 ≠ 5) (hw0 : isW R.sg st ⟨#[118, 97, 114]⟩ = false) (hcl : cl = false) :
  Calls prog 137 #[.pointer (some ⟨R.T, 0, none⟩), .bool b, .bool cl] w (Does R 0 row w (.int .i64 (methS R.sg (exprF R.sg N F) N b st).1) (methS R.sg (exprF R.sg N F) N b st).2) := by
 obtain ⟨i0, hi0, hz0, hz1, hz2⟩ := info_parts infoInt
 have HII := hid (And.intro hi0 (And.intro hz0 (And.intro hz1 hz2)))
 clear hi0 hz0 hz1 hz2
 have HLo := hid hI.lo
 have HB0 := hid hI.lo.1
 have HNm := hid (fun (row : Option Nat) (W : World) h => name_any R hi 0 st row W h)
 unfold Does at HNm ⊢
 unfold methS
 dsimp only
 generalize nmT R.sg st = nt at HNm ⊢
 generalize nmS R.sg st = st1 at HNm ⊢
 have HL := hid (fun (row : Option Nat) (W : World) h => listTo_nu R.U hi 0 (takeS R.sg st1 ⟨#[40]⟩) row ⟨#[41]⟩ N W h hN)
 generalize listF R.sg (nameNodeS R.sg) ⟨#[41]⟩ N [] (takeS R.sg st1 ⟨#[40]⟩) = q at HL ⊢
 obtain ⟨ks, st3⟩ := q
 dsimp only at HL ⊢
 have HP := hid (fun (U : Nat → Prop) (row : Option Nat) (W : World) h => HE.block U 0 (takeS R.sg st3 ⟨#[41]⟩) row W h (need_any _ hF (by omega)) (by omega))
 unfold Does at HP
 generalize exprF R.sg N F .block 0 (takeS R.sg st3 ⟨#[41]⟩) = r at HP ⊢
 obtain ⟨k, st5⟩ := r
 dsimp only at HP ⊢
 have HI0 := hid hI
 have HK0 := hid (Kr.refl R.T row w)
 have HX := hid (next_any R hi 0 st row w hI)
 have hF0 := fld0
 have HW0 := hid (fun (W : World) h => isWord_any R hi 0 st row ⟨#[118, 97, 114]⟩ W h)
 rw [hw0] at HW0
 generalize sgAt R.sg st 0 = x at HX h5
 obtain ⟨kd, xt, xp, xz⟩ := x
 dsimp only at HX h5
 have h5' : (kd == 5) = false := by rw [beq_eq_false_iff_ne]; exact h5
 clear hI
 subst hcl
 go_enter func137, ntmps137
 go_wp2_with fail
 refine rst (HX.out) HI0 HK0 ?_
 intro w1 HI1 HK1
 go_wp2_with fail
 refine rst (HW0.out _ HI1.out) HI1 HK1 ?_
 intro w2 HI2 HK2
 go_wp2_with fail
 refine pst (HNm.out _ _ HI2.out) HK2 ?_
 intro w3 row3 HI3 HK3
 go_wp2_with fail
 refine pst (take_any R hi 0 st1 row3 ⟨#[40]⟩ w3 HI3.out) HK3 ?_
 intro w4 row4 HI4 HK4
 go_wp2_with fail
 refine (HL.out _ _ HI4.out).mono ?_
 rintro e w5 ⟨A, c, rfl, m2, hle, row5, h2, k2⟩
 have HK5 := keep_kr HK4 k2
 have HI5 := hid h2
 have HM := hid (m2.more (B' := w.heap.size) HK4.out.size)
 clear h2 k2 m2 HL
 go_wp2_with fail
 refine (take_u _ hi 0 st3 row5 ⟨#[41]⟩ w5 HI5.out).mono ?_
 rintro e w6 ⟨rfl, row6, h3, k3⟩
 replace HM := hid (HI5.out.keepI k3 HM.out)
 have HI6 := hid h3
 have HK6 := hid (HK5.out.trans k3)
 clear h3 k3
 go_wp2_with fail
 refine (HP.out _ _ _ HI6.out).mono ?_
 rintro e w7 ⟨rfl, row7, h5x, k5⟩
 replace HM := hid (HI6.out.keepI k5 HM.out)
 have HI7 := hid h5x
 have HK7 := hid (HK6.out.trans k5)
 clear h5x k5 HP
 go_wp2_with (at_builtin; refine app_int (.tmp 47) (.tmp 49) HI7 HK7 HM HB0 rfl rfl rfl rfl (by omega) ?_; intro A8 c8 w8 HI8 HK8 HM8)
 replace HM := HM8
 clear HM8
 have hA := addK R hi 0 st5 row7 20 nt A8 (ks.length + 1) c8 (ks ++ [k]) b w.heap.size w8 HI8.out.unres HM.out HLo.out
 unfold Does at hA
 have HAd := hid hA
 clear hA
 go_wp2_with fail
 refine HAd.out.mono ?_
 rintro e w9 ⟨rfl, row9, h8, k8⟩
 go_wp2
 go_ret
 exact ⟨rfl, row9, h8, HK8.out.trans k8⟩
theorem member_meth_t (R : RC) (hi : R.imp = true) (N F : Nat) (hF : 14 * (R.n + 2) ≤ F) (hd : F ≤ 100000) (hN : R.n < N) (HE : EC R N F) (b cl : Bool) (st : RdSt) (row : Option Nat) (w : World) (hI : RdI R 0 st row w) (h5 : (sgAt R.sg st 0).1 ≠ 5) (hw0 : isW R.sg st ⟨#[118, 97, 114]⟩ = false) (hw1 : isW R.sg st ⟨#[99, 108, 97, 115, 115]⟩ = false) (hcl : cl = true) :
  Calls prog 137 #[.pointer (some ⟨R.T, 0, none⟩), .bool b, .bool cl] w (Does R 0 row w (.int .i64 (methS R.sg (exprF R.sg N F) N b st).1) (methS R.sg (exprF R.sg N F) N b st).2) := by
 obtain ⟨i0, hi0, hz0, hz1, hz2⟩ := info_parts infoInt
 have HII := hid (And.intro hi0 (And.intro hz0 (And.intro hz1 hz2)))
 clear hi0 hz0 hz1 hz2
 have HLo := hid hI.lo
 have HB0 := hid hI.lo.1
 have HNm := hid (fun (row : Option Nat) (W : World) h => name_any R hi 0 st row W h)
 unfold Does at HNm ⊢
 unfold methS
 dsimp only
 generalize nmT R.sg st = nt at HNm ⊢
 generalize nmS R.sg st = st1 at HNm ⊢
 have HL := hid (fun (row : Option Nat) (W : World) h => listTo_nu R.U hi 0 (takeS R.sg st1 ⟨#[40]⟩) row ⟨#[41]⟩ N W h hN)
 generalize listF R.sg (nameNodeS R.sg) ⟨#[41]⟩ N [] (takeS R.sg st1 ⟨#[40]⟩) = q at HL ⊢
 obtain ⟨ks, st3⟩ := q
 dsimp only at HL ⊢
 have HP := hid (fun (U : Nat → Prop) (row : Option Nat) (W : World) h => HE.block U 0 (takeS R.sg st3 ⟨#[41]⟩) row W h (need_any _ hF (by omega)) (by omega))
 unfold Does at HP
 generalize exprF R.sg N F .block 0 (takeS R.sg st3 ⟨#[41]⟩) = r at HP ⊢
 obtain ⟨k, st5⟩ := r
 dsimp only at HP ⊢
 have HI0 := hid hI
 have HK0 := hid (Kr.refl R.T row w)
 have HX := hid (next_any R hi 0 st row w hI)
 have hF0 := fld0
 have HW0 := hid (fun (W : World) h => isWord_any R hi 0 st row ⟨#[118, 97, 114]⟩ W h)
 rw [hw0] at HW0
 have HW1 := hid (fun (W : World) h => isWord_any R hi 0 st row ⟨#[99, 108, 97, 115, 115]⟩ W h)
 rw [hw1] at HW1
 generalize sgAt R.sg st 0 = x at HX h5
 obtain ⟨kd, xt, xp, xz⟩ := x
 dsimp only at HX h5
 have h5' : (kd == 5) = false := by rw [beq_eq_false_iff_ne]; exact h5
 clear hI
 subst hcl
 go_enter func137, ntmps137
 go_wp2_with fail
 refine rst (HX.out) HI0 HK0 ?_
 intro w1 HI1 HK1
 go_wp2_with fail
 refine rst (HW0.out _ HI1.out) HI1 HK1 ?_
 intro w2 HI2 HK2
 go_wp2_with fail
 refine rst (HW1.out _ HI2.out) HI2 HK2 ?_
 intro w3 HI3 HK3
 go_wp2_with fail
 refine pst (HNm.out _ _ HI3.out) HK3 ?_
 intro w4 row4 HI4 HK4
 go_wp2_with fail
 refine pst (take_any R hi 0 st1 row4 ⟨#[40]⟩ w4 HI4.out) HK4 ?_
 intro w5 row5 HI5 HK5
 go_wp2_with fail
 refine (HL.out _ _ HI5.out).mono ?_
 rintro e w6 ⟨A, c, rfl, m2, hle, row6, h2, k2⟩
 have HK6 := keep_kr HK5 k2
 have HI6 := hid h2
 have HM := hid (m2.more (B' := w.heap.size) HK5.out.size)
 clear h2 k2 m2 HL
 go_wp2_with fail
 refine (take_u _ hi 0 st3 row6 ⟨#[41]⟩ w6 HI6.out).mono ?_
 rintro e w7 ⟨rfl, row7, h3, k3⟩
 replace HM := hid (HI6.out.keepI k3 HM.out)
 have HI7 := hid h3
 have HK7 := hid (HK6.out.trans k3)
 clear h3 k3
 go_wp2_with fail
 refine (HP.out _ _ _ HI7.out).mono ?_
 rintro e w8 ⟨rfl, row8, h5x, k5⟩
 replace HM := hid (HI7.out.keepI k5 HM.out)
 have HI8 := hid h5x
 have HK8 := hid (HK7.out.trans k5)
 clear h5x k5 HP
 go_wp2_with (at_builtin; refine app_int (.tmp 47) (.tmp 49) HI8 HK8 HM HB0 rfl rfl rfl rfl (by omega) ?_; intro A9 c9 w9 HI9 HK9 HM9)
 replace HM := HM9
 clear HM9
 have hA := addK R hi 0 st5 row8 20 nt A9 (ks.length + 1) c9 (ks ++ [k]) b w.heap.size w9 HI9.out.unres HM.out HLo.out
 unfold Does at hA
 have HAd := hid hA
 clear hA
 go_wp2_with fail
 refine HAd.out.mono ?_
 rintro e w10 ⟨rfl, row10, h8, k8⟩
 go_wp2
 go_ret
 exact ⟨rfl, row10, h8, HK9.out.trans k8⟩
theorem member_low (R : RC) (hi : R.imp = true) (N F : Nat) (hF : 14 * (R.n + 2) ≤ F) (hd : F ≤ 100000) (hN : R.n < N) (HE : EC R N F) (b : Bool) (st : RdSt) (row : Option Nat) (w : World) (hI : RdI R 0 st row w) :
  Calls prog 137 #[.pointer (some ⟨R.T, 0, none⟩), .bool b, .bool false] w (Does R 0 row w (.int .i64 (memS R.sg (exprF R.sg N F) N b st).1) (memS R.sg (exprF R.sg N F) N b st).2) := by
 by_cases h5 : (sgAt R.sg st 0).1 = 5
 ·rw [show memS R.sg (exprF R.sg N F) N b st = noteS R.sg b st from if_pos h5]
  exact member_note R hi N F hF hd hN HE b false st row w hI h5
 ·rcases bft (isW R.sg st ⟨#[118, 97, 114]⟩) with h0 | h0
  ·rw [show memS R.sg (exprF R.sg N F) N b st = varS R.sg (exprF R.sg N F) 0 b (skipS st) by unfold memS; rw [if_neg h5, if_pos h0]]
   exact member_var R hi N F hF hd hN HE b false st row w hI h5 h0
  ·rw [show memS R.sg (exprF R.sg N F) N b st = methS R.sg (exprF R.sg N F) N b st by unfold memS; rw [if_neg h5, if_neg (by rw [h0]; decide)]]
   exact member_meth_f R hi N F hF hd hN HE b false st row w hI h5 h0 rfl
theorem class_step (R : RC) (hi : R.imp = true) (N F : Nat) (hF : 14 * (R.n + 2) ≤ F) (hd : F ≤ 100000) (hN : R.n < N) (HE : EC R N F) (bl : Bool) (s : PS) (row : Option Nat) (w : World) (hI : RdI R 0 (some s) row w) (hsn : s.at_ < R.n) :
  Calls prog 176 #[.pointer (some ⟨R.T, 0, none⟩), .bool bl] w (Does R 0 row w (.int .i64 (classS R.sg (exprF R.sg N F) N bl (skipS (some s))).1) (classS R.sg (exprF R.sg N F) N bl (skipS (some s))).2) := by
 obtain ⟨i0, hi0, hz0, hz1, hz2⟩ := info_parts infoInt
 have HII := hid (And.intro hi0 (And.intro hz0 (And.intro hz1 hz2)))
 clear hi0 hz0 hz1 hz2
 have HI0 := hid hI
 have HK0 := hid (Kr.refl R.T row w)
 have HLo := hid hI.lo
 have HB0 := hid hI.lo.1
 have HL := hid (fun t (e : (some s) = some t) => show t.at_ < R.n by obtain rfl := Option.some.inj e; exact hsn)
 have HNm := hid (fun (row : Option Nat) (W : World) h => name_any R hi 0 (skipS (some s)) row W h)
 have HO : Hid (BodyC R 0 (some s) (memS R.sg (exprF R.sg N F) N) (fun w b Q => Calls prog 137 #[.pointer (some ⟨R.T, 0, none⟩), .bool b, .bool false] w Q)) := (show BodyC _ _ _ _ _ from fun U b t row w h ha => member_low { R with U := U } hi N F hF hd hN (ec_u U HE) b (some t) row w h)
 have HA2 : Hid (∀ b st, Adv 1 1 st (memS R.sg (exprF R.sg N F) N b st).2) := (show ∀ b st, _ from fun b st => adv_mem (fun m d st => adv_expr F m d st) b st)
 unfold Does at HNm ⊢
 unfold classS
 dsimp only
 generalize memS R.sg (exprF R.sg N F) N = one at HO HA2 ⊢
 generalize nmT R.sg (skipS (some s)) = nt at HNm ⊢
 have hadv := ((adv_skip (some s)).trans (adv_nm (sg := R.sg) (skipS (some s)))).trans (adv_take (sg := R.sg) (nmS R.sg (skipS (some s))) ⟨#[123]⟩)
 generalize nmS R.sg (skipS (some s)) = st1 at HNm hadv ⊢
 obtain ⟨Q, hQ⟩ : ∃ Q, bodyF R.sg one N [] (takeS R.sg st1 ⟨#[123]⟩) = Q := ⟨_, rfl⟩
 rw [hQ]
 have HQ := hid hQ
 have HAD0 : Hid (Adv 1 0 (some s) (takeS R.sg st1 ⟨#[123]⟩)) := hadv.weak (by omega) (by omega)
 have hF3 := fld3
 clear hI hadv hQ
 go_enter func176, ntmps176
 go_wp2_with fail
 refine pst (pass_any R hi 0 (some s) row w HI0.out HL.out) HK0 ?_
 intro w1 row1 HI1 HK1
 go_wp2_with fail
 refine pst (HNm.out _ _ HI1.out) HK1 ?_
 intro w2 row2 HI2 HK2
 go_wp2_with fail
 refine pst (take_any R hi 0 st1 row2 ⟨#[123]⟩ w2 HI2.out) HK2 ?_
 intro w3 row3 HI3 HK3
 generalize takeS R.sg st1 ⟨#[123]⟩ = st2 at HQ HAD0 HI3
 go_upto_region 5 with fail
 go_loopw [6] (fun v wr => ∃ (M : Nat) (ks : List Int) (st' : RdSt) (row' : Option Nat) (A : Option Addr) (c : Nat), v = .slice A ks.length c ∧ Hid (bodyF R.sg one M ks st' = Q) ∧ Hid (Adv 1 0 (some s) st') ∧ Hid (Enough R.n M st') ∧ Hid (KidB ks st') ∧ Hid (Mine wr w.heap.size 3 1 A ks.length c (intCells ks)) ∧ Hid (RdI (R.res A) 0 st' row' wr) ∧ Hid (Kr R.T row w row' wr)) (fun _ wr => measI R wr)
 case atStart => exact ⟨N, [], st2, row3, none, 0, rfl, HQ, HAD0, (show Enough _ _ _ from enough_of hN _), ⟨by simp, fun s _ => by simp⟩, Mine.mk_nil _ _ _ _, HI3.out.res_new (Below.refl _ _) (fun g hg => by cases hg), HK3⟩
 case round =>
  clear HQ HAD0 HI0 HI1 HI2 HI3 HK0 HK1 HK2 HK3
  obtain ⟨M, ks, st', row', A, c, rfl, HQ, HAD, HEn, HKB, HM, HI, HK⟩ := hrel
  have HFin := hid (fun (row : Option Nat) (W : World) (hI : RdI R 0 st' row W) (hm : Mine W w.heap.size 3 1 A ks.length c (intCells ks)) => close_any R hi 0 st' row ⟨#[125]⟩ 21 nt A ks.length c ks bl w.heap.size W hI hm HLo.out)
  unfold Does at HFin
  cases st' with
  | none =>
   obtain ⟨a, b, AN, cN, l, hc, hb, hrow⟩ := HI.out
   obtain ⟨c2, c3, c4, cf, cz⟩ := hc.cu _ hi
   obtain rfl : b = true := hb
   have hq := HQ.out
   rw [bodyF_none] at hq
   subst hq
   clear hc c2 c3 hrow HQ
   go_wp2_with fail
   refine (HFin.out _ _ HI.out.unres HM.out).mono ?_
   rintro e w4 ⟨rfl, row4, h4, k4⟩
   clear c4 cf cz
   go_wp2
   go_ret
   exact ⟨rfl, row4, h4, HK.out.trans k4⟩
  | some t =>
   obtain ⟨M, rfl⟩ : ∃ M', M = M' + 1 := ⟨M - 1, by
    have h1 := HEn.out t rfl
    have h2 := (HI.out.le rfl).1
    have : (R.res A).n = R.n := rfl
    omega⟩
   obtain ⟨a, b, AN, cN, l, hc, hb, hrow⟩ := HI.out
   obtain ⟨c2, c3, c4, cf, cz⟩ := hc.cu _ hi
   obtain ⟨rfl, _, _⟩ := hb
   have HIs := hid (is_u _ hi 0 (some t) row' ⟨#[125]⟩ wr HI.out)
   have hq := HQ.out
   unfold bodyF at hq
   rw [if_neg (show ¬ (some t).isNone = true by simp)] at hq
   clear hc c2 c3 hrow HQ
   rcases bft (isM R.sg (some t) ⟨#[125]⟩) with hM | hM
   ·rw [if_pos hM] at hq
    subst hq
    rw [hM] at HIs
    clear hM
    go_wp2_with fail
    refine HIs.out.mono ?_
    rintro e w2 ⟨rfl, g2⟩
    have HI2 := hid (HI.out.next g2)
    have HM2 := hid (HM.out.next g2)
    have HK2 := hid (HK.out.below g2)
    clear c4 cf cz g2
    go_wp2_with fail
    refine (HFin.out _ _ HI2.out.unres HM2.out).mono ?_
    rintro e w4 ⟨rfl, row4, h4, k4⟩
    go_wp2
    go_ret
    exact ⟨rfl, row4, h4, HK2.out.trans k4⟩
   ·rw [if_neg (by rw [hM]; decide)] at hq
    rw [hM] at HIs
    have HX := hid (fun (row : Option Nat) (W : World) h => next_u (R := R) (fun x => R.U x ∨ A.map (·.block) = some x) hi 0 (some t) row W h)
    have hbl : blankB R.sg (some t) ks = ((sgAt R.sg (some t) 0).2.2.2 && decide (0 < ks.length)) := rfl
    rw [hbl] at hq
    generalize sgAt R.sg (some t) 0 = x at HX hq hbl
    obtain ⟨xk, xt, xp, xz⟩ := x
    dsimp only at HX hq hbl
    clear hM hbl HFin
    have hkb1 := HKB.out.2 t rfl
    have hnb := (HI.out.le rfl).2
    have hkb := HKB.out.1
    have HR3 : Hid (∀ bb : Bool, (xz && decide (0 < ks.length)) = bb → ∃ r : PR, bodyF R.sg one M (ks ++ [r.1]) r.2 = Q ∧ Adv 1 1 (some t) r.2 ∧ ∀ (row : Option Nat) (W : World), RdI { R with U := fun x => R.U x ∨ A.map (·.block) = some x } 0 (some t) row W → Calls prog 137 #[.pointer (some ⟨R.T, 0, none⟩), .bool bb, .bool false] W (fun e w' => e = .returned (.int .i64 r.1) ∧ ∃ row', RdI { R with U := fun x => R.U x ∨ A.map (·.block) = some x } 0 r.2 row' w' ∧ Kr R.T row W row' w')) := (show ∀ bb, _ → _ from fun bb e => ⟨one bb (some t), by rw [← e]; exact hq, HA2.out bb (some t), fun row W h => HO.out _ bb t row W h HAD.out⟩)
    clear hq
    cases xz with
    | false =>
     obtain ⟨r, hq, hadv3, hC⟩ := HR3.out false rfl
     obtain ⟨kc, st3⟩ := r
     dsimp only at hq hadv3 hC
     have HQ3 := hid hq
     have HC := hid hC
     have HAD3 := hid hadv3
     have HAK : Hid (KidB (ks ++ [kc]) st3) := (show KidB _ _ from ⟨by rw [lA]; simp; omega, fun t2 e => by
      obtain ⟨s'', e2, _, h3⟩ := hadv3 t2 e
      obtain rfl := Option.some.inj e2
      rw [lA]
      simp
      omega⟩)
     have HAN : Hid (Enough R.n M st3) := HEn.out.adv (i := 0) hadv3
     have HAA : Hid (Adv 1 0 (some s) st3) := (HAD.out.trans hadv3).weak (by omega) (by omega)
     have hlk : (ks ++ [kc]).length = ks.length + 1 := by simp
     clear hq hC hadv3 HR3
     go_wp2_with fail
     refine HIs.out.mono ?_
     rintro e w2 ⟨rfl, g2⟩
     have HI2 := hid (HI.out.next g2)
     have HM2 := hid (HM.out.next g2)
     have HK2 := hid (HK.out.below g2)
     clear c4 cf cz g2 HIs
     go_wp2_with fail
     refine (HX.out _ _ HI2.out).mono ?_
     rintro e w3 ⟨rfl, g3⟩
     have HI3 := hid (HI2.out.next g3)
     have HM3 := hid (HM2.out.next g3)
     have HK3 := hid (HK2.out.below g3)
     clear g3 HX HI2 HM2 HK2
     go_wp2_with fail
     refine (HC.out _ _ HI3.out).mono ?_
     rintro e w4 ⟨rfl, row4, h4, k4⟩
     have HM := hid (HI3.out.keepI k4 HM3.out)
     have HI4 := hid h4
     have HK4 := hid (HK3.out.trans k4)
     clear h4 k4 HI3 HM3 HK3
     go_wp2_with (at_builtin; refine app_int (.tmp 34) (.tmp 36) HI4 HK4 HM HB0 rfl rfl rfl rfl (by omega) ?_; intro A5 c5 w5 HI5 HK5 HM5)
     replace HM := HM5
     clear HM5
     go_wp2
     go_roundw
     case rel => exact ⟨M, ks ++ [kc], st3, row4, A5, c5, by rw [hlk], HQ3, HAA, HAN, HAK, by rw [hlk]; exact HM, HI5, HK5⟩
     case measure => exact meas_u hi HI.out HI5.out (HAD3.out.weak (i' := 1) (j' := 0) (by omega) (by omega))
    | true =>
     obtain ⟨r, hq, hadv3, hC⟩ := HR3.out _ rfl
     obtain ⟨kc, st3⟩ := r
     dsimp only at hq hadv3 hC
     rw [Bool.true_and] at hC
     have HQ3 := hid hq
     have HC := hid hC
     have HAD3 := hid hadv3
     have HAK : Hid (KidB (ks ++ [kc]) st3) := (show KidB _ _ from ⟨by rw [lA]; simp; omega, fun t2 e => by
      obtain ⟨s'', e2, _, h3⟩ := hadv3 t2 e
      obtain rfl := Option.some.inj e2
      rw [lA]
      simp
      omega⟩)
     have HAN : Hid (Enough R.n M st3) := HEn.out.adv (i := 0) hadv3
     have HAA : Hid (Adv 1 0 (some s) st3) := (HAD.out.trans hadv3).weak (by omega) (by omega)
     have hlk : (ks ++ [kc]).length = ks.length + 1 := by simp
     clear hq hC hadv3 HR3
     go_wp2_with fail
     refine HIs.out.mono ?_
     rintro e w2 ⟨rfl, g2⟩
     have HI2 := hid (HI.out.next g2)
     have HM2 := hid (HM.out.next g2)
     have HK2 := hid (HK.out.below g2)
     clear c4 cf cz g2 HIs
     go_wp2_with fail
     refine (HX.out _ _ HI2.out).mono ?_
     rintro e w3 ⟨rfl, g3⟩
     have HI3 := hid (HI2.out.next g3)
     have HM3 := hid (HM2.out.next g3)
     have HK3 := hid (HK2.out.below g3)
     clear g3 HX HI2 HM2 HK2
     go_wp2_with fail
     refine (HC.out _ _ HI3.out).mono ?_
     rintro e w4 ⟨rfl, row4, h4, k4⟩
     have HM := hid (HI3.out.keepI k4 HM3.out)
     have HI4 := hid h4
     have HK4 := hid (HK3.out.trans k4)
     clear h4 k4 HI3 HM3 HK3
     go_wp2_with (at_builtin; refine app_int (.tmp 34) (.tmp 36) HI4 HK4 HM HB0 rfl rfl rfl rfl (by omega) ?_; intro A5 c5 w5 HI5 HK5 HM5)
     replace HM := HM5
     clear HM5
     go_wp2
     go_roundw
     case rel => exact ⟨M, ks ++ [kc], st3, row4, A5, c5, by rw [hlk], HQ3, HAA, HAN, HAK, by rw [hlk]; exact HM, HI5, HK5⟩
     case measure => exact meas_u hi HI.out HI5.out (HAD3.out.weak (i' := 1) (j' := 0) (by omega) (by omega))
theorem member_class (R : RC) (hi : R.imp = true) (N F : Nat) (hF : 14 * (R.n + 2) ≤ F) (hd : F ≤ 100000) (hN : R.n < N) (HE : EC R N F) (b : Bool) (st : RdSt) (row : Option Nat) (w : World) (hI : RdI R 0 st row w) (h5 : (sgAt R.sg st 0).1 ≠ 5) (hw0 : isW R.sg st ⟨#[118, 97, 114]⟩ = false) (hw1 : isW R.sg st ⟨#[99, 108, 97, 115, 115]⟩ = true) :
  Calls prog 137 #[.pointer (some ⟨R.T, 0, none⟩), .bool b, .bool true] w (Does R 0 row w (.int .i64 (classS R.sg (exprF R.sg N F) N b (skipS st)).1) (classS R.sg (exprF R.sg N F) N b (skipS st)).2) := by
 obtain ⟨s, es, hlt⟩ := isW_lt hw1
 subst es
 have hsn : s.at_ < R.n := by rw [← hI.ok.len]; exact hlt
 have HP := hid (fun (row : Option Nat) (W : World) h => class_step R hi N F hF hd hN HE b s row W h hsn)
 unfold Does at HP ⊢
 generalize classS R.sg (exprF R.sg N F) N b (skipS (some s)) = r at HP ⊢
 obtain ⟨k, st2⟩ := r
 dsimp only at HP ⊢
 have HI0 := hid hI
 have HK0 := hid (Kr.refl R.T row w)
 have HX := hid (next_any R hi 0 (some s) row w hI)
 have hF0 := fld0
 have HW0 := hid (fun (W : World) h => isWord_any R hi 0 (some s) row ⟨#[118, 97, 114]⟩ W h)
 rw [hw0] at HW0
 have HW1 := hid (fun (W : World) h => isWord_any R hi 0 (some s) row ⟨#[99, 108, 97, 115, 115]⟩ W h)
 rw [hw1] at HW1
 generalize sgAt R.sg (some s) 0 = x at HX h5
 obtain ⟨kd, xt, xp, xz⟩ := x
 dsimp only at HX h5
 have h5' : (kd == 5) = false := by rw [beq_eq_false_iff_ne]; exact h5
 clear hI hlt
 go_enter func137, ntmps137
 go_wp2_with fail
 refine rst (HX.out) HI0 HK0 ?_
 intro w1 HI1 HK1
 go_wp2_with fail
 refine rst (HW0.out _ HI1.out) HI1 HK1 ?_
 intro w2 HI2 HK2
 go_wp2_with fail
 refine rst (HW1.out _ HI2.out) HI2 HK2 ?_
 intro w3 HI3 HK3
 go_wp2_with fail
 refine pst (HP.out _ _ HI3.out) HK3 ?_
 intro w4 row4 HI4 HK4
 go_wp2
 go_ret
 exact ⟨rfl, row4, HI4.out, HK4.out⟩
theorem member_top (R : RC) (hi : R.imp = true) (N F : Nat) (hF : 14 * (R.n + 2) ≤ F) (hd : F ≤ 100000) (hN : R.n < N) (HE : EC R N F) (b : Bool) (st : RdSt) (row : Option Nat) (w : World) (hI : RdI R 0 st row w) :
  Calls prog 137 #[.pointer (some ⟨R.T, 0, none⟩), .bool b, .bool true] w (Does R 0 row w (.int .i64 (topS R.sg (exprF R.sg N F) N b st).1) (topS R.sg (exprF R.sg N F) N b st).2) := by
 by_cases h5 : (sgAt R.sg st 0).1 = 5
 ·rw [show topS R.sg (exprF R.sg N F) N b st = noteS R.sg b st from if_pos h5]
  exact member_note R hi N F hF hd hN HE b true st row w hI h5
 ·rcases bft (isW R.sg st ⟨#[118, 97, 114]⟩) with h0 | h0
  ·rw [show topS R.sg (exprF R.sg N F) N b st = varS R.sg (exprF R.sg N F) 0 b (skipS st) by unfold topS; rw [if_neg h5, if_pos h0]]
   exact member_var R hi N F hF hd hN HE b true st row w hI h5 h0
  ·rcases bft (isW R.sg st ⟨#[99, 108, 97, 115, 115]⟩) with h1 | h1
   ·rw [show topS R.sg (exprF R.sg N F) N b st = classS R.sg (exprF R.sg N F) N b (skipS st) by unfold topS; rw [if_neg h5, if_neg (by rw [h0]; decide), if_pos h1]]
    exact member_class R hi N F hF hd hN HE b st row w hI h5 h0 h1
   ·rw [show topS R.sg (exprF R.sg N F) N b st = methS R.sg (exprF R.sg N F) N b st by unfold topS; rw [if_neg h5, if_neg (by rw [h0]; decide), if_neg (by rw [h1]; decide)]]
    exact member_meth_t R hi N F hF hd hN HE b true st row w hI h5 h0 h1 rfl
theorem infoTwo : (prog.info? 135).map (fun i => (i.zero, i.size, i.bytes)) = some (some (.agg #[.int .i64 0, .int .i64 0]), 2, 16) := by kernel_rfl
theorem two_one (a b : Int) : ∀ u ∈ [Value.int .i64 a, .int .i64 b], u.oneCell' = true := by
 intro u hu
 simp at hu
 rcases hu with rfl | rfl <;> rfl
theorem RC.ty_two (R : RC) : R.ty ≠ 135 := by unfold RC.ty; cases R.imp <;> decide
abbrev RC.mem (R : RC) (v : Value) : RC := { R with M := v }
section
variable {R : RC} {a d : Nat} {b : Bool} {AN : Option Addr} {cN : Nat} {l : List Nd} {st : RdSt} {row : Option Nat} {w w1 w3 : World}
theorem RdI.members (hi : R.imp = true) (h : RdI R d st row w) {B : Nat} {e : TypeId} {sz n c n' : Nat} {A : Option Addr} {xs ys : List Value} {v' : Value} (he1 : e ≠ R.ty) (he2 : e ≠ 36) (he3 : e ≠ 3) (hm : Mine w B e sz A n c xs) (hB : R.w0.heap.size ≤ B) (hw1 : Below w.heap.size w w1)
  (hown : w3.ownsRow B e sz v' n' ys) (hg : w1.grownBy w3 (Value.slice A n c).ownBlock) :
  ∃ A' c', v' = .slice A' n' c' ∧ RdI (R.mem v') d st row (w3.setCell ⟨R.T, 6, none⟩ v') ∧ Mine (w3.setCell ⟨R.T, 6, none⟩ v') B e sz A' n' c' ys ∧ (∃ v6, w3.cell? ⟨R.T, 6, none⟩ = some v6) ∧ (∀ i, w3.frozen? ⟨R.T, i, none⟩ = false) ∧ R.T < w3.heap.size ∧ ∃ cs, Blk w3 R.T R.ty cs := by
 obtain ⟨A', c', rfl, m3⟩ := Mine.of hown
 rw [ownBlk] at hg
 obtain ⟨a, b, AN, cN, l, hc, h2⟩ := h
 have hm1 := hm.next hw1
 obtain ⟨c1, c2, c3, c4, c5, c6, c7⟩ := hc.next hw1
 have hne : ∀ g t cs, Blk w1 g t cs → t ≠ e → some g ≠ A.map (·.block) := fun g t cs hk ht e => by
  obtain ⟨cs', hk'⟩ := mine_blk' hm1 e.symm
  exact blk_ne hk hk' ht rfl
 have hb3 := c1.grown hg (hne _ _ _ c1 (Ne.symm he1))
 have hcells : ∀ v, (R.cells a d b (.slice AN l.length cN)).setIfInBounds 6 v = (R.mem v).cells a d b (.slice AN l.length cN) := fun v => by
  unfold RC.cells; rw [if_pos hi, if_pos (show (R.mem v).imp = true from hi)]; simp
 have hk3 : ∀ x ∈ l, KidsIn w3 R.w0.heap.size R.U x := fun x hx => by
  refine ⟨(c3.1 x hx).1, ?_⟩
  have hy := (c3.1 x hx)
  have hl2 := hy.2.len
  rcases hy.2.own with ⟨e1, e2, e3⟩ | ⟨g', e1, hB', hn, hcc, rest, hb', hs⟩
  ·rw [e1, e2, e3]; exact ⟨by rw [hl2, e2], .inl ⟨rfl, rfl⟩⟩
  ·rw [e1]; exact Mine.mk_own ⟨rest, hb'.grown hg (hne _ _ _ hb' (Ne.symm he3)), hs⟩ hl2 hB' hn hcc
 have hn3 : Mine w3 R.w0.heap.size 36 4 AN l.length cN (l.flatMap nodeCells) := by
  have hl2 := c2.len
  rcases c2.own with ⟨e1, e2, e3⟩ | ⟨g', e1, hB', hn, hcc, rest, hb', hs⟩
  ·rw [e1, e2, e3]; exact ⟨by rw [hl2, e2], .inl ⟨rfl, rfl⟩⟩
  ·rw [e1]; exact Mine.mk_own ⟨rest, hb'.grown hg (hne _ _ _ hb' (Ne.symm he2)), hs⟩ hl2 hB' hn hcc
 have hold : Below R.w0.heap.size R.w0 w3 := c6.grown hg c6.size (fun g hgg => Nat.le_trans hB (Mine.blk hm hgg).1)
 refine ⟨A', c', rfl, ⟨a, b, AN, cN, l, ⟨?_, mine_set hn3 hb3 (Ne.symm R.ty_node) _ _, ⟨fun x hx => ⟨(hk3 x hx).1, mine_set (hk3 x hx).2 hb3 (Ne.symm R.ty_int) _ _⟩, fun g hgu => ?_⟩, c4, c5, hold.setCell c7.low _, ⟨c7.len, c7.most, c7.rd, c7.low⟩⟩, h2⟩, mine_set m3 hb3 he1 _ _, ?_, hb3.frozen, hb3.lt, _, hb3⟩
 ·have := hb3.set_ 6 (.slice A' n' c')
  rw [hcells] at this
  exact this
 ·have := c3.2 g hgu; have := hg.size; simp only [World.setCell, Array.size_modify]; omega
 ·have := hb3
  unfold RC.cells at this
  rw [if_pos hi] at this
  exact ⟨_, this.cell 6⟩
theorem RdC.c6 (hi : R.imp = true) (h : RdC R a d b AN cN l w) : w.cell? ⟨R.T, 6, none⟩ = some R.M := by
 have hb := h.1
 unfold RC.cells at hb
 rw [if_pos hi] at hb
 exact hb.cell 6
end
theorem meas_m {R : RC} {V V' : Value} {U U' : Nat → Prop} {d d' : Nat} {s : PS} {row row' : Option Nat} {w w' : World} (hi : R.imp = true) (h : RdI { R with M := V, U := U } d (some s) row w) {st' : RdSt} (h' : RdI { R with M := V', U := U' } d' st' row' w') {i j : Nat} (k : Adv (i + 1) j (some s) st') : measI R w' < measI R w := by
 have e1 := meas_some (R := { R with M := V, U := U }) hi h
 have e3 : ∀ W, measI { R with M := V', U := U' } W = measI R W := fun _ => rfl
 have e0 : ∀ W, measI { R with M := V, U := U } W = measI R W := fun _ => rfl
 have hn : ({ R with M := V, U := U } : RC).n = R.n := rfl
 rw [e0] at e1
 cases st' with
 | none => have := meas_none (R := { R with M := V', U := U' }) hi h'; rw [e3] at this; omega
 | some t =>
  have e4 := meas_some (R := { R with M := V', U := U' }) hi h'
  obtain ⟨s', e5, h1, _⟩ := k t rfl
  obtain rfl := Option.some.inj e5
  have e6 : ({ R with M := V', U := U' } : RC).n = R.n := rfl
  rw [e3] at e4
  omega
theorem mine_keep {w w1 w3 : World} {B B' : Nat} {e e' : TypeId} {sz sz' n c n' c' : Nat} {A A' : Option Addr} {xs xs' : List Value} (hm : Mine w B e sz A n c xs) (hk : Mine w B' e' sz' A' n' c' xs') (he : e ≠ e') (hw1 : Below w.heap.size w w1) (hg : w1.grownBy w3 (Value.slice A' n' c').ownBlock) : Mine w3 B e sz A n c xs := by
 rw [ownBlk] at hg
 have hk1 := hk.next hw1
 have hm1 := hm.next hw1
 have hl := hm1.len
 rcases hm1.own with ⟨rfl, rfl, rfl⟩ | ⟨g, rfl, hB, hn, hc, rest, hb, hs⟩
 ·exact ⟨hl, .inl ⟨rfl, rfl⟩⟩
 ·refine Mine.mk_own ⟨rest, hb.grown hg (fun e2 => ?_), hs⟩ hl hB hn hc
  obtain ⟨cs', hk'⟩ := mine_blk' hk1 e2.symm
  exact blk_ne hb hk' he rfl
theorem Kr.setT {T : Nat} {row row' : Option Nat} {w w' : World} (h : Kr T row w row' w') (i : Nat) (u : Value) : Kr T row w row' (w'.setCell ⟨T, i, none⟩ u) :=
 ⟨Nat.le_trans h.1 (by simp [World.setCell]), h.2.1, fun g hg ht hr => (Below.heap_setCell w' ⟨T, i, none⟩ u g ht).trans (h.2.2 g hg ht hr)⟩
theorem restB_lt {sg : List SgP} {st : RdSt} (h : restB sg st = true) : ∃ s, st = some s ∧ s.at_ < sg.length := by
 cases st with
 | none => cases h
 | some s => exact ⟨s, rfl, of_decide_eq_true h⟩
theorem file_step (R : RC) (hi : R.imp = true) (N F : Nat) (hF : 14 * (R.n + 2) ≤ F) (hd : F ≤ 100000) (hN : R.n < N) (HE : EC R N F) (st : RdSt) (row : Option Nat) (w : World) (hI : RdI R 0 st row w) (hM0 : R.M = .slice none 0 0) :
  Calls prog 115 #[.pointer (some ⟨R.T, 0, none⟩)] w fun e w' => e = .returned (.tuple #[]) ∧ ∃ (v : Value) (row' : Option Nat), RdI (R.mem v) 0 (fileS R.sg (exprF R.sg N F) N st) row' w' ∧ Kr R.T row w row' w' := by
 obtain ⟨i0, hi0, hz0, hz1, hz2⟩ := info_parts infoInt
 have HII := hid (And.intro hi0 (And.intro hz0 (And.intro hz1 hz2)))
 clear hi0 hz0 hz1 hz2
 obtain ⟨i2, hi0, hz0, hz1, hz2⟩ := info_parts infoTwo
 have HI2i := hid (And.intro hi0 (And.intro hz0 (And.intro hz1 hz2)))
 clear hi0 hz0 hz1 hz2
 have HI0 : Hid (RdI (R.mem (.slice none 0 0)) 0 st row w) := (show RdI (R.mem (.slice none 0 0)) 0 st row w from by rw [RC.mem, ← hM0]; exact hI)
 have HLo := hid hI.lo
 have HB0 := hid hI.lo.1
 have hmost := hI.ok.most
 have hlen := hI.ok.len
 have HO : Hid (∀ (V : Value) (U : Nat → Prop) (b : Bool) (t : PS) (row : Option Nat) (w : World), RdI { R with M := V, U := U } 0 (some t) row w → Calls prog 137 #[.pointer (some ⟨R.T, 0, none⟩), .bool b, .bool true] w (Does { R with M := V, U := U } 0 row w (.int .i64 (topS R.sg (exprF R.sg N F) N b (some t)).1) (topS R.sg (exprF R.sg N F) N b (some t)).2)) :=
  (show ∀ V U b t row w, _ → _ from fun V U b t row w h => member_top { R with M := V, U := U } hi N F hF hd hN ⟨fun U' d st row w hI => (ec_all { R with M := V, U := U } hi N hN F).value U' d st row w hI, fun U' d st row w hI => (ec_all { R with M := V, U := U } hi N hN F).pick U' d st row w hI, fun U' l d st row w hI => (ec_all { R with M := V, U := U } hi N hN F).chain U' l d st row w hI, fun U' d st row w hI => (ec_all { R with M := V, U := U } hi N hN F).end_ U' d st row w hI, fun U' d st row w hI => (ec_all { R with M := V, U := U } hi N hN F).base U' d st row w hI, fun U' b d st row w hI => (ec_all { R with M := V, U := U } hi N hN F).stmt U' b d st row w hI, fun U' d st row w hI => (ec_all { R with M := V, U := U } hi N hN F).block U' d st row w hI⟩ b (some t) row w h)
 have HA2 : Hid (∀ b st, Adv 1 1 st (topS R.sg (exprF R.sg N F) N b st).2) := (show ∀ b st, _ from fun b st => adv_top (fun m d st => adv_expr F m d st) b st)
 unfold fileS
 obtain ⟨Q, hQ⟩ : ∃ Q, fileF R.sg (exprF R.sg N F) N N [] st = Q := ⟨_, rfl⟩
 rw [hQ]
 have HQ := hid hQ
 generalize exprF R.sg N F = E at HO HA2 HQ
 have hF3 := fld3
 clear hI hQ HE
 go_enter func115, ntmps115
 go_wp2
 go_loopw [2] (fun v wr => ∃ (M : Nat) (ks : List Int) (st' : RdSt) (row' : Option Nat) (A : Option Addr) (c : Nat) (AM : Option Addr) (cM : Nat) (xm : List Value), v = .slice A ks.length c ∧ Hid (fileF R.sg E N M ks st' = Q) ∧ Hid (Enough R.n M st') ∧ Hid (KidB ks st') ∧ Hid (Mine wr w.heap.size 3 1 A ks.length c (intCells ks)) ∧ Hid (Mine wr w.heap.size 135 2 AM ks.length cM xm) ∧ Hid (RdI ((R.mem (.slice AM ks.length cM)).res A) 0 st' row' wr) ∧ Hid (Kr R.T row w row' wr)) (fun _ wr => measI R wr)
 case atStart => exact ⟨N, [], st, row, none, 0, none, 0, [], rfl, HQ, (show Enough _ _ _ from enough_of hN _), ⟨by simp, fun s _ => by simp⟩, Mine.mk_nil _ _ _ _, Mine.mk_nil _ _ _ _, HI0.out.res_new (Below.refl _ _) (fun g hg => by cases hg), Kr.refl _ _ _⟩
 case round =>
  clear HQ HI0
  obtain ⟨M, ks, st', row', A, c, AM, cM, xm, rfl, HQ, HEn, HKB, HM, HMm, HI, HK⟩ := hrel
  obtain ⟨a, b, AN, cN, l, hc, hb, hrow⟩ := HI.out
  obtain ⟨c0, c2, c3, c4, c5, cf, cz⟩ := RdC.ci (R := (R.mem (.slice AM ks.length cM)).res A) hi hc
  change wr.cell? ⟨R.T, 0, none⟩ = some (.slice R.A R.n R.c) at c0
  change wr.cell? ⟨R.T, 2, none⟩ = _ at c2
  change wr.cell? ⟨R.T, 4, none⟩ = _ at c4
  change R.T < _ at cz
  clear c3 c5 cf hc hrow
  rcases bft (restB R.sg st') with hR | hR
  ·obtain ⟨t, es, hlt⟩ := restB_lt hR
   subst es
   have hta : t.at_ = a := hb.2.1
   obtain rfl : b = false := hb.1
   obtain ⟨M, rfl⟩ : ∃ M', M = M' + 1 := ⟨M - 1, by
    have h1 := HEn.out t rfl
    omega⟩
   have hq := HQ.out
   unfold fileF at hq
   rw [if_pos hR] at hq
   have hlt' : (a : Int) < (R.n : Int) := by omega
   have HX := hid (fun (row : Option Nat) (W : World) h => next_u (R := R.mem (.slice AM ks.length cM)) (fun x => R.U x ∨ A.map (·.block) = some x) hi 0 (some t) row W h)
   have hbl : blankB R.sg (some t) ks = ((sgAt R.sg (some t) 0).2.2.2 && decide (0 < ks.length)) := rfl
   rw [hbl] at hq
   change Hid (∀ (row : Option Nat) (W : World), _ → Calls prog 138 #[.pointer (some ⟨R.T, 0, none⟩)] W fun e w' => e = .returned (.agg #[.int .i64 (sgAt R.sg (some t) 0).1, .string (sgAt R.sg (some t) 0).2.1, .int .i64 (sgAt R.sg (some t) 0).2.2.1, .bool (sgAt R.sg (some t) 0).2.2.2]) ∧ Below W.heap.size W w') at HX
   generalize sgAt R.sg (some t) 0 = x at HX hq hbl
   obtain ⟨xk, xt, xp, xz⟩ := x
   dsimp only at HX hq hbl
   have hkb1 := HKB.out.2 t rfl
   have hnb := (HI.out.le rfl).2
   have hkb := HKB.out.1
   have HR3 : Hid (∀ bb : Bool, (xz && decide (0 < ks.length)) = bb → ∃ r : PR, fileF R.sg E N M (ks ++ [r.1]) r.2 = Q ∧ Adv 1 1 (some t) r.2 ∧ ∀ (row : Option Nat) (W : World), RdI { R with M := .slice AM ks.length cM, U := fun x => R.U x ∨ A.map (·.block) = some x } 0 (some t) row W → Calls prog 137 #[.pointer (some ⟨R.T, 0, none⟩), .bool bb, .bool true] W (fun e w' => e = .returned (.int .i64 r.1) ∧ ∃ row', RdI { R with M := .slice AM ks.length cM, U := fun x => R.U x ∨ A.map (·.block) = some x } 0 r.2 row' w' ∧ Kr R.T row W row' w')) := (show ∀ bb, _ → _ from fun bb e => ⟨topS R.sg E N bb (some t), by rw [← e]; exact hq, HA2.out bb (some t), fun row W h => HO.out _ _ bb t row W h⟩)
   clear hq hbl HQ hR hlt
   cases xz with
   | false =>
     obtain ⟨r, hq, hadv3, hC⟩ := HR3.out false rfl
     obtain ⟨kc, st3⟩ := r
     dsimp only at hq hadv3 hC
     have HQ3 := hid hq
     have HC := hid hC
     have HAD3 := hid hadv3
     have HAK : Hid (KidB (ks ++ [kc]) st3) := (show KidB _ _ from ⟨by rw [lA]; simp; omega, fun t2 e => by
      obtain ⟨s'', e2, _, h3⟩ := hadv3 t2 e
      obtain rfl := Option.some.inj e2
      rw [lA]
      simp
      omega⟩)
     have HAN : Hid (Enough R.n M st3) := HEn.out.adv (i := 0) hadv3
     have hlk : (ks ++ [kc]).length = ks.length + 1 := by simp
     clear hq hC hadv3 HR3
     go_wp2
     go_quiet (fail)
     have HI2 := hid (HI.out.next (below_drewN (Below.refl _ _) nq))
     have HM2 := hid (HM.out.drewN nq)
     have HMm2 := hid (HMm.out.drewN nq)
     have HK2 := hid (HK.out.below (below_drewN (Below.refl _ _) nq))
     go_wp2_with fail
     refine (HX.out _ _ HI2.out).mono ?_
     rintro e w3 ⟨rfl, g3⟩
     have HI3 := hid (HI2.out.next g3)
     have HM3 := hid (HM2.out.next g3)
     have HMm3 := hid (HMm2.out.next g3)
     have HK3 := hid (HK2.out.below g3)
     clear g3 HX HI2 HM2 HK2 HMm2 c0 c2 c4 cz
     go_wp2_with fail
     refine (HC.out _ _ HI3.out).mono ?_
     rintro e w4 ⟨rfl, row4, h4, k4⟩
     have HM := hid (HI3.out.keepI k4 HM3.out)
     have HMm := hid (HI3.out.keepM k4 HMm3.out (Ne.symm (RC.ty_two R)) (by decide))
     have HI4 : Hid (RdI ((R.mem (.slice AM ks.length cM)).res A) 0 st3 row4 w4) := h4
     have HK4 := hid (HK3.out.trans k4)
     clear h4 k4 HI3 HM3 HK3 HMm3
     have hz4 := HK4.out.size
     go_wp2_with (at_builtin; (refine wpList_append_row _ rfl (.tmp 36) (.tmp 38) _ rfl w.heap.size 3 i0 (.int .i64 0) 1 8 underlying34 HII.out.1 HII.out.2.1 HII.out.2.2.1 HII.out.2.2.2 rfl (by decide) (.slice A ks.length c) ks.length (intCells ks) rfl (Mine.alloc HM.out _) ⟨w4.heap.size, 0, none⟩ 1 1 [.int .i64 kc] rfl rfl (int_new _ kc _) (int_one _) (by unfold maxLen; omega) (by omega) (by simp; omega) ?_); intro v' w5 hown5 hg5 hwh5; obtain ⟨A5, c5', rfl, h5, m5⟩ := RdI.appended HI4.out HM.out HB0.out ((Below.refl _ _).alloc (Nat.le_refl _) _) hown5 hg5 hwh5)
     have HK5 := hid ((HK4.out.below ((Below.refl _ _).alloc (Nat.le_refl _) _)).grown hg5 (fun g hg => by rw [ownBlk] at hg; exact (Mine.blk HM.out hg).1))
     have HMm5 := hid (mine_keep HMm.out HM.out (by decide) ((Below.refl _ _).alloc (Nat.le_refl _) _) hg5)
     rw [← ints_snoc] at m5
     have HI5 : Hid (RdI ((R.mem (.slice AM ks.length cM)).res A5) 0 st3 row4 w5) := h5
     replace HM := hid m5
     clear hown5 hg5 hwh5 h5 m5 HMm HI4 HK4
     obtain ⟨a5, b5, AN5, cN5, l5, hc5, hst5, hrow5⟩ := id HI5.out
     obtain ⟨d0, d2, d3, d4, d5, df, dz⟩ := RdC.ci (R := (R.mem (.slice AM ks.length cM)).res A5) hi hc5
     have d6 : w5.cell? ⟨R.T, 6, none⟩ = some (.slice AM ks.length cM) := RdC.c6 (R := (R.mem (.slice AM ks.length cM)).res A5) hi hc5
     change w5.cell? ⟨R.T, 2, none⟩ = _ at d2
     change ∀ i, w5.frozen? ⟨R.T, i, none⟩ = false at df
     change R.T < _ at dz
     have e2 : ∀ o, (w5.alloc o).cell? ⟨R.T, 2, none⟩ = some (.int .i64 a5) := fun o => by rw [(bcell ((Below.refl _ _).alloc (Nat.le_refl _) o)).1 _ _ dz]; exact d2
     have e6 : ∀ o, (w5.alloc o).cell? ⟨R.T, 6, none⟩ = some (.slice AM ks.length cM) := fun o => by rw [(bcell ((Below.refl _ _).alloc (Nat.le_refl _) o)).1 _ _ dz]; exact d6
     have hnb : (w5.alloc (.cells #[.int .i64 a, .int .i64 a5] 135)).heap[w5.heap.size]? = some (.cells #[.int .i64 a, .int .i64 a5] 135 (0, 0)) := heap_alloc_new w5 _
     have HBZ := hid (show w.heap.size ≤ w5.heap.size from HK5.out.size)
     have HP := hid (fun (n' : Nat) (ys : List Value) (v' : Value) (w3 : World) h1 h2 => RdI.members (R := (R.mem (.slice AM ks.length cM)).res A5) hi HI5.out (RC.ty_two R).symm (by decide) (by decide) HMm5.out HB0.out (w1 := w5.alloc (.cells #[.int .i64 a, .int .i64 a5] 135)) (w3 := w3) (n' := n') (ys := ys) (v' := v') ((Below.refl _ _).alloc (Nat.le_refl _) _) h1 h2)
     clear hc5 d0 d3 d4 d5 hst5 hrow5
     go_upto_region 5 with fail
     go_region_law
      (refine step_append_lies _ rfl (.tmp 44) (.tmp 51) 103 rfl w.heap.size 135 i2 (.agg #[.int .i64 0, .int .i64 0]) 2 16 underlying103 HI2i.out.1 HI2i.out.2.1 HI2i.out.2.2.1 HI2i.out.2.2.2 rfl (by decide) (.slice AM ks.length cM) ks.length xm (by first | (simp [Act.eval]; done) | (simp [Act.eval, Act.put]; done) | rfl) (by first | exact (HMm5.out.alloc _).drew | exact HMm5.out.alloc _) ⟨w5.heap.size, 0, none⟩ 1 1 [.int .i64 a, .int .i64 a5] (by first | (simp [Act.eval]; done) | (simp [Act.eval, Act.put]; done) | rfl) (by rfl) (World.news_of_block (cs := #[.int .i64 a, .int .i64 a5]) (t := 135) (fr := (0, 0)) hnb) (two_one _ _) (by decide) (by unfold maxLen; omega) (by omega) (by have := HBZ.out; simp; omega) (w5.heap.size + 1) (by simp) ?_
       intro q cap w6 hown6 hgrow hat hlt6
       have hgrow2 : (w5.alloc (.cells #[.int .i64 a, .int .i64 a5] 135)).grownBy w6 (Value.slice AM ks.length cM).ownBlock := (by first | exact hgrow | exact grown_undrewP hgrow)
       obtain ⟨A6, c6', ev, hI6, hM6, ⟨v6, j6⟩, jf, jz, cs6, jb⟩ := HP.out _ _ _ _ hown6 hgrow2
       have HW := hid (And.intro ev (And.intro hI6 (And.intro hM6 ((HK5.out.below ((Below.refl _ _).alloc (Nat.le_refl _) _)).grown hgrow2 (fun g hg => by rw [ownBlk] at hg; exact (Mine.blk HMm5.out hg).1)))))
       have HMk := hid (fun u => mine_set (mine_keep HM.out HMm5.out (by decide) ((Below.refl _ _).alloc (Nat.le_refl _) _) hgrow2) jb (Ne.symm R.ty_int) 6 u)
       change w6.cell? ⟨R.T, 6, none⟩ = _ at j6
       change ∀ i, w6.frozen? ⟨R.T, i, none⟩ = false at jf
       change R.T < _ at jz
       clear hown6 hgrow hat hgrow2 ev hI6 hM6 jb)
     all_goals
      obtain ⟨ev, hI6, hM6, hK6⟩ := HW.out
      injection ev with ev1 ev2 ev3
      subst ev1; subst ev3
      have HI6 := hid hI6
      have HM6 := hid hM6
      have HK6 := hid (hK6.setT 6 (.slice (some ⟨q, 0, none⟩) (ks.length + 1) cap))
      clear hI6 hM6 hK6 HW ev2 HM HMm5 HI5 HK5 HP
      go_wp2
      go_roundw
      case rel => exact ⟨M, ks ++ [kc], st3, row4, A5, c5', some ⟨q, 0, none⟩, cap, _, by rw [hlk], HQ3, HAN, HAK, by rw [hlk]; exact HMk.out _, by rw [hlk]; exact HM6, by rw [hlk]; exact HI6, HK6⟩
      case measure => exact meas_m hi HI.out HI6.out (HAD3.out.weak (i' := 1) (j' := 0) (by omega) (by omega))
   | true =>
     obtain ⟨r, hq, hadv3, hC⟩ := HR3.out _ rfl
     obtain ⟨kc, st3⟩ := r
     dsimp only at hq hadv3 hC
     rw [Bool.true_and] at hC
     have HQ3 := hid hq
     have HC := hid hC
     have HAD3 := hid hadv3
     have HAK : Hid (KidB (ks ++ [kc]) st3) := (show KidB _ _ from ⟨by rw [lA]; simp; omega, fun t2 e => by
      obtain ⟨s'', e2, _, h3⟩ := hadv3 t2 e
      obtain rfl := Option.some.inj e2
      rw [lA]
      simp
      omega⟩)
     have HAN : Hid (Enough R.n M st3) := HEn.out.adv (i := 0) hadv3
     have hlk : (ks ++ [kc]).length = ks.length + 1 := by simp
     clear hq hC hadv3 HR3
     go_wp2
     go_quiet (fail)
     have HI2 := hid (HI.out.next (below_drewN (Below.refl _ _) nq))
     have HM2 := hid (HM.out.drewN nq)
     have HMm2 := hid (HMm.out.drewN nq)
     have HK2 := hid (HK.out.below (below_drewN (Below.refl _ _) nq))
     go_wp2_with fail
     refine (HX.out _ _ HI2.out).mono ?_
     rintro e w3 ⟨rfl, g3⟩
     have HI3 := hid (HI2.out.next g3)
     have HM3 := hid (HM2.out.next g3)
     have HMm3 := hid (HMm2.out.next g3)
     have HK3 := hid (HK2.out.below g3)
     clear g3 HX HI2 HM2 HK2 HMm2 c0 c2 c4 cz
     go_wp2_with fail
     refine (HC.out _ _ HI3.out).mono ?_
     rintro e w4 ⟨rfl, row4, h4, k4⟩
     have HM := hid (HI3.out.keepI k4 HM3.out)
     have HMm := hid (HI3.out.keepM k4 HMm3.out (Ne.symm (RC.ty_two R)) (by decide))
     have HI4 : Hid (RdI ((R.mem (.slice AM ks.length cM)).res A) 0 st3 row4 w4) := h4
     have HK4 := hid (HK3.out.trans k4)
     clear h4 k4 HI3 HM3 HK3 HMm3
     have hz4 := HK4.out.size
     go_wp2_with (at_builtin; (refine wpList_append_row _ rfl (.tmp 36) (.tmp 38) _ rfl w.heap.size 3 i0 (.int .i64 0) 1 8 underlying34 HII.out.1 HII.out.2.1 HII.out.2.2.1 HII.out.2.2.2 rfl (by decide) (.slice A ks.length c) ks.length (intCells ks) rfl (Mine.alloc HM.out _) ⟨w4.heap.size, 0, none⟩ 1 1 [.int .i64 kc] rfl rfl (int_new _ kc _) (int_one _) (by unfold maxLen; omega) (by omega) (by simp; omega) ?_); intro v' w5 hown5 hg5 hwh5; obtain ⟨A5, c5', rfl, h5, m5⟩ := RdI.appended HI4.out HM.out HB0.out ((Below.refl _ _).alloc (Nat.le_refl _) _) hown5 hg5 hwh5)
     have HK5 := hid ((HK4.out.below ((Below.refl _ _).alloc (Nat.le_refl _) _)).grown hg5 (fun g hg => by rw [ownBlk] at hg; exact (Mine.blk HM.out hg).1))
     have HMm5 := hid (mine_keep HMm.out HM.out (by decide) ((Below.refl _ _).alloc (Nat.le_refl _) _) hg5)
     rw [← ints_snoc] at m5
     have HI5 : Hid (RdI ((R.mem (.slice AM ks.length cM)).res A5) 0 st3 row4 w5) := h5
     replace HM := hid m5
     clear hown5 hg5 hwh5 h5 m5 HMm HI4 HK4
     obtain ⟨a5, b5, AN5, cN5, l5, hc5, hst5, hrow5⟩ := id HI5.out
     obtain ⟨d0, d2, d3, d4, d5, df, dz⟩ := RdC.ci (R := (R.mem (.slice AM ks.length cM)).res A5) hi hc5
     have d6 : w5.cell? ⟨R.T, 6, none⟩ = some (.slice AM ks.length cM) := RdC.c6 (R := (R.mem (.slice AM ks.length cM)).res A5) hi hc5
     change w5.cell? ⟨R.T, 2, none⟩ = _ at d2
     change ∀ i, w5.frozen? ⟨R.T, i, none⟩ = false at df
     change R.T < _ at dz
     have e2 : ∀ o, (w5.alloc o).cell? ⟨R.T, 2, none⟩ = some (.int .i64 a5) := fun o => by rw [(bcell ((Below.refl _ _).alloc (Nat.le_refl _) o)).1 _ _ dz]; exact d2
     have e6 : ∀ o, (w5.alloc o).cell? ⟨R.T, 6, none⟩ = some (.slice AM ks.length cM) := fun o => by rw [(bcell ((Below.refl _ _).alloc (Nat.le_refl _) o)).1 _ _ dz]; exact d6
     have hnb : (w5.alloc (.cells #[.int .i64 a, .int .i64 a5] 135)).heap[w5.heap.size]? = some (.cells #[.int .i64 a, .int .i64 a5] 135 (0, 0)) := heap_alloc_new w5 _
     have HBZ := hid (show w.heap.size ≤ w5.heap.size from HK5.out.size)
     have HP := hid (fun (n' : Nat) (ys : List Value) (v' : Value) (w3 : World) h1 h2 => RdI.members (R := (R.mem (.slice AM ks.length cM)).res A5) hi HI5.out (RC.ty_two R).symm (by decide) (by decide) HMm5.out HB0.out (w1 := w5.alloc (.cells #[.int .i64 a, .int .i64 a5] 135)) (w3 := w3) (n' := n') (ys := ys) (v' := v') ((Below.refl _ _).alloc (Nat.le_refl _) _) h1 h2)
     clear hc5 d0 d3 d4 d5 hst5 hrow5
     go_upto_region 5 with fail
     go_region_law
      (refine step_append_lies _ rfl (.tmp 44) (.tmp 51) 103 rfl w.heap.size 135 i2 (.agg #[.int .i64 0, .int .i64 0]) 2 16 underlying103 HI2i.out.1 HI2i.out.2.1 HI2i.out.2.2.1 HI2i.out.2.2.2 rfl (by decide) (.slice AM ks.length cM) ks.length xm (by first | (simp [Act.eval]; done) | (simp [Act.eval, Act.put]; done) | rfl) (by first | exact (HMm5.out.alloc _).drew | exact HMm5.out.alloc _) ⟨w5.heap.size, 0, none⟩ 1 1 [.int .i64 a, .int .i64 a5] (by first | (simp [Act.eval]; done) | (simp [Act.eval, Act.put]; done) | rfl) (by rfl) (World.news_of_block (cs := #[.int .i64 a, .int .i64 a5]) (t := 135) (fr := (0, 0)) hnb) (two_one _ _) (by decide) (by unfold maxLen; omega) (by omega) (by have := HBZ.out; simp; omega) (w5.heap.size + 1) (by simp) ?_
       intro q cap w6 hown6 hgrow hat hlt6
       have hgrow2 : (w5.alloc (.cells #[.int .i64 a, .int .i64 a5] 135)).grownBy w6 (Value.slice AM ks.length cM).ownBlock := (by first | exact hgrow | exact grown_undrewP hgrow)
       obtain ⟨A6, c6', ev, hI6, hM6, ⟨v6, j6⟩, jf, jz, cs6, jb⟩ := HP.out _ _ _ _ hown6 hgrow2
       have HW := hid (And.intro ev (And.intro hI6 (And.intro hM6 ((HK5.out.below ((Below.refl _ _).alloc (Nat.le_refl _) _)).grown hgrow2 (fun g hg => by rw [ownBlk] at hg; exact (Mine.blk HMm5.out hg).1)))))
       have HMk := hid (fun u => mine_set (mine_keep HM.out HMm5.out (by decide) ((Below.refl _ _).alloc (Nat.le_refl _) _) hgrow2) jb (Ne.symm R.ty_int) 6 u)
       change w6.cell? ⟨R.T, 6, none⟩ = _ at j6
       change ∀ i, w6.frozen? ⟨R.T, i, none⟩ = false at jf
       change R.T < _ at jz
       clear hown6 hgrow hat hgrow2 ev hI6 hM6 jb)
     all_goals
      obtain ⟨ev, hI6, hM6, hK6⟩ := HW.out
      injection ev with ev1 ev2 ev3
      subst ev1; subst ev3
      have HI6 := hid hI6
      have HM6 := hid hM6
      have HK6 := hid (hK6.setT 6 (.slice (some ⟨q, 0, none⟩) (ks.length + 1) cap))
      clear hI6 hM6 hK6 HW ev2 HM HMm5 HI5 HK5 HP
      go_wp2
      go_roundw
      case rel => exact ⟨M, ks ++ [kc], st3, row4, A5, c5', some ⟨q, 0, none⟩, cap, _, by rw [hlk], HQ3, HAN, HAK, by rw [hlk]; exact HMk.out _, by rw [hlk]; exact HM6, by rw [hlk]; exact HI6, HK6⟩
      case measure => exact meas_m hi HI.out HI6.out (HAD3.out.weak (i' := 1) (j' := 0) (by omega) (by omega))
  ·have hq : Q = (ks, st') := by
    have hq := HQ.out
    cases M with
    | zero => exact hq.symm
    | succ M => unfold fileF at hq; rw [hR, if_neg (by decide)] at hq; exact hq.symm
   subst hq
   have HFin := hid (fun (W : World) (hI : RdI (R.mem (.slice AM ks.length cM)) 0 st' row' W) (hm : Mine W w.heap.size 3 1 A ks.length c (intCells ks)) => addK (R.mem (.slice AM ks.length cM)) hi 0 st' row' 22 noT A ks.length c ks false w.heap.size W hI hm HLo.out)
   unfold Does at HFin
   cases st' with
   | none =>
    obtain rfl : b = true := hb
    clear HQ hR c0 c2
    go_wp2
    go_quiet (fail)
    go_wp2_with fail
    refine (HFin.out _ (HI.out.unres.next (below_drewN (Below.refl _ _) _)) (HM.out.drewN _)).mono ?_
    rintro e w4 ⟨rfl, row4, h4, k4⟩
    go_wp2
    go_end0
    exact ⟨rfl, _, row4, h4, (HK.out.below (below_drewN (Below.refl _ _) nq)).trans k4⟩
   | some t =>
    obtain ⟨rfl, hta, _⟩ := hb
    have hge : ¬ (a : Int) < (R.n : Int) := by
     have := of_decide_eq_false hR
     have h2 := (HI.out.le rfl).1
     omega
    clear HQ hR
    go_wp2
    go_quiet (fail)
    go_wp2_with fail
    refine (HFin.out _ (HI.out.unres.next (below_drewN (Below.refl _ _) _)) (HM.out.drewN _)).mono ?_
    rintro e w4 ⟨rfl, row4, h4, k4⟩
    go_wp2
    go_end0
    exact ⟨rfl, _, row4, h4, (HK.out.below (below_drewN (Below.refl _ _) nq)).trans k4⟩
def FineP (p : PN) : Prop := p.text.size ≤ 3000 ∧ p.kids.length ≤ 400
def Fine (st : RdSt) : Prop := ∀ s, st = some s → s.nodes.length ≤ 300 ∧ ∀ p ∈ s.nodes, FineP p
def SgFine (sg : List SgP) : Prop := ∀ d ∈ sg, d.2.1.size ≤ 3000
section
variable {sg : List SgP} {st st' : RdSt}
theorem fine_none : Fine none := fun s e => by cases e
theorem fine_skip (h : Fine st) : Fine (skipS st) := by
 cases st with
 | none => exact h
 | some s => intro t e; obtain rfl := Option.some.inj e; exact h s rfl
theorem fine_take (h : Fine st) (m : ByteArray) : Fine (takeS sg st m) := by
 unfold takeS
 split
 ·exact fine_skip h
 ·exact fine_none
theorem fine_nm (h : Fine st) : Fine (nmS sg st) := by
 unfold nmS
 split
 ·exact fine_skip h
 ·exact fine_none
theorem fine_nest (h : Fine st) (d : Nat) : Fine (nestS d st) := by
 unfold nestS
 split
 ·exact fine_none
 ·exact h
theorem fine_add (h : Fine st) {x : PN} (ht : x.text.size ≤ 3000) (hk : ∀ s, st = some s → s.nodes.length ≤ 300 → x.kids.length ≤ 400) : Fine (addS st x).2 := by
 intro t e
 cases st with
 | none => cases e
 | some s =>
  obtain ⟨h1, h2⟩ := h s rfl
  unfold addS at e
  simp only at e
  split at e
  ·cases e
  ·obtain rfl := Option.some.inj e
   refine ⟨by simp; omega, fun p hp => ?_⟩
   rcases List.mem_append.1 hp with hp | hp
   ·exact h2 p hp
   ·obtain rfl := List.mem_singleton.1 hp
    exact ⟨ht, hk s rfl h1⟩
theorem sg_text (hs : SgFine sg) (st : RdSt) (i : Nat) : (sgAt sg st i).2.1.size ≤ 3000 := by
 unfold sgAt
 cases st with
 | none => exact Nat.zero_le _
 | some s =>
  simp only
  cases h : sg[s.at_ + i]? with
  | none => exact Nat.zero_le _
  | some d => exact hs d (List.mem_of_getElem? h)
theorem nm_text (hs : SgFine sg) (st : RdSt) : (nmT sg st).size ≤ 3000 := by
 unfold nmT
 split
 ·exact sg_text hs st 0
 ·exact Nat.zero_le _
theorem fine_leaf (hs : SgFine sg) (h : Fine st) (k : Int) : Fine (leafS sg k st).2 := fine_skip (fine_add h (sg_text hs st 0) (fun s e _ => by simp))
theorem fine_nameNode (hs : SgFine sg) (h : Fine st) : Fine (nameNodeS sg st).2 := by
 unfold nameNodeS
 split
 ·exact fine_leaf hs h 1
 ·exact fine_none
theorem fine_note (hs : SgFine sg) (h : Fine st) (b : Bool) : Fine (noteS sg b st).2 := fine_skip (fine_add h (sg_text hs st 0) (fun s e _ => by simp))
theorem fine_list (hs : SgFine sg) {one : RdSt → PR} (h1 : ∀ st, Fine st → Fine (one st).2) (m : ByteArray) : ∀ (n : Nat) (ks : List Int) (st : RdSt), Fine st → Fine (listF sg one m n ks st).2 := by
 intro n
 induction n with
 | zero => intro ks st h; exact h
 | succ n ih =>
  intro ks st h
  unfold listF
  split
  ·exact h
  ·split
   ·exact h
   ·split
    ·exact ih _ _ (fine_skip (h1 st h))
    ·exact h1 st h
theorem list_few {one : RdSt → PR} (ha : ∀ st, Adv 1 1 st (one st).2) (m : ByteArray) (n : Nat) (st : RdSt) {st' : RdSt} {i j : Nat} (k : Adv i j (listF sg one m n [] st).2 st') : ∀ s, st' = some s → s.nodes.length ≤ 300 → (listF sg one m n [] st).1.length ≤ 300 := fun s e hl => by
 obtain ⟨s1, e1, _, h2⟩ := k s e
 obtain ⟨s0, _, _, h3⟩ := (adv_list ha m n [] st).2 s1 e1
 simp at h3
 omega
theorem fine_call (hs : SgFine sg) {one : RdSt → PR} (ha : ∀ st, Adv 1 1 st (one st).2) (h1 : ∀ st, Fine st → Fine (one st).2) (N : Nat) (k : Int) (st : RdSt) (h : Fine st) : Fine (callS sg one N k st).2 := by
 unfold callS
 refine fine_add (fine_take (fine_list hs h1 _ _ _ _ (fine_take h _)) _) (Nat.zero_le _) (fun s e hl => ?_)
 have := list_few ha ⟨#[41]⟩ N (takeS sg st ⟨#[40]⟩) (adv_take (sg := sg) _ ⟨#[41]⟩) s e hl
 simp; omega
theorem fine_casc (hs : SgFine sg) {one : RdSt → PR} (ha : ∀ st, Adv 1 1 st (one st).2) (h1 : ∀ st, Fine st → Fine (one st).2) (N : Nat) : ∀ (n : Nat) (ks : List Int) (st : RdSt), Fine st → Fine (cascF sg one N n ks st).2 := by
 intro n
 induction n with
 | zero => intro ks st h; exact h
 | succ n ih =>
  intro ks st h
  unfold cascF
  split
  ·exact ih _ _ (fine_call hs ha h1 N _ _ (fine_nameNode hs (fine_skip h)))
  ·exact h
theorem fine_run {one : RdSt → PR} (h1 : ∀ st, Fine st → Fine (one st).2) (m : ByteArray) : ∀ (n : Nat) (ks : List Int) (st : RdSt), Fine st → Fine (runF sg one m n ks st).2 := by
 intro n
 induction n with
 | zero => intro ks st h; exact h
 | succ n ih =>
  intro ks st h
  unfold runF
  split
  ·exact ih _ _ (h1 _ (fine_skip h))
  ·exact h
theorem markF_text (st : RdSt) : ∀ l : List ByteArray, (∀ m ∈ l, m.size ≤ 3000) → (markF_ sg st l).size ≤ 3000 := by
 intro l
 induction l with
 | nil => intro _; exact Nat.zero_le _
 | cons a l ih =>
  intro h
  unfold markF_
  split
  ·exact h a (by simp)
  ·exact ih (fun m hm => h m (by simp [hm]))
theorem markS_text (st : RdSt) (l : Nat) : (markS sg st l).size ≤ 3000 := by
 refine markF_text st _ (fun m hm => ?_)
 have : ∀ m ∈ [(⟨#[124, 124]⟩ : ByteArray), ⟨#[38, 38]⟩, ⟨#[61, 61]⟩, ⟨#[60]⟩, ⟨#[43]⟩, ⟨#[45]⟩, ⟨#[42]⟩], m.size ≤ 3000 := by decide
 apply this
 unfold marksOf at hm
 split at hm
 ·simp at hm ⊢; simp [hm]
 ·split at hm
  ·simp at hm ⊢; simp [hm]
  ·split at hm
   ·simp at hm ⊢; simp [hm]
   ·split at hm
    ·simp at hm ⊢; simp [hm]
    ·split at hm
     ·simp at hm ⊢; rcases hm with h | h <;> simp [h]
     ·simp at hm ⊢; simp [hm]
theorem fine_chain {one : RdSt → PR} (ha : ∀ st, Adv 1 1 st (one st).2) (h1 : ∀ st, Fine st → Fine (one st).2) (l N : Nat) : ∀ (n : Nat) (k : Int) (st : RdSt), Fine st → Fine (chainF sg one l N n k st).2 := by
 intro n
 induction n with
 | zero => intro k st h; exact h
 | succ n ih =>
  intro k st h
  unfold chainF
  split
  ·exact h
  ·refine ih _ _ (fine_add (fine_run h1 _ _ _ _ h) (markS_text st l) (fun s e hl => ?_))
   obtain ⟨s0, _, _, h3⟩ := (adv_run (sg := sg) ha (markS sg st l) N [k] st).2 s e
   simp at h3 ⊢
   omega
theorem fine_end (hs : SgFine sg) {one : RdSt → PR} (ha : ∀ st, Adv 1 1 st (one st).2) (h1 : ∀ st, Fine st → Fine (one st).2) (N : Nat) : ∀ (n : Nat) (k : Int) (st : RdSt), Fine st → Fine (endF sg one N n k st).2 := by
 intro n
 induction n with
 | zero => intro k st h; exact h
 | succ n ih =>
  intro k st h
  unfold endF
  split
  ·exact h
  ·split
   ·exact ih _ _ (fine_call hs ha h1 N k st h)
   ·split
    ·split
     ·exact ih _ _ (fine_skip (fine_add (fine_skip h) (sg_text hs _ 0) (fun s e _ => by simp)))
     ·exact fine_none
    ·exact h
theorem fine_body {one : Bool → RdSt → PR} (h1 : ∀ b st, Fine st → Fine (one b st).2) : ∀ (n : Nat) (ks : List Int) (st : RdSt), Fine st → Fine (bodyF sg one n ks st).2 := by
 intro n
 induction n with
 | zero => intro ks st h; exact h
 | succ n ih =>
  intro ks st h
  unfold bodyF
  split
  ·exact h
  ·split
   ·exact h
   ·exact ih _ _ (h1 _ st h)
theorem body_few {one : Bool → RdSt → PR} (ha : ∀ b st, Adv 1 1 st (one b st).2) (n : Nat) (st : RdSt) {st' : RdSt} {i j : Nat} (k : Adv i j (bodyF sg one n [] st).2 st') : ∀ s, st' = some s → s.nodes.length ≤ 300 → (bodyF sg one n [] st).1.length ≤ 300 := fun s e hl => by
 obtain ⟨s1, e1, _, h2⟩ := k s e
 obtain ⟨s0, _, _, h3⟩ := (adv_body (sg := sg) ha n [] st).2 s1 e1
 simp at h3
 omega
variable {E : Md → Nat → RdSt → PR} {N : Nat} (hs : SgFine sg) (hA : ∀ m d st, Adv 1 1 st (E m d st).2) (hE : ∀ m d st, Fine st → Fine (E m d st).2)
include hE
theorem fine_held (d : Nat) (h : Fine st) : Fine (heldS sg E d st).2 := fine_take (hE _ _ _ (fine_take h _)) _
include hs
theorem fine_var (d : Nat) (b : Bool) (h : Fine st) : Fine (varS sg E d b st).2 := by
 unfold varS
 split
 ·exact fine_add (fine_take (hE _ _ _ (fine_skip (fine_nm h))) _) (nm_text hs st) (fun s e _ => by simp)
 ·exact fine_add (fine_take (fine_nm h) _) (nm_text hs st) (fun s e _ => by simp)
theorem fine_stmt (d : Nat) (b : Bool) (h : Fine st) : Fine (stmtS sg E d b st).2 := by
 unfold stmtS
 split
 ·exact fine_note hs h b
 ·split
  ·exact fine_var hs hE d b (fine_skip h)
  ·split
   ·unfold leaveS
    split
    ·exact fine_add (fine_take (fine_skip h) _) (Nat.zero_le _) (fun s e _ => by simp)
    ·exact fine_add (fine_take (hE _ _ _ (fine_skip h)) _) (Nat.zero_le _) (fun s e _ => by simp)
   ·split
    ·unfold ifS
     simp only
     split
     ·exact fine_add (hE _ _ _ (fine_skip (hE _ _ _ (fine_held hE d (fine_skip h))))) (Nat.zero_le _) (fun s e _ => by simp)
     ·exact fine_add (hE _ _ _ (fine_held hE d (fine_skip h))) (Nat.zero_le _) (fun s e _ => by simp)
    ·split
     ·exact fine_add (hE _ _ _ (fine_held hE d (fine_skip h))) (Nat.zero_le _) (fun s e _ => by simp)
     ·split
      ·exact fine_add (fine_take (hE _ _ _ (fine_skip (fine_skip h))) _) (nm_text hs st) (fun s e _ => by simp)
      ·exact fine_add (fine_take (hE _ _ _ h) _) (Nat.zero_le _) (fun s e _ => by simp)
include hA
theorem fine_fn (d : Nat) (h : Fine st) : Fine (fnS sg E N d st).2 := by
 unfold fnS
 refine fine_add (hE _ _ _ (fine_take (fine_take (fine_list hs (fun st h => fine_nameNode hs h) _ _ _ _ (fine_take h _)) _) _)) (Nat.zero_le _) (fun s e hl => ?_)
 have := list_few (sg := sg) (adv_nameNode (sg := sg)) ⟨#[41]⟩ N (takeS sg st ⟨#[40]⟩) (((adv_take (sg := sg) _ ⟨#[41]⟩).trans (adv_take (sg := sg) _ ⟨#[61, 62]⟩)).trans (hA .pick d _)) s e hl
 simp; omega
theorem fine_base (d : Nat) (h : Fine st) : Fine (baseS sg E N d st).2 := by
 unfold baseS
 split
 ·exact fine_nameNode hs h
 ·split
  ·exact fine_leaf hs h 2
  ·split
   ·exact fine_leaf hs h 3
   ·split
    ·unfold listS
     refine fine_add (fine_take (fine_list hs (hE .value d) _ _ _ _ (fine_skip h)) _) (Nat.zero_le _) (fun s e hl => ?_)
     have := list_few (sg := sg) (hA .value d) ⟨#[93]⟩ N (skipS st) (adv_take (sg := sg) _ ⟨#[93]⟩) s e hl
     show (listF sg (E .value d) ⟨#[93]⟩ N [] (skipS st)).1.length ≤ 400
     omega
    ·split
     ·split
      ·exact fine_fn hs hA hE d h
      ·exact fine_add (fine_take (hE _ _ _ (fine_skip h)) _) (Nat.zero_le _) (fun s e _ => by simp)
     ·exact fine_none
theorem fine_step (m : Md) (d : Nat) (h : Fine st) : Fine (stepM sg E N m d st).2 := by
 cases m with
 | value =>
  show Fine (valueS sg E N d st).2
  unfold valueS
  split
  ·refine fine_add (fine_casc hs (hA .value d) (hE .value d) N _ _ _ (hE _ _ _ h)) (Nat.zero_le _) (fun s e hl => ?_)
   obtain ⟨s0, _, _, h3⟩ := (adv_casc (sg := sg) (hA .value d) N N [(E .pick d st).1] (E .pick d st).2).2 s e
   simp at h3 ⊢
   omega
  ·exact hE _ _ _ h
 | pick =>
  show Fine (pickS sg E d st).2
  unfold pickS
  simp only
  split
  ·exact fine_add (hE _ _ _ (fine_take (hE _ _ _ (fine_skip (hE _ _ _ (fine_nest h d)))) _)) (Nat.zero_le _) (fun s e _ => by simp)
  ·exact hE _ _ _ (fine_nest h d)
 | chain l =>
  show Fine (chainS sg E N l d st).2
  unfold chainS
  split
  ·exact hE _ _ _ h
  ·exact fine_chain (hA _ d) (hE _ d) l N _ _ _ (hE _ _ _ h)
 | end_ => exact fine_end hs (hA .value d) (hE .value d) N _ _ _ (hE _ _ _ h)
 | base => exact fine_base hs hA hE d h
 | stmt b => exact fine_stmt hs hE d b h
 | block =>
  show Fine (blockS sg E N d st).2
  unfold blockS
  refine fine_add (fine_take (fine_body (fun b st h => hE (.stmt b) (d + 1) st h) _ _ _ (fine_take (fine_nest h d) _)) _) (Nat.zero_le _) (fun s e hl => ?_)
  have := body_few (sg := sg) (fun b => hA (.stmt b) (d + 1)) N (takeS sg (nestS d st) ⟨#[123]⟩) (adv_take (sg := sg) _ ⟨#[125]⟩) s e hl
  show (bodyF sg (fun b => E (.stmt b) (d + 1)) N [] (takeS sg (nestS d st) ⟨#[123]⟩)).1.length ≤ 400
  omega
theorem fine_meth (b : Bool) (h : Fine st) : Fine (methS sg E N b st).2 := by
 unfold methS
 refine fine_add (hE _ _ _ (fine_take (fine_list hs (fun st h => fine_nameNode hs h) _ _ _ _ (fine_take (fine_nm h) _)) _)) (nm_text hs st) (fun s e hl => ?_)
 have := list_few (sg := sg) (adv_nameNode (sg := sg)) ⟨#[41]⟩ N (takeS sg (nmS sg st) ⟨#[40]⟩) ((adv_take (sg := sg) _ ⟨#[41]⟩).trans (hA .block 0 _)) s e hl
 simp; omega
theorem fine_mem (b : Bool) (h : Fine st) : Fine (memS sg E N b st).2 := by
 unfold memS
 split
 ·exact fine_note hs h b
 ·split
  ·exact fine_var hs hE 0 b (fine_skip h)
  ·exact fine_meth hs hA hE b h
theorem fine_top (b : Bool) (h : Fine st) : Fine (topS sg E N b st).2 := by
 unfold topS
 split
 ·exact fine_note hs h b
 ·split
  ·exact fine_var hs hE 0 b (fine_skip h)
  ·split
   ·unfold classS
    refine fine_add (fine_take (fine_body (fun b st h => fine_mem hs hA hE b h) _ _ _ (fine_take (fine_nm (fine_skip h)) _)) _) (nm_text hs _) (fun s e hl => ?_)
    have := body_few (sg := sg) (adv_mem hA) N (takeS sg (nmS sg (skipS st)) ⟨#[123]⟩) (adv_take (sg := sg) _ ⟨#[125]⟩) s e hl
    show (bodyF sg (memS sg E N) N [] (takeS sg (nmS sg (skipS st)) ⟨#[123]⟩)).1.length ≤ 400
    omega
   ·exact fine_meth hs hA hE b h
theorem fine_file : ∀ (n : Nat) (ks : List Int) (st : RdSt), Fine st → Fine (fileF sg E N n ks st).2 := by
 intro n
 induction n with
 | zero => intro ks st h; exact h
 | succ n ih =>
  intro ks st h
  unfold fileF
  split
  ·exact ih _ _ (fine_top hs hA hE _ h)
  ·exact h
omit hs hE in
theorem adv_file : ∀ (n : Nat) (ks : List Int) (st : RdSt), ks.length ≤ (fileF sg E N n ks st).1.length ∧ Adv 0 ((fileF sg E N n ks st).1.length - ks.length) st (fileF sg E N n ks st).2 := by
 intro n
 induction n with
 | zero => intro ks st; exact ⟨Nat.le_refl _, by simpa [fileF] using Adv.refl st⟩
 | succ n ih =>
  intro ks st
  unfold fileF
  split
  ·obtain ⟨g1, g2⟩ := ih (ks ++ [(topS sg E N (blankB sg st ks) st).1]) (topS sg E N (blankB sg st ks) st).2
   simp only [lA, List.length_singleton] at g1 g2
   exact ⟨by omega, ((adv_top hA _ st).trans g2).weak (by omega) (by omega)⟩
  ·exact ⟨Nat.le_refl _, by simpa using Adv.refl st⟩
theorem fine_fileS (h : Fine st) : Fine (fileS sg E N st) := by
 unfold fileS
 refine fine_add (fine_file hs hA hE N [] st h) (Nat.zero_le _) (fun s e hl => ?_)
 obtain ⟨s0, _, _, h3⟩ := (adv_file (sg := sg) hA N [] st).2 s e
 simp at h3
 show (fileF sg E N N [] st).1.length ≤ 400
 omega
end
theorem fine_expr {sg : List SgP} (hs : SgFine sg) {N : Nat} : ∀ (f : Nat) (m : Md) (d : Nat) (st : RdSt), Fine st → Fine (exprF sg N f m d st).2 := by
 intro f
 induction f with
 | zero => intro m d st _; exact fine_none
 | succ f ih => intro m d st h; exact fine_step hs (fun m d st => adv_expr f m d st) ih m d h
theorem fine_nodes {sg : List SgP} (hs : SgFine sg) : Fine (nodesP sg) :=
 fine_fileS hs (fun m d st => adv_expr _ m d st) (fun m d st h => fine_expr hs _ m d st h) (fun s e => by obtain rfl := Option.some.inj e; exact ⟨by simp, fun p hp => by cases hp⟩)
end Go.Proofs.YtgbikafalcbibaaGreatDoor

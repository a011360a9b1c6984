/-
  Put together by program (shake.py): ParI, ParL, ParJ, ParK, ParM, ParN.
-/
import Derived.Test.YtgbikafalcbibaaGreatDoorMiL
set_option maxRecDepth 100000
set_option maxHeartbeats 25600000
set_option linter.unusedVariables false
set_option linter.unusedSimpArgs false
open Go.Lib (hid)
open Go.Proofs.Tryz
namespace Go.Proofs.YtgbikafalcbibaaGreatDoor
open Go.RowKit
def Need (n : Nat) (st : RdSt) (r f : Nat) : Prop := r ≤ f ∧ ∀ s, st = some s → (n - s.at_) * 14 + r ≤ f
theorem Need.same {n r r' f i j : Nat} {st st' : RdSt} (h : Need n st r (f + 1)) (hr : r' + 1 ≤ r) (k : Adv i j st st') : Need n st' r' f :=
 ⟨by have := h.1; omega, fun t e => by
  obtain ⟨s, e2, h1, _⟩ := k t e
  have := h.2 s e2
  have : n - t.at_ ≤ n - s.at_ := by omega
  omega⟩
theorem Need.next {n r r' f i j : Nat} {s : PS} {st' : RdSt} (h : Need n (some s) r (f + 1)) (hlt : s.at_ < n) (k : Adv (i + 1) j (some s) st') (hr : r' ≤ 13) : Need n st' r' f := by
 have h2 := h.2 s rfl
 have hD : (n - s.at_) = (n - s.at_ - 1) + 1 := by omega
 refine ⟨by omega, fun t e => ?_⟩
 obtain ⟨s', e2, h1, _⟩ := k t e
 obtain rfl := Option.some.inj e2
 have : n - t.at_ ≤ n - s.at_ - 1 := by omega
 omega
structure EC (R : RC) (N f : Nat) : Prop where
 value : ∀ (U : Nat → Prop) (d : Nat) (st : RdSt) (row : Option Nat) (w : World), RdI { R with U := U } d st row w → Need R.n st 11 f → d + f ≤ 100000 → Calls prog 216 #[.pointer (some ⟨R.T, 0, none⟩)] w (Does { R with U := U } d row w (.int .i64 (exprF R.sg N f .value d st).1) (exprF R.sg N f .value d st).2)
 pick : ∀ (U : Nat → Prop) (d : Nat) (st : RdSt) (row : Option Nat) (w : World), RdI { R with U := U } d st row w → Need R.n st 10 f → d + f ≤ 100000 → Calls prog 235 #[.pointer (some ⟨R.T, 0, none⟩)] w (Does { R with U := U } d row w (.int .i64 (exprF R.sg N f .pick d st).1) (exprF R.sg N f .pick d st).2)
 chain : ∀ (U : Nat → Prop) (l d : Nat) (st : RdSt) (row : Option Nat) (w : World), RdI { R with U := U } d st row w → l ≤ 6 → Need R.n st (9 - l) f → d + f ≤ 100000 → Calls prog 244 #[.pointer (some ⟨R.T, 0, none⟩), .int .i64 l] w (Does { R with U := U } d row w (.int .i64 (exprF R.sg N f (.chain l) d st).1) (exprF R.sg N f (.chain l) d st).2)
 end_ : ∀ (U : Nat → Prop) (d : Nat) (st : RdSt) (row : Option Nat) (w : World), RdI { R with U := U } d st row w → Need R.n st 2 f → d + f ≤ 100000 → Calls prog 247 #[.pointer (some ⟨R.T, 0, none⟩)] w (Does { R with U := U } d row w (.int .i64 (exprF R.sg N f .end_ d st).1) (exprF R.sg N f .end_ d st).2)
 base : ∀ (U : Nat → Prop) (d : Nat) (st : RdSt) (row : Option Nat) (w : World), RdI { R with U := U } d st row w → Need R.n st 1 f → d + f ≤ 100000 → Calls prog 250 #[.pointer (some ⟨R.T, 0, none⟩)] w (Does { R with U := U } d row w (.int .i64 (exprF R.sg N f .base d st).1) (exprF R.sg N f .base d st).2)
 stmt : ∀ (U : Nat → Prop) (b : Bool) (d : Nat) (st : RdSt) (row : Option Nat) (w : World), RdI { R with U := U } d st row w → Need R.n st 12 f → d + f ≤ 100000 → Calls prog 222 #[.pointer (some ⟨R.T, 0, none⟩), .bool b] w (Does { R with U := U } d row w (.int .i64 (exprF R.sg N f (.stmt b) d st).1) (exprF R.sg N f (.stmt b) d st).2)
 block : ∀ (U : Nat → Prop) (d : Nat) (st : RdSt) (row : Option Nat) (w : World), RdI { R with U := U } d st row w → Need R.n st 13 f → d + f ≤ 100000 → Calls prog 181 #[.pointer (some ⟨R.T, 0, none⟩)] w (Does { R with U := U } d row w (.int .i64 (exprF R.sg N f .block d st).1) (exprF R.sg N f .block d st).2)
theorem EC.one {R : RC} {N f : Nat} (h : EC R N f) {d r : Nat} (hd : d + f ≤ 100000) {s : PS} (hn : Need R.n (some s) r (f + 1)) (hlt : s.at_ < R.n) : OneC R 216 d (s.at_ + 1) (exprF R.sg N f .value d) :=
 fun U st row w hI hlo => h.value U d st row w hI (by
  have h2 := hn.2 s rfl
  refine ⟨by omega, fun t e => ?_⟩
  have := hlo t e
  have : R.n - t.at_ ≤ R.n - s.at_ - 1 := by omega
  omega) hd
theorem nest_c3 {R : RC} {d : Nat} {st : RdSt} {row : Option Nat} {w : World} (hi : R.imp = true) (h : RdI R (d + 1) st row w) :
  w.cell? ⟨R.T, 3, none⟩ = some (.int .i64 ((d : Int) + 1)) ∧ (∀ i, w.frozen? ⟨R.T, i, none⟩ = false) ∧ R.T < w.heap.size ∧ RdI R d st row (w.setCell ⟨R.T, 3, none⟩ (.int .i64 d)) ∧ Kr R.T row w row (w.setCell ⟨R.T, 3, none⟩ (.int .i64 d)) := by
 obtain ⟨a, b, AN, cN, l, hc, hst, hrow⟩ := h
 obtain ⟨c0, c2, c3, c4, c5, cf, cz⟩ := hc.ci hi
 have hF := RdI.nest1 hi hc hst hrow (u := (d : Int)) (d' := d) rfl
 exact ⟨by rw [c3]; simp, cf, cz, hF.1, hF.2⟩
theorem pick_step (R : RC) (hi : R.imp = true) (N f : Nat) (HE : EC R N f) (d : Nat) (st : RdSt) (row : Option Nat) (w : World) (hI : RdI R d st row w) (hn : Need R.n st 10 (f + 1)) (hd : d + (f + 1) ≤ 100000) :
  Calls prog 235 #[.pointer (some ⟨R.T, 0, none⟩)] w (Does R d row w (.int .i64 (pickS R.sg (exprF R.sg N f) d st).1) (pickS R.sg (exprF R.sg N f) d st).2) := by
 have HI0 := hid hI
 have HK0 := hid (Kr.refl R.T row w)
 have hnC := hn.same (r' := 9) (by omega) (adv_nest d st)
 have HC := hid (fun (row : Option Nat) (W : World) (h : RdI R (d + 1) (nestS d st) row W) => HE.chain R.U 0 (d + 1) (nestS d st) row W h (by omega) hnC (by omega))
 have hadv := (adv_nest d st).trans (adv_expr (sg := R.sg) (N := N) f (.chain 0) (d + 1) (nestS d st))
 have hle : ∀ (d' : Nat) (row : Option Nat) (W : World) (t : PS), RdI R d' (some t) row W → t.at_ ≤ R.n := fun d' row W t h => (h.le rfl).1
 have hlen := hI.ok.len
 unfold Does at HC ⊢
 unfold pickS
 dsimp only
 generalize exprF R.sg N f (.chain 0) (d + 1) (nestS d st) = r at HC hadv ⊢
 obtain ⟨k0, st1⟩ := r
 dsimp only at HC hadv ⊢
 rcases bft (isM R.sg st1 ⟨#[63]⟩) with hM | hM
 ·rw [if_pos hM]
  have hsk := skipIf_yes hM
  obtain ⟨t, et, hlt⟩ := isM_lt hM
  obtain ⟨s, es, ha, _⟩ := hadv t et
  subst es
  have hsn : s.at_ < R.n := by omega
  have HP1 := hid (fun (row : Option Nat) (W : World) (h : RdI R (d + 1) (skipS st1) row W) => HE.pick R.U (d + 1) (skipS st1) row W h (hn.next hsn (hadv.trans (adv_skip _)) (by omega)) (by omega))
  have hadv2 := (hadv.trans (adv_skip st1)).trans (adv_expr (sg := R.sg) (N := N) f .pick (d + 1) (skipS st1))
  unfold Does at HP1
  generalize exprF R.sg N f .pick (d + 1) (skipS st1) = r2 at HP1 hadv2 ⊢
  obtain ⟨k1, st2⟩ := r2
  dsimp only at HP1 hadv2 ⊢
  have HP2 := hid (fun (row : Option Nat) (W : World) (h : RdI R (d + 1) (takeS R.sg st2 ⟨#[58]⟩) row W) => HE.pick R.U (d + 1) (takeS R.sg st2 ⟨#[58]⟩) row W h (hn.next hsn (hadv2.trans (adv_take _ _)) (by omega)) (by omega))
  unfold Does at HP2
  generalize exprF R.sg N f .pick (d + 1) (takeS R.sg st2 ⟨#[58]⟩) = r3 at HP2 ⊢
  obtain ⟨k2, st3⟩ := r3
  dsimp only at HP2 ⊢
  have HSk := hid hsk
  have HMh := hid hM
  clear hI hn hadv hadv2 hle hlen hM hsk et ha hlt hnC
  go_enter func235, ntmps235
  go_wp2_with fail
  refine pst (enter_any R hi d (some s) row w HI0.out (by omega)) HK0 ?_
  intro w1 row1 HI1 HK1
  go_wp2_with fail
  refine pst (HC.out _ _ HI1.out) HK1 ?_
  intro w2 row2 HI2 HK2
  go_wp2_with fail
  refine (skip_any R hi (d + 1) st1 row2 ⟨#[63]⟩ w2 HI2.out).mono ?_
  rw [HMh.out, HSk.out]
  rintro e w3 ⟨rfl, row3, h3, k3⟩
  have HK3 := keep_kr HK2 k3
  have HI3 := hid h3
  clear h3 k3
  go_wp2_with fail
  refine pst (HP1.out _ _ HI3.out) HK3 ?_
  intro w4 row4 HI4 HK4
  go_wp2_with fail
  refine pst (take_any R hi (d + 1) st2 row4 ⟨#[58]⟩ w4 HI4.out) HK4 ?_
  intro w5 row5 HI5 HK5
  go_wp2_with fail
  refine pst (HP2.out _ _ HI5.out) HK5 ?_
  intro w6 row6 HI6 HK6
  have HLo6 := hid HI6.out.lo
  go_wp2_with fail
  refine pst (addK R hi (d + 1) st3 row6 8 noT (some ⟨w6.heap.size, 0, none⟩) 3 3 [k0, k1, k2] false w6.heap.size _ (HI6.out.alloc _) (kid3 w6 k0 k1 k2) HLo6.out) HK6 ?_
  intro w7 row7 HI7 HK7
  obtain ⟨c3, cf, cz, hF1, hF2⟩ := nest_c3 hi HI7.out
  have HF := hid (And.intro hF1 (HK7.out.trans hF2))
  clear hF1 hF2
  go_wp2
  go_ret
  exact ⟨rfl, row7, HF.out.1, HF.out.2⟩
 ·rw [if_neg (by rw [hM]; decide)]
  have HSk := hid (skipIf_no hM)
  have HMh := hid hM
  clear hI hn hadv hle hlen hM hnC
  go_enter func235, ntmps235
  go_wp2_with fail
  refine pst (enter_any R hi d st row w HI0.out (by omega)) HK0 ?_
  intro w1 row1 HI1 HK1
  go_wp2_with fail
  refine pst (HC.out _ _ HI1.out) HK1 ?_
  intro w2 row2 HI2 HK2
  go_wp2_with fail
  refine (skip_any R hi (d + 1) st1 row2 ⟨#[63]⟩ w2 HI2.out).mono ?_
  rw [HMh.out, HSk.out]
  rintro e w3 ⟨rfl, row3, h3, k3⟩
  have HK3 := keep_kr HK2 k3
  obtain ⟨c3, cf, cz, hF1, hF2⟩ := nest_c3 hi h3
  have HF := hid (And.intro hF1 (HK3.out.trans hF2))
  clear h3 k3 hF1 hF2
  go_wp2
  go_ret
  exact ⟨rfl, row3, HF.out.1, HF.out.2⟩
theorem markF_lt {sg : List SgP} {st : RdSt} : ∀ {l : List ByteArray}, (∀ m ∈ l, (m.toList == []) = false) → ((markF_ sg st l).toList == []) = false → isM sg st (markF_ sg st l) = true := by
 intro l
 induction l with
 | nil => intro _ h; exact absurd noT_nil (by rw [show (noT.toList == []) = false from h]; decide)
 | cons m l ih =>
  intro hm h
  unfold markF_ at h ⊢
  rcases bft (isM sg st m) with e | e
  ·rw [if_pos e]; exact e
  ·rw [if_neg (by rw [e]; decide)] at h ⊢
   exact ih (fun x hx => hm x (by simp [hx])) h
theorem lit_nn {l : List UInt8} (h : (l == []) = false) : ((⟨l.toArray⟩ : ByteArray).toList == []) = false := by rw [ByteArray.toList_eq]; simpa using h
theorem marks_nn (l : Nat) : ∀ m ∈ marksOf l, (m.toList == []) = false := by
 unfold marksOf
 intro m hm
 split at hm
 ·simp at hm; subst hm; exact lit_nn (l := [124, 124]) rfl
 ·split at hm
  ·simp at hm; subst hm; exact lit_nn (l := [38, 38]) rfl
  ·split at hm
   ·simp at hm; subst hm; exact lit_nn (l := [61, 61]) rfl
   ·split at hm
    ·simp at hm; subst hm; exact lit_nn (l := [60]) rfl
    ·split at hm
     ·simp at hm
      rcases hm with rfl | rfl
      ·exact lit_nn (l := [43]) rfl
      ·exact lit_nn (l := [45]) rfl
     ·simp at hm; subst hm; exact lit_nn (l := [42]) rfl
theorem markS_is {sg : List SgP} {st : RdSt} {l : Nat} (h : ((markS sg st l).toList == []) = false) : isM sg st (markS sg st l) = true := markF_lt (marks_nn l) h
theorem chain_step (R : RC) (hi : R.imp = true) (N f : Nat) (hN : R.n < N) (HE : EC R N f) (l d : Nat) (hl : l ≤ 6) (st : RdSt) (row : Option Nat) (w : World) (hI : RdI R d st row w) (hn : Need R.n st (9 - l) (f + 1)) (hd : d + (f + 1) ≤ 100000) :
  Calls prog 244 #[.pointer (some ⟨R.T, 0, none⟩), .int .i64 l] w (Does R d row w (.int .i64 (chainS R.sg (exprF R.sg N f) N l d st).1) (chainS R.sg (exprF R.sg N f) N l d st).2) := by
 have HI0 := hid hI
 have HK0 := hid (Kr.refl R.T row w)
 have HLo := hid hI.lo
 unfold Does
 unfold chainS
 by_cases h6 : l = 6
 ·rw [if_pos h6]
  have HP := hid (HE.end_ R.U d st row w hI (hn.same (r' := 2) (by omega) (Adv.refl st)) (by omega))
  unfold Does at HP
  clear hI hn
  subst h6
  go_enter func244, ntmps244
  go_wp2_with fail
  refine pst (HP.out) HK0 ?_
  intro w1 row1 HI1 HK1
  go_wp2
  go_ret
  exact ⟨rfl, row1, HI1.out, HK1.out⟩
 ·rw [if_neg h6]
  have hl5 : l < 6 := by omega
  have HP := HE.chain R.U (l + 1) d st row w hI (by omega) (hn.same (r' := 9 - (l + 1)) (by omega) (Adv.refl st)) (by omega)
  rw [show ((l + 1 : Nat) : Int) = (l : Int) + 1 by omega] at HP
  have hadv := adv_expr (sg := R.sg) (N := N) f (.chain (l + 1)) d st
  have HA := hid (fun st => adv_expr (sg := R.sg) (N := N) f (.chain (l + 1)) d st)
  have hlen := hI.ok.len
  unfold Does at HP
  have HP := hid HP
  have HO : Hid (∀ (U : Nat → Prop) (st' : RdSt) (row : Option Nat) (w : World), RdI { R with U := U } d st' row w → Adv 1 0 st st' → (∀ s, st = some s → s.at_ < R.n) → (st = none → st' = none) → Calls prog 244 #[.pointer (some ⟨R.T, 0, none⟩), .int .i64 ((l : Int) + 1)] w (Does { R with U := U } d row w (.int .i64 (exprF R.sg N f (.chain (l + 1)) d st').1) (exprF R.sg N f (.chain (l + 1)) d st').2)) := (show ∀ U st' row w, _ → _ → _ → _ → _ from fun U st' row w h ha hlt hnn => by
   have := HE.chain U (l + 1) d st' row w h (by omega) (by
    cases st with
    | none => rw [hnn rfl]; exact hn.same (by omega) (Adv.refl none)
    | some s => exact hn.next (hlt s rfl) (ha.weak (i' := 0 + 1) (j' := 0) (by omega) (by omega)) (by omega)) (by omega)
   rwa [show ((l + 1 : Nat) : Int) = (l : Int) + 1 by omega] at this)
  have hld : ((l : Int) == 6) = false := by rw [beq_eq_false_iff_ne]; omega
  generalize exprF R.sg N f (.chain (l + 1)) d = one at HP hadv HA HO ⊢
  generalize hr : one st = r at HP hadv ⊢
  obtain ⟨k0, st1⟩ := r
  dsimp only at HP hadv ⊢
  have HAD0 := hid hadv
  obtain ⟨Q, hQ⟩ : ∃ Q, chainF R.sg one l N N k0 st1 = Q := ⟨_, rfl⟩
  rw [hQ]
  have HQ := hid hQ
  obtain ⟨i0, hi0, hz0, hz1, hz2⟩ := info_parts infoInt
  have HII := hid (And.intro hi0 (And.intro hz0 (And.intro hz1 hz2)))
  clear hi0 hz0 hz1 hz2 hI hn hadv hQ hr
  go_enter func244, ntmps244
  go_wp2_with fail
  refine pst (HP.out) HK0 ?_
  intro w1 row1 HI1 HK1
  go_upto_region 4 with fail
  go_loopw [5] (fun v wr => ∃ (M : Nat) (k : Int) (st' : RdSt) (row' : Option Nat), v = .int .i64 k ∧ Hid (chainF R.sg one l N M k st' = Q) ∧ Hid (Adv 1 1 st st') ∧ Hid (Enough R.n M st') ∧ Hid (RdI R d st' row' wr) ∧ Hid (Kr R.T row w row' wr)) (fun _ wr => measI R wr)
  case atStart => exact ⟨N, k0, st1, row1, rfl, HQ, HAD0, (show Enough _ _ _ from enough_of hN _), HI1, HK1⟩
  case round =>
   clear HQ HAD0 HI0 HI1 HK0 HK1 HP
   obtain ⟨M, k, st', row', rfl, HQ, HAD, HEn, HI, HK⟩ := hrel
   have HMk := hid (chainMark_any R hi d st' row' l hl5 wr HI.out)
   rcases bft ((markS R.sg st' l).toList == []) with hM | hM
   ·have hq : Q = (k, st') := by
     have hq := HQ.out
     cases M with
     | zero => exact hq.symm
     | succ M => unfold chainF at hq; rw [if_pos hM] at hq; exact hq.symm
    subst hq
    generalize markS R.sg st' l = mk at HMk hM
    clear HQ
    go_wp2_with fail
    refine HMk.out.mono ?_
    rintro e w2 ⟨rfl, g2⟩
    go_wp2
    go_ret
    exact ⟨rfl, row', HI.out.next g2, HK.out.below g2⟩
   ·have hIs := markS_is hM
    obtain ⟨s', es', hlt'⟩ := isM_lt hIs
    obtain ⟨s, es, ha, hnd⟩ := HAD.out s' es'
    obtain ⟨M, rfl⟩ : ∃ M', M = M' + 1 := ⟨M - 1, by
     have h1 := HEn.out s' es'
     have h2 := (HI.out.le es').1
     omega⟩
    have hq := HQ.out
    unfold chainF at hq
    rw [if_neg (by rw [hM]; decide)] at hq
    have hsn : s.at_ < R.n := by omega
    generalize markS R.sg st' l = mk at HMk hM hq hIs
    have hadv2 := adv_run (sg := R.sg) HA.out mk N [k] st'
    obtain ⟨q2, hq2⟩ : ∃ q2, runF R.sg one mk N [k] st' = q2 := ⟨_, rfl⟩
    rw [hq2] at hq hadv2
    have HQ1 := hid hq
    have HQ2 := hid hq2
    have HIS := hid hIs
    have hkb0 := (HI.out.le es').2
    have HKB0 : Hid (KidB [k] st') := (show KidB _ _ from ⟨by simp, fun t' e => by rw [es'] at e; obtain rfl := Option.some.inj e; simp; omega⟩)
    have HO2 : Hid (∀ (U : Nat → Prop) (st2 : RdSt) (row : Option Nat) (w : World), RdI { R with U := U } d st2 row w → Adv 0 0 st' st2 → Calls prog 244 #[.pointer (some ⟨R.T, 0, none⟩), .int .i64 ((l : Int) + 1)] w (Does { R with U := U } d row w (.int .i64 (one st2).1) (one st2).2)) := (show ∀ U st2 row w, _ → _ → _ from fun U st2 row w h ha => HO.out U st2 row w h ((HAD.out.trans ha).weak (by omega) (by omega)) (fun s2 e2 => by rw [es] at e2; obtain rfl := Option.some.inj e2; exact hsn) (fun e => by rw [es] at e; cases e))
    have hM' : ((mk.toList != []) = true) := by rw [bne, hM]; rfl
    clear hq hq2 hadv2 hIs HQ es es' ha hnd hlt' hkb0
    go_wp2_with fail
    refine HMk.out.mono ?_
    rintro e w2 ⟨rfl, g2⟩
    have HI2 := hid (HI.out.next g2)
    have HK2 := hid (HK.out.below g2)
    clear g2 HMk
    go_upto_region 8 with fail
    have hz2 := HK2.out.size
    have HM0 := hid ((kid1 w2 k).more (B' := w.heap.size) (by omega))
    have HI3 := hid (HI2.out.res_new (A := some ⟨w2.heap.size, 0, none⟩) ((Below.refl _ _).alloc (Nat.le_refl _) (.cells #[.int .i64 k] 3)) (fun g hg => by simp at hg; subst hg; simp))
    have HK3 := hid (HK2.out.below ((Below.refl _ _).alloc (Nat.le_refl _) (.cells #[.int .i64 k] 3)))
    generalize w2.alloc (.cells #[.int .i64 k] 3) = w3 at HM0 HI3 HK3 ⊢
    go_loopw [7] (fun v wi => ∃ (M2 : Nat) (ks : List Int) (st2 : RdSt) (row2 : Option Nat) (A : Option Addr) (c : Nat), v = .slice A ks.length c ∧ Hid (runF R.sg one mk M2 ks st2 = q2) ∧ Hid (Adv 0 0 st' st2) ∧ Hid (st2 = st' ∨ Adv 1 0 st' st2) ∧ Hid (Enough R.n M2 st2) ∧ Hid (KidB ks st2) ∧ Hid (Mine wi w.heap.size 3 1 A ks.length c (intCells ks)) ∧ Hid (RdI (R.res A) d st2 row2 wi) ∧ Hid (Kr R.T row w row2 wi)) (fun _ wi => measI R wi)
    case atStart => exact ⟨N, [k], st', row', _, 1, rfl, HQ2, (show Adv 0 0 st' st' from Adv.refl _), (show st' = st' ∨ _ from .inl rfl), (show Enough _ _ _ from enough_of hN _), HKB0, HM0, HI3, HK3⟩
    case round =>
     clear HQ2 HKB0 HM0 HI2 HI3 HK2 HK3
     obtain ⟨M2, ks, st2, row2, A, c, rfl, HQ2, HAD2, HSt, HEn2, HKB, HM, HI2, HK2⟩ := hrel
     have HS := hid (skip_u _ hi d st2 row2 mk wr HI2.out)
     rcases bft (isM R.sg st2 mk) with hM2 | hM2
     ·obtain ⟨s2, es2, hlt2⟩ := isM_lt hM2
      subst es2
      obtain ⟨M2, rfl⟩ : ∃ M', M2 = M' + 1 := ⟨M2 - 1, by
       have h1 := HEn2.out s2 rfl
       have h2 := (HI2.out.le rfl).1
       have : (R.res A).n = R.n := rfl
       omega⟩
      rw [hM2, skipIf_yes hM2] at HS
      have hq := HQ2.out
      unfold runF at hq
      rw [if_pos hM2] at hq
      have hadv3 := (adv_skip (some s2)).trans (HA.out (skipS (some s2)))
      have HC := hid (fun (row : Option Nat) (W : World) h => HO2.out (fun x => R.U x ∨ A.map (·.block) = some x) (skipS (some s2)) row W h ((HAD2.out.trans (adv_skip _)).weak (by omega) (by omega)))
      unfold Does at HC
      generalize one (skipS (some s2)) = r3 at hq hadv3 HC
      obtain ⟨kc, st3⟩ := r3
      dsimp only at hq hadv3 HC
      have HQ3 := hid hq
      have HAD3 := hid hadv3
      have hnb := (HI2.out.le rfl).2
      have hkb1 := HKB.out.2 s2 rfl
      have hkb := HKB.out.1
      have HAK : Hid (KidB (ks ++ [kc]) st3) := (show KidB _ _ from ⟨by rw [lA]; simp; omega, fun t e => by
       obtain ⟨s'', e2, _, h3⟩ := hadv3 t e
       obtain rfl := Option.some.inj e2
       rw [lA]
       simp
       omega⟩)
      have HAN : Hid (Enough R.n M2 st3) := HEn2.out.adv (i := 1) hadv3
      have HAA : Hid (Adv 0 0 st' st3) := (HAD2.out.trans hadv3).weak (by omega) (by omega)
      have HAB : Hid (st3 = st' ∨ Adv 1 0 st' st3) := (show _ ∨ _ from .inr ((HAD2.out.trans hadv3).weak (by omega) (by omega)))
      have hlk : (ks ++ [kc]).length = ks.length + 1 := by simp
      clear hq hM2 HQ2 hadv3 hlt2
      go_wp2_with fail
      refine HS.out.mono ?_
      rintro e w4 ⟨rfl, row4, h4, k4⟩
      have HM4 := hid (HI2.out.keepI k4 HM.out)
      have HI4 := hid h4
      have HK4 := hid (HK2.out.trans k4)
      clear h4 k4 HS
      go_wp2_with fail
      refine (HC.out _ _ HI4.out).mono ?_
      rintro e w6 ⟨rfl, row6, h6, k6⟩
      have HM6 := hid (HI4.out.keepI k6 HM4.out)
      have HI6 := hid h6
      have HK6 := hid (HK4.out.trans k6)
      clear h6 k6 HC HM4 HI4 HK4
      have hz6 := HK6.out.size
      have HB0 := hid HLo.out.1
      go_wp2_with (at_builtin; (refine wpList_append_row _ rfl (.tmp 32) (.tmp 34) _ rfl w.heap.size 3 i0 (.int .i64 0) 1 8 underlying34 HII.out.1 HII.out.2.1 HII.out.2.2.1 HII.out.2.2.2 rfl (by decide) (.slice A ks.length c) ks.length (intCells ks) rfl (Mine.alloc HM6.out _) ⟨w6.heap.size, 0, none⟩ 1 1 [.int .i64 kc] rfl rfl (int_new _ kc _) (int_one _) (by unfold maxLen; omega) (by omega) (by simp; omega) ?_); intro v' w7 hown7 hg7 hwh7; obtain ⟨A7, c7, rfl, h7, m7⟩ := RdI.appended HI6.out HM6.out HB0.out ((Below.refl _ _).alloc (Nat.le_refl _) _) hown7 hg7 hwh7)
      have HK7 := hid ((HK6.out.below ((Below.refl _ _).alloc (Nat.le_refl _) _)).grown hg7 (fun g hg => by rw [ownBlk] at hg; exact (Mine.blk HM6.out hg).1))
      rw [← ints_snoc] at m7
      have HI7 := hid h7
      have HM7 := hid m7
      clear hown7 hg7 hwh7 h7 m7 HI6 HM6 HK6
      go_wp2
      go_roundw
      case rel => exact ⟨M2, ks ++ [kc], st3, row6, A7, c7, by rw [hlk], HQ3, HAA, HAB, HAN, HAK, by rw [hlk]; exact HM7, HI7, HK7⟩
      case measure => exact meas_u hi HI2.out HI7.out (HAD3.out.weak (i' := 1) (j' := 0) (by omega) (by omega))
     ·rw [hM2, skipIf_no hM2] at HS
      have hq := HQ2.out
      have hq2 : q2 = (ks, st2) := by
       cases M2 with
       | zero => exact hq.symm
       | succ M2 => unfold runF at hq; rw [hM2, if_neg (by decide)] at hq; exact hq.symm
      subst hq2
      have hA1 : Adv 1 0 st' st2 := by
       rcases HSt.out with e | e
       ·rw [e] at hM2; exact absurd (HIS.out.symm.trans hM2) (by decide)
       ·exact e
      have HA1 := hid (hA1.trans (adv_add st2 ⟨7, mk, ks, false⟩))
      clear HQ2 hq hM2 hA1
      go_wp2_with fail
      refine HS.out.mono ?_
      rintro e w4 ⟨rfl, row4, h4, k4⟩
      have HM4 := hid (HI2.out.keepI k4 HM.out)
      have HI4 := hid h4.unres
      have HK4 := hid (HK2.out.trans k4)
      clear h4 k4 HS HM HI2 HK2
      have hq1 := HQ1.out
      have HAe : Hid (Enough R.n M (addS st2 ⟨7, mk, ks, false⟩).2) := HEn.out.adv (i := 0) HA1.out
      have HAa : Hid (Adv 1 1 st (addS st2 ⟨7, mk, ks, false⟩).2) := (HAD.out.trans HA1.out).weak (by omega) (by omega)
      have HAd := addK R hi d st2 row4 7 mk A ks.length c ks false w.heap.size w4 HI4.out HM4.out HLo.out
      unfold Does at HAd
      have HAd := hid HAd
      generalize addS st2 ⟨7, mk, ks, false⟩ = r5 at hq1 HAe HAa HAd HA1
      obtain ⟨k5, st5⟩ := r5
      dsimp only at hq1 HAe HAa HAd HA1
      have HQ5 := hid hq1
      clear hq1
      go_wp2_with fail
      refine HAd.out.mono ?_
      rintro e w5 ⟨rfl, row5, h5, k5'⟩
      have HI5 := hid h5
      have HK5 := hid (HK4.out.trans k5')
      clear h5 k5'
      go_wp2
      go_roundw
      case rel => exact ⟨M, k5, st5, row5, rfl, HQ5, HAa, HAe, HI5, HK5⟩
      case measure =>
       have hes : ∃ s'', st' = some s'' := by
        cases st' with
        | none => exact absurd HIS.out (by rw [isM_none]; decide)
        | some s'' => exact ⟨s'', rfl⟩
       obtain ⟨s'', rfl⟩ := hes
       exact meas_less hi HI.out HI5.out (HA1.out.weak (i' := 1) (j' := 0) (by omega) (by omega))
theorem call_u {R : RC} (U : Nat → Prop) (hi : R.imp = true) (d lo : Nat) (one : RdSt → PR) (HO : Hid (OneC R 216 d lo one)) (h1 : ∀ st, Adv 1 1 st (one st).2) (N : Nat) (k : Int) (st : RdSt) (row : Option Nat) (w : World) (hI : RdI { R with U := U } d st row w) (hlo : LoB lo st) (hN : R.n < N) :
  Calls prog 236 #[.pointer (some ⟨R.T, 0, none⟩), .int .i64 k] w fun e w' => e = .returned (.int .i64 (callS R.sg one N k st).1) ∧ ∃ row', RdI { R with U := U } d (callS R.sg one N k st).2 row' w' ∧ Kr R.T row w row' w' :=
 call_any { R with U := U } hi d lo one HO h1 N k st row w hI hlo hN
theorem value_step (R : RC) (hi : R.imp = true) (N f : Nat) (hN : R.n < N) (HE : EC R N f) (d : Nat) (st : RdSt) (row : Option Nat) (w : World) (hI : RdI R d st row w) (hn : Need R.n st 11 (f + 1)) (hd : d + (f + 1) ≤ 100000) :
  Calls prog 216 #[.pointer (some ⟨R.T, 0, none⟩)] w (Does R d row w (.int .i64 (valueS R.sg (exprF R.sg N f) N d st).1) (valueS R.sg (exprF R.sg N f) N d st).2) := by
 have HI0 := hid hI
 have HK0 := hid (Kr.refl R.T row w)
 have HLo := hid hI.lo
 have hnP := hn.same (r' := 10) (by omega) (Adv.refl st)
 have HP := hid (HE.pick R.U d st row w hI hnP (by omega))
 have hadv := adv_expr (sg := R.sg) (N := N) f .pick d st
 have h1 : ∀ st, Adv 1 1 st (exprF R.sg N f .value d st).2 := fun st => adv_expr f .value d st
 have hlen := hI.ok.len
 unfold Does at HP ⊢
 unfold valueS
 generalize exprF R.sg N f .pick d st = r at HP hadv ⊢
 obtain ⟨k0, st1⟩ := r
 dsimp only at HP hadv ⊢
 rcases bft (isM R.sg st1 ⟨#[46, 46]⟩) with hM | hM
 ·rw [if_pos hM]
  obtain ⟨t, et, hlt⟩ := isM_lt hM
  obtain ⟨s, es, ha, hnd⟩ := hadv t et
  subst es
  have hsn : s.at_ < R.n := by omega
  have HO := hid (HE.one (d := d) (by omega) hn hsn)
  have HA := hid h1
  have HMh := hid hM
  have HLB : Hid (LoB (s.at_ + 1) st1) := (show LoB _ _ from fun t' e => by rw [et] at e; obtain rfl := Option.some.inj e; omega)
  have HKB0 : Hid (KidB [k0] st1) := (show KidB _ _ from ⟨by simp, fun t' e => by rw [et] at e; obtain rfl := Option.some.inj e; simp; omega⟩)
  obtain ⟨Q, hQ⟩ : ∃ Q, cascF R.sg (exprF R.sg N f .value d) N N [k0] st1 = Q := ⟨_, rfl⟩
  rw [hQ]
  have HQ := hid hQ
  generalize exprF R.sg N f .value d = one at HO HA HQ
  obtain ⟨i0, hi0, hz0, hz1, hz2⟩ := info_parts infoInt
  have HII := hid (And.intro hi0 (And.intro hz0 (And.intro hz1 hz2)))
  clear hi0 hz0 hz1 hz2 hI hn hadv hlen hM et ha hlt hnP hQ h1 hnd
  go_enter func216, ntmps216
  go_wp2_with fail
  refine pst (HP.out) HK0 ?_
  intro w1 row1 HI1 HK1
  go_wp2_with fail
  refine (is_any R hi d st1 row1 ⟨#[46, 46]⟩ w1 HI1.out).mono ?_
  rw [HMh.out]
  rintro e w2 ⟨rfl, h2⟩
  have HI2 := hid (HI1.out.next h2)
  have HK2 := hid (HK1.out.below h2)
  clear h2
  go_upto_region 5 with fail
  have hz2 := HK2.out.size
  have HM0 := hid ((kid1 w2 k0).more (B' := w.heap.size) (by omega))
  have HI3 := hid (HI2.out.res_new (A := some ⟨w2.heap.size, 0, none⟩) ((Below.refl _ _).alloc (Nat.le_refl _) (.cells #[.int .i64 k0] 3)) (fun g hg => by simp at hg; subst hg; simp))
  have HK3 := hid (HK2.out.below ((Below.refl _ _).alloc (Nat.le_refl _) (.cells #[.int .i64 k0] 3)))
  generalize w2.alloc (.cells #[.int .i64 k0] 3) = w3 at HM0 HI3 HK3 ⊢
  go_loopw [4] (fun v wr => ∃ (M : Nat) (ks : List Int) (st' : RdSt) (row' : Option Nat) (A : Option Addr) (c : Nat), v = .slice A ks.length c ∧ Hid (cascF R.sg one N M ks st' = Q) ∧ Hid (LoB (s.at_ + 1) st') ∧ Hid (Enough R.n M st') ∧ Hid (KidB ks st') ∧ Hid (Mine wr w.heap.size 3 1 A ks.length c (intCells ks)) ∧ Hid (RdI (R.res A) d st' row' wr) ∧ Hid (Kr R.T row w row' wr)) (fun _ wr => measI R wr)
  case atStart => exact ⟨N, [k0], st1, row1, _, 1, rfl, HQ, HLB, (show Enough _ _ _ from enough_of hN _), HKB0, HM0, HI3, HK3⟩
  case round =>
   clear HQ HLB HI0 HI1 HI2 HI3 HK0 HK1 HK2 HK3 HM0 HKB0 HP
   obtain ⟨M, ks, st', row', A, c, rfl, HQ, HLB, HEn, HKB, HM, HI, HK⟩ := hrel
   have HS := hid (skip_u _ hi d st' row' ⟨#[46, 46]⟩ wr HI.out)
   rcases bft (isM R.sg st' ⟨#[46, 46]⟩) with hM | hM
   ·obtain ⟨s', es', hlt'⟩ := isM_lt hM
    subst es'
    obtain ⟨M, rfl⟩ : ∃ M', M = M' + 1 := ⟨M - 1, by
     have h1 := HEn.out s' rfl
     have h2 := (HI.out.le rfl).1
     have : (R.res A).n = R.n := rfl
     omega⟩
    rw [hM, skipIf_yes hM] at HS
    have hq := HQ.out
    unfold cascF at hq
    rw [if_pos hM] at hq
    have hadv2 := ((adv_skip (some s')).trans (adv_nameNode (sg := R.sg) _)).trans (adv_call (sg := R.sg) HA.out N (nameNodeS R.sg (skipS (some s'))).1 (nameNodeS R.sg (skipS (some s'))).2)
    have hadv1 := (adv_skip (some s')).trans (adv_nameNode (sg := R.sg) (skipS (some s')))
    have HNN := hid (fun (row : Option Nat) (W : World) h => nameNode_u (fun x => R.U x ∨ A.map (·.block) = some x) hi d (skipS (some s')) row W h)
    generalize nameNodeS R.sg (skipS (some s')) = r2 at hq hadv2 hadv1 HNN
    obtain ⟨nm, st2⟩ := r2
    dsimp only at hq hadv2 hadv1 HNN
    have HC := hid (fun (row : Option Nat) (W : World) h => call_u (fun x => R.U x ∨ A.map (·.block) = some x) hi d (s.at_ + 1) one HO HA.out N nm st2 row W h (HLB.out.adv hadv1) hN)
    generalize callS R.sg one N nm st2 = r3 at hq hadv2 HC
    obtain ⟨kc, st3⟩ := r3
    dsimp only at hq hadv2 HC
    have HQ2 := hid hq
    have HAD := hid hadv2
    have hnb := (HI.out.le rfl).2
    have hkb1 := HKB.out.2 s' rfl
    have hkb := HKB.out.1
    have HAK : Hid (KidB (ks ++ [kc]) st3) := (show KidB _ _ from ⟨by rw [lA]; simp; omega, fun t e => by
     obtain ⟨s'', e2, _, h3⟩ := hadv2 t e
     obtain rfl := Option.some.inj e2
     rw [lA]
     simp
     omega⟩)
    have HAN : Hid (Enough R.n M st3) := HEn.out.adv (i := 2) hadv2
    have HAL : Hid (LoB (s.at_ + 1) st3) := HLB.out.adv hadv2
    have hlk : (ks ++ [kc]).length = ks.length + 1 := by simp
    clear hq hM HQ hadv2 hadv1 hlt'
    go_wp2_with fail
    refine HS.out.mono ?_
    rintro e w4 ⟨rfl, row4, h4, k4⟩
    have HM4 := hid (HI.out.keepI k4 HM.out)
    have HI4 := hid h4
    have HK4 := hid (HK.out.trans k4)
    clear h4 k4 HS
    go_wp2_with fail
    refine (HNN.out _ _ HI4.out).mono ?_
    rintro e w5 ⟨rfl, row5, h5, k5⟩
    have HM5 := hid (HI4.out.keepI k5 HM4.out)
    have HI5 := hid h5
    have HK5 := hid (HK4.out.trans k5)
    clear h5 k5 HNN HM4 HI4 HK4
    go_wp2_with fail
    refine (HC.out _ _ HI5.out).mono ?_
    rintro e w6 ⟨rfl, row6, h6, k6⟩
    have HM6 := hid (HI5.out.keepI k6 HM5.out)
    have HI6 := hid h6
    have HK6 := hid (HK5.out.trans k6)
    clear h6 k6 HC HM5 HI5 HK5
    have hz6 := HK6.out.size
    have HB0 := hid HLo.out.1
    go_wp2_with (at_builtin; (refine wpList_append_row _ rfl (.tmp 22) (.tmp 24) _ rfl w.heap.size 3 i0 (.int .i64 0) 1 8 underlying34 HII.out.1 HII.out.2.1 HII.out.2.2.1 HII.out.2.2.2 rfl (by decide) (.slice A ks.length c) ks.length (intCells ks) rfl (Mine.alloc HM6.out _) ⟨w6.heap.size, 0, none⟩ 1 1 [.int .i64 kc] rfl rfl (int_new _ kc _) (int_one _) (by unfold maxLen; omega) (by omega) (by simp; omega) ?_); intro v' w7 hown7 hg7 hwh7; obtain ⟨A7, c7, rfl, h7, m7⟩ := RdI.appended HI6.out HM6.out HB0.out ((Below.refl _ _).alloc (Nat.le_refl _) _) hown7 hg7 hwh7)
    have HK7 := hid ((HK6.out.below ((Below.refl _ _).alloc (Nat.le_refl _) _)).grown hg7 (fun g hg => by rw [ownBlk] at hg; exact (Mine.blk HM6.out hg).1))
    rw [← ints_snoc] at m7
    have HI7 := hid h7
    have HM7 := hid m7
    clear hown7 hg7 hwh7 h7 m7 HI6 HM6 HK6
    go_wp2
    go_roundw
    case rel => exact ⟨M, ks ++ [kc], st3, row6, A7, c7, by rw [hlk], HQ2, HAL, HAN, HAK, by rw [hlk]; exact HM7, HI7, HK7⟩
    case measure => exact meas_u hi HI.out HI7.out (HAD.out.weak (i' := 1) (j' := 0) (by omega) (by omega))
   ·rw [hM, skipIf_no hM] at HS
    have hq := HQ.out
    have hq2 : Q = (ks, st') := by
     cases M with
     | zero => exact hq.symm
     | succ M => unfold cascF at hq; rw [hM, if_neg (by decide)] at hq; exact hq.symm
    subst hq2
    clear HQ hq hM
    go_wp2_with fail
    refine HS.out.mono ?_
    rintro e w4 ⟨rfl, row4, h4, k4⟩
    have HM4 := hid (HI.out.keepI k4 HM.out)
    have HI4 := hid h4.unres
    have HK4 := hid (HK.out.trans k4)
    clear h4 k4 HS HM HI HK
    go_wp2_with fail
    refine (addK R hi d st' row4 10 noT A ks.length c ks false w.heap.size w4 HI4.out HM4.out HLo.out).mono ?_
    rintro e w5 ⟨rfl, row5, h5, k5⟩
    go_wp2
    go_ret
    exact ⟨rfl, row5, h5, HK4.out.trans k5⟩
 ·rw [if_neg (by rw [hM]; decide)]
  have HMh := hid hM
  clear hI hn hadv hlen hM hnP h1
  go_enter func216, ntmps216
  go_wp2_with fail
  refine pst (HP.out) HK0 ?_
  intro w1 row1 HI1 HK1
  go_wp2_with fail
  refine (is_any R hi d st1 row1 ⟨#[46, 46]⟩ w1 HI1.out).mono ?_
  rw [HMh.out]
  rintro e w2 ⟨rfl, h2⟩
  go_wp2
  go_ret
  exact ⟨rfl, row1, HI1.out.next h2, HK1.out.below h2⟩
theorem end_step (R : RC) (hi : R.imp = true) (N f : Nat) (hN : R.n < N) (HE : EC R N f) (d : Nat) (st : RdSt) (row : Option Nat) (w : World) (hI : RdI R d st row w) (hn : Need R.n st 2 (f + 1)) (hd : d + (f + 1) ≤ 100000) :
  Calls prog 247 #[.pointer (some ⟨R.T, 0, none⟩)] w (Does R d row w (.int .i64 (endS R.sg (exprF R.sg N f) N d st).1) (endS R.sg (exprF R.sg N f) N d st).2) := by
 have HI0 := hid hI
 have HK0 := hid (Kr.refl R.T row w)
 have hnP := hn.same (r' := 1) (by omega) (Adv.refl st)
 have HP := hid (HE.base R.U d st row w hI hnP (by omega))
 have hadv := adv_expr (sg := R.sg) (N := N) f .base d st
 have HA := hid (fun st => adv_expr (sg := R.sg) (N := N) f .value d st)
 have hlen := hI.ok.len
 unfold Does at HP ⊢
 unfold endS
 generalize exprF R.sg N f .base d st = r at HP hadv ⊢
 obtain ⟨k0, st1⟩ := r
 dsimp only at HP hadv ⊢
 have HO : Hid (∀ s, st = some s → s.at_ < R.n → OneC R 216 d (s.at_ + 1) (exprF R.sg N f .value d)) := (show ∀ s, _ → _ → _ from fun s e hlt => HE.one (d := d) (by omega) (by rw [← e]; exact hn) hlt)
 have HAD0 := hid hadv
 obtain ⟨Q, hQ⟩ : ∃ Q, endF R.sg (exprF R.sg N f .value d) N N k0 st1 = Q := ⟨_, rfl⟩
 rw [hQ]
 have HQ := hid hQ
 generalize exprF R.sg N f .value d = one at HO HA HQ
 have hF1 := fld1
 clear hI hn hadv hnP hQ
 go_enter func247, ntmps247
 go_wp2_with fail
 refine pst (HP.out) HK0 ?_
 intro w1 row1 HI1 HK1
 go_upto_region 2 with fail
 go_loopw [3] (fun v wr => ∃ (M : Nat) (k : Int) (st' : RdSt) (row' : Option Nat), v = .int .i64 k ∧ Hid (endF R.sg one N M k st' = Q) ∧ Hid (Adv 1 1 st st') ∧ Hid (Enough R.n M st') ∧ Hid (RdI R d st' row' wr) ∧ Hid (Kr R.T row w row' wr)) (fun _ wr => measI R wr)
 case atStart => exact ⟨N, k0, st1, row1, rfl, HQ, HAD0, (show Enough _ _ _ from enough_of hN _), HI1, HK1⟩
 case round =>
  clear HQ HAD0 HI0 HI1 HK0 HK1 HP
  obtain ⟨M, k, st', row', rfl, HQ, HAD, HEn, HI, HK⟩ := hrel
  cases st' with
  | none =>
   obtain ⟨a, b, AN, cN, l, hc, hb, hrow⟩ := HI.out
   obtain ⟨c0, c2, c3, c4, c5, cf, cz⟩ := hc.ci hi
   obtain rfl : b = true := hb
   have hq := HQ.out
   rw [endF_none] at hq
   subst hq
   clear hc c0 c2 c3 c5 hrow HQ
   go_wp2
   go_ret
   exact ⟨rfl, row', HI.out, HK.out⟩
  | some s' =>
   obtain ⟨s, es, ha, hnd⟩ := HAD.out s' rfl
   obtain ⟨M, rfl⟩ : ∃ M', M = M' + 1 := ⟨M - 1, by
    have h1 := HEn.out s' rfl
    have h2 := (HI.out.le rfl).1
    omega⟩
   have hle' := (HI.out.le rfl).1
   have HO2 := hid (HO.out s es (by omega))
   have HLB : Hid (LoB (s.at_ + 1) (some s')) := (show LoB _ _ from fun t' e => by obtain rfl := Option.some.inj e; omega)
   obtain ⟨a, b, AN, cN, l, hc, hb, hrow⟩ := HI.out
   obtain ⟨c0, c2, c3, c4, c5, cf, cz⟩ := hc.ci hi
   obtain ⟨rfl, _, _⟩ := hb
   have HIs := hid (is_any R hi d (some s') row' ⟨#[40]⟩ wr HI.out)
   have hq := HQ.out
   unfold endF at hq
   rw [if_neg (show ¬ (some s').isNone = true by simp)] at hq
   clear hc c0 c2 c3 c5 hrow HQ es ha hnd
   rcases bft (isM R.sg (some s') ⟨#[40]⟩) with hM | hM
   ·rw [hM] at HIs
    rw [if_pos hM] at hq
    have hadv2 := adv_call (sg := R.sg) HA.out N k (some s')
    have HC := hid (fun (row : Option Nat) (W : World) h => call_any R hi d (s.at_ + 1) one HO2 HA.out N k (some s') row W h HLB.out hN)
    unfold Does at HC
    generalize callS R.sg one N k (some s') = r3 at hq hadv2 HC
    obtain ⟨kc, st3⟩ := r3
    dsimp only at hq hadv2 HC
    have HQ2 := hid hq
    have HAD2 := hid hadv2
    have HAN : Hid (Enough R.n M st3) := HEn.out.adv (i := 0) hadv2
    have HAL : Hid (Adv 1 1 st st3) := (HAD.out.trans hadv2).weak (by omega) (by omega)
    clear hq hM hadv2
    go_wp2_with fail
    refine HIs.out.mono ?_
    rintro e w2 ⟨rfl, g2⟩
    have HI2 := hid (HI.out.next g2)
    have HK2 := hid (HK.out.below g2)
    clear g2 HIs c4 cf cz
    go_wp2_with fail
    refine (HC.out _ _ HI2.out).mono ?_
    rintro e w3 ⟨rfl, row3, h3, k3⟩
    have HI3 := hid h3
    have HK3 := hid (HK2.out.trans k3)
    clear h3 k3
    go_wp2
    go_roundw
    case rel => exact ⟨M, kc, st3, row3, rfl, HQ2, HAL, HAN, HI3, HK3⟩
    case measure => exact meas_less hi HI.out HI3.out (HAD2.out.weak (i' := 1) (j' := 0) (by omega) (by omega))
   ·rw [hM] at HIs
    rw [if_neg (by rw [hM]; decide)] at hq
    have HS := hid (fun (W : World) h => skip_any R hi d (some s') row' ⟨#[46]⟩ W h)
    unfold Does at HS
    rcases bft (isM R.sg (some s') ⟨#[46]⟩) with hD | hD
    ·rw [hD, skipIf_yes hD] at HS
     rw [if_pos hD] at hq
     have HNx := hid (fun (row : Option Nat) (W : World) h => namesNext_any R hi d (skipS (some s')) row 0 W h (by omega))
     rcases bft (nameS R.sg (skipS (some s')) 0) with hNm | hNm
     ·rw [if_pos hNm] at hq
      rw [hNm] at HNx
      have hlt2 : ∀ t, skipS (some s') = some t → t.at_ < R.n := fun t e => by
       obtain ⟨t', e', hl⟩ := nameS_lt hNm
       rw [e] at e'
       obtain rfl := Option.some.inj e'
       omega
      have HX := hid (fun (row : Option Nat) (W : World) h => next_any R hi d (skipS (some s')) row W h)
      have hadv2 := ((adv_skip (some s')).trans (adv_add (skipS (some s')) ⟨6, (sgAt R.sg (skipS (some s')) 0).2.1, [k], false⟩)).trans (adv_skip _)
      generalize sgAt R.sg (skipS (some s')) 0 = x at hq HX hadv2
      obtain ⟨xk, xt, xp, xz⟩ := x
      dsimp only at hq HX hadv2
      have HLt : Hid (∀ t, (addS (skipS (some s')) ⟨6, xt, [k], false⟩).2 = some t → t.at_ < R.n) := (show ∀ t, _ → _ from fun t e => by
       rw [add_at (s := ⟨s'.at_ + 1, s'.nodes⟩) rfl e]
       exact hlt2 _ rfl)
      have HQ2 := hid hq
      have HAD2 := hid hadv2
      have HAN : Hid (Enough R.n M (skipS (addS (skipS (some s')) ⟨6, xt, [k], false⟩).2)) := HEn.out.adv (i := 1) hadv2
      have HAL : Hid (Adv 1 1 st (skipS (addS (skipS (some s')) ⟨6, xt, [k], false⟩).2)) := (HAD.out.trans hadv2).weak (by omega) (by omega)
      clear hq hM hD hNm hadv2 hlt2
      go_wp2_with fail
      refine HIs.out.mono ?_
      rintro e w2 ⟨rfl, g2⟩
      have HI2 := hid (HI.out.next g2)
      have HK2 := hid (HK.out.below g2)
      clear g2 HIs c4 cf cz
      go_wp2_with fail
      refine (HS.out _ HI2.out).mono ?_
      rintro e w3 ⟨rfl, row3, h3, k3⟩
      have HI3 := hid h3
      have HK3 := hid (HK2.out.trans k3)
      clear h3 k3 HS
      go_wp2_with fail
      refine (HNx.out _ _ HI3.out).mono ?_
      rintro e w4 ⟨rfl, g4⟩
      have HI4 := hid (HI3.out.next g4)
      have HK4 := hid (HK3.out.below g4)
      clear g4 HNx
      go_wp2_with fail
      refine (HX.out _ _ HI4.out).mono ?_
      rintro e w5 ⟨rfl, g5⟩
      have HI5 := hid (HI4.out.next g5)
      have HK5 := hid (HK4.out.below g5)
      clear g5 HX
      have HLo5 := hid HI5.out.lo
      go_wp2_with fail
      refine pst (addK R hi d (skipS (some s')) row3 6 xt (some ⟨w5.heap.size, 0, none⟩) 1 1 [k] false w5.heap.size _ (HI5.out.alloc _) (kid1 w5 k) HLo5.out) HK5 ?_
      intro w6 row6 HI6 HK6
      go_wp2_with fail
      refine pst (pass_any R hi d _ row6 w6 HI6.out HLt.out) HK6 ?_
      intro w7 row7 HI7 HK7
      go_wp2
      go_roundw
      case rel => exact ⟨M, _, _, row7, rfl, HQ2, HAL, HAN, HI7, HK7⟩
      case measure => exact meas_less hi HI.out HI7.out (HAD2.out.weak (i' := 1) (j' := 0) (by omega) (by omega))
     ·rw [if_neg (by rw [hNm]; decide)] at hq
      rw [hNm] at HNx
      subst hq
      clear hM hD hNm
      go_wp2_with fail
      refine HIs.out.mono ?_
      rintro e w2 ⟨rfl, g2⟩
      have HI2 := hid (HI.out.next g2)
      have HK2 := hid (HK.out.below g2)
      clear g2 HIs c4 cf cz
      go_wp2_with fail
      refine (HS.out _ HI2.out).mono ?_
      rintro e w3 ⟨rfl, row3, h3, k3⟩
      have HI3 := hid h3
      have HK3 := hid (HK2.out.trans k3)
      clear h3 k3 HS
      go_wp2_with fail
      refine (HNx.out _ _ HI3.out).mono ?_
      rintro e w4 ⟨rfl, g4⟩
      obtain ⟨a, b, AN, cN, l, hc, hst, hrow⟩ := HI3.out.next g4
      obtain ⟨c0, c2, c3, c4, c5, cf, cz⟩ := hc.ci hi
      have HF := hid (RdI.bad1 hi hc hrow)
      have HK4 := hid (HK3.out.below g4)
      clear hc hst hrow c0 c2 c3 c5 g4
      go_wp2
      go_ret
      exact ⟨rfl, row3, HF.out.1, HK4.out.trans HF.out.2⟩
    ·rw [hD, skipIf_no hD] at HS
     rw [if_neg (by rw [hD]; decide)] at hq
     subst hq
     clear hM hD
     go_wp2_with fail
     refine HIs.out.mono ?_
     rintro e w2 ⟨rfl, g2⟩
     have HI2 := hid (HI.out.next g2)
     have HK2 := hid (HK.out.below g2)
     clear g2 HIs c4 cf cz
     go_wp2_with fail
     refine (HS.out _ HI2.out).mono ?_
     rintro e w3 ⟨rfl, row3, h3, k3⟩
     go_wp2
     go_ret
     exact ⟨rfl, row3, h3, HK2.out.trans k3⟩
theorem listTo_nu {R : RC} (U : Nat → Prop) (hi : R.imp = true) (d : Nat) (st : RdSt) (row : Option Nat) (m : ByteArray) (N : Nat) (w : World) (hI : RdI { R with U := U } d st row w) (hN : R.n < N) :
  Calls prog 179 #[.pointer (some ⟨R.T, 0, none⟩), .string m, .func (.func 180) #[.pointer (some ⟨R.T, 0, none⟩)] #[]] w fun e w' => ∃ (A : Option Addr) (c : Nat), e = .returned (.slice A (listF R.sg (nameNodeS R.sg) m N [] st).1.length c) ∧ Mine w' w.heap.size 3 1 A (listF R.sg (nameNodeS R.sg) m N [] st).1.length c (intCells (listF R.sg (nameNodeS R.sg) m N [] st).1) ∧ (listF R.sg (nameNodeS R.sg) m N [] st).1.length ≤ 301 ∧ ∃ row', RdI (({ R with U := U } : RC).res A) d (listF R.sg (nameNodeS R.sg) m N [] st).2 row' w' ∧ Kr R.T row w row' w' :=
 listTo_name { R with U := U } hi d 0 (nameNodeS R.sg) (show OneC _ _ _ _ _ from fun U st row w h _ => nameNode_any { R with U := U } hi d st row w h) adv_nameNode m N st row w hI (fun s _ => Nat.zero_le _) (enough_of hN _)
theorem fn_step (R : RC) (hi : R.imp = true) (N f : Nat) (hN : R.n < N) (HE : EC R N f) (d : Nat) (st : RdSt) (row : Option Nat) (w : World) (hI : RdI R d st row w) (s : PS) (hs : st = some s) (hlt : s.at_ < R.n) (hn : Need R.n st 1 (f + 1)) (hd : d + (f + 1) ≤ 100000) :
  Calls prog 252 #[.pointer (some ⟨R.T, 0, none⟩)] w (Does R d row w (.int .i64 (fnS R.sg (exprF R.sg N f) N d st).1) (fnS R.sg (exprF R.sg N f) N d st).2) := by
 obtain ⟨i0, hi0, hz0, hz1, hz2⟩ := info_parts infoInt
 have HII := hid (And.intro hi0 (And.intro hz0 (And.intro hz1 hz2)))
 clear hi0 hz0 hz1 hz2
 have HI0 := hid hI
 have HK0 := hid (Kr.refl R.T row w)
 have HLo := hid hI.lo
 subst hs
 unfold Does fnS
 dsimp only
 have HL := hid (fun (row : Option Nat) (W : World) h => listTo_nu R.U hi d (takeS R.sg (some s) ⟨#[40]⟩) row ⟨#[41]⟩ N W h hN)
 have hadv := ((adv_take (sg := R.sg) (some s) ⟨#[40]⟩).trans (adv_list (sg := R.sg) (adv_nameNode (sg := R.sg)) ⟨#[41]⟩ N [] (takeS R.sg (some s) ⟨#[40]⟩)).2)
 generalize listF R.sg (nameNodeS R.sg) ⟨#[41]⟩ N [] (takeS R.sg (some s) ⟨#[40]⟩) = q at HL hadv ⊢
 obtain ⟨ks, st2⟩ := q
 dsimp only at HL hadv ⊢
 have hadv4 := (hadv.trans (adv_take (sg := R.sg) _ ⟨#[41]⟩)).trans (adv_take (sg := R.sg) _ ⟨#[61, 62]⟩)
 have HP := hid (fun (U : Nat → Prop) (row : Option Nat) (W : World) h => HE.pick U d (takeS R.sg (takeS R.sg st2 ⟨#[41]⟩) ⟨#[61, 62]⟩) row W h (hn.next hlt (hadv4.weak (i' := 1) (j' := 0) (by omega) (by omega)) (by omega)) (by omega))
 unfold Does at HP
 generalize exprF R.sg N f .pick d (takeS R.sg (takeS R.sg st2 ⟨#[41]⟩) ⟨#[61, 62]⟩) = r at HP ⊢
 obtain ⟨k, st5⟩ := r
 dsimp only at HP ⊢
 clear hI hn hadv hadv4
 go_enter func252, ntmps252
 go_wp2_with fail
 refine pst (take_any R hi d (some s) row ⟨#[40]⟩ w HI0.out) HK0 ?_
 intro w1 row1 HI1 HK1
 go_wp2_with fail
 refine (HL.out _ _ HI1.out).mono ?_
 rintro e w2 ⟨A, c, rfl, m2, hle, row2, h2, k2⟩
 have HK2 := keep_kr HK1 k2
 have HI2 := hid h2
 have hz1 := HK1.out.size
 have HM := hid (m2.more (B' := w.heap.size) hz1)
 clear h2 k2 m2 HL
 go_wp2_with fail
 refine (take_u _ hi d st2 row2 ⟨#[41]⟩ w2 HI2.out).mono ?_
 rintro e w3 ⟨rfl, row3, h3, k3⟩
 have HM3 := hid (HI2.out.keepI k3 HM.out)
 have HI3 := hid h3
 have HK3 := hid (HK2.out.trans k3)
 clear h3 k3 HM
 go_wp2_with fail
 refine (take_u _ hi d _ row3 ⟨#[61, 62]⟩ w3 HI3.out).mono ?_
 rintro e w4 ⟨rfl, row4, h4, k4⟩
 have HM4 := hid (HI3.out.keepI k4 HM3.out)
 have HI4 := hid h4
 have HK4 := hid (HK3.out.trans k4)
 clear h4 k4 HM3
 go_wp2_with fail
 refine (HP.out _ _ _ HI4.out).mono ?_
 rintro e w5 ⟨rfl, row5, h5, k5⟩
 have HM5 := hid (HI4.out.keepI k5 HM4.out)
 have HI5 := hid h5
 have HK5 := hid (HK4.out.trans k5)
 clear h5 k5 HM4 HP
 have hz6 := HK5.out.size
 have HB0 := hid HLo.out.1
 have hlk : (ks ++ [k]).length = ks.length + 1 := by simp
 go_wp2_with (at_builtin; (refine wpList_append_row _ rfl (.tmp 18) (.tmp 20) _ rfl w.heap.size 3 i0 (.int .i64 0) 1 8 underlying34 HII.out.1 HII.out.2.1 HII.out.2.2.1 HII.out.2.2.2 rfl (by decide) (.slice A ks.length c) ks.length (intCells ks) rfl (Mine.alloc HM5.out _) ⟨w5.heap.size, 0, none⟩ 1 1 [.int .i64 k] rfl rfl (int_new _ k _) (int_one _) (by unfold maxLen; omega) (by omega) (by simp; omega) ?_); intro v' w7 hown7 hg7 hwh7; obtain ⟨A7, c7, rfl, h7, m7⟩ := RdI.appended HI5.out HM5.out HB0.out ((Below.refl _ _).alloc (Nat.le_refl _) _) hown7 hg7 hwh7)
 have HK7 := hid ((HK5.out.below ((Below.refl _ _).alloc (Nat.le_refl _) _)).grown hg7 (fun g hg => by rw [ownBlk] at hg; exact (Mine.blk HM5.out hg).1))
 rw [← ints_snoc] at m7
 have HI7 := hid h7.unres
 have HM7 := hid m7
 clear hown7 hg7 hwh7 h7 m7
 have hA := addK R hi d st5 row5 9 noT A7 (ks.length + 1) c7 (ks ++ [k]) false w.heap.size w7 HI7.out HM7.out HLo.out
 unfold Does at hA
 have HAd := hid hA
 clear hA
 go_wp2_with fail
 refine HAd.out.mono ?_
 rintro e w8 ⟨rfl, row8, h8, k8⟩
 go_wp2
 go_ret
 exact ⟨rfl, row8, h8, HK7.out.trans k8⟩
theorem base_step (R : RC) (hi : R.imp = true) (N f : Nat) (hN : R.n < N) (HE : EC R N f) (d : Nat) (st : RdSt) (row : Option Nat) (w : World) (hI : RdI R d st row w) (hn : Need R.n st 1 (f + 1)) (hd : d + (f + 1) ≤ 100000) :
  Calls prog 250 #[.pointer (some ⟨R.T, 0, none⟩)] w (Does R d row w (.int .i64 (baseS R.sg (exprF R.sg N f) N d st).1) (baseS R.sg (exprF R.sg N f) N d st).2) := by
 have HI0 := hid hI
 have HK0 := hid (Kr.refl R.T row w)
 have HX := hid (next_any R hi d st row w hI)
 have hkz : st = none → (sgAt R.sg st 0).1 = 0 := fun e => by rw [e]; rfl
 have hln : ∀ s, st = some s → (sgAt R.sg st 0).1 ≠ 0 → s.at_ < R.n := fun s e h => by
  rcases Nat.lt_or_ge s.at_ R.sg.length with hl | hl
  ·rw [← hI.ok.len]; exact hl
  ·exact absurd (by rw [e, sgAt_out (i := 0) hl]) h
 have hM4 : ∀ m, isM R.sg st m = true → (sgAt R.sg st 0).1 = 4 := fun m h => by unfold isM at h; simp only [Bool.and_eq_true] at h; exact eq_of_beq h.1
 have hIs := fun m => (show isM R.sg st m = (((sgAt R.sg st 0).1 == 4) && ((sgAt R.sg st 0).2.1.toList == m.toList)) from rfl)
 unfold Does
 unfold baseS
 generalize hx : sgAt R.sg st 0 = x at HX hkz hln hM4 hIs ⊢
 obtain ⟨kd, xt, xp, xz⟩ := x
 dsimp only at HX hkz hln hM4 hIs ⊢
 have hb0 : ∀ w1, Below w.heap.size w w1 → Below w.heap.size w (w1.alloc (.cells #[.int .i64 kd, .string xt, .int .i64 xp, .bool xz] 68)) := fun w1 h => h.alloc h.size _
 by_cases h1 : kd = 1
 ·rw [if_pos h1]
  subst h1
  have HP := hid (fun (row : Option Nat) (W : World) h => nameNode_any R hi d st row W h)
  unfold Does at HP
  generalize nameNodeS R.sg st = r at HP ⊢
  obtain ⟨k, st2⟩ := r
  dsimp only at HP ⊢
  clear hI hn hkz hln hM4 hIs hx
  go_enter func250, ntmps250
  go_wp2_with fail
  refine rst (HX.out) HI0 HK0 ?_
  intro w1 HI1 HK1
  go_wp2_with fail
  refine pst (HP.out _ _ (HI1.out.alloc _)) HK1 ?_
  intro w2 row2 HI2 HK2
  go_wp2
  go_ret
  exact ⟨rfl, row2, HI2.out, HK2.out⟩
 ·rw [if_neg h1]
  have h1' : (kd == 1) = false := by rw [beq_eq_false_iff_ne]; exact h1
  by_cases h2 : kd = 2
  ·rw [if_pos h2]
   subst h2
   have HP := hid (fun (row : Option Nat) (W : World) h => addLeaf_any R hi d st row 2 W h (fun s e => hln s e (by decide)))
   unfold Does at HP
   generalize leafS R.sg 2 st = r at HP ⊢
   obtain ⟨k, st2⟩ := r
   dsimp only at HP ⊢
   clear hI hn hkz hln hM4 hIs hx h1 h1'
   go_enter func250, ntmps250
   go_wp2_with fail
   refine rst (HX.out) HI0 HK0 ?_
   intro w1 HI1 HK1
   go_wp2_with fail
   refine pst (HP.out _ _ (HI1.out.alloc _)) HK1 ?_
   intro w2 row2 HI2 HK2
   go_wp2
   go_ret
   exact ⟨rfl, row2, HI2.out, HK2.out⟩
  ·rw [if_neg h2]
   have h2' : (kd == 2) = false := by rw [beq_eq_false_iff_ne]; exact h2
   by_cases h3 : kd = 3
   ·rw [if_pos h3]
    subst h3
    have HP := hid (fun (row : Option Nat) (W : World) h => addLeaf_any R hi d st row 3 W h (fun s e => hln s e (by decide)))
    unfold Does at HP
    generalize leafS R.sg 3 st = r at HP ⊢
    obtain ⟨k, st2⟩ := r
    dsimp only at HP ⊢
    clear hI hn hkz hln hM4 hIs hx h1 h1' h2 h2'
    go_enter func250, ntmps250
    go_wp2_with fail
    refine rst (HX.out) HI0 HK0 ?_
    intro w1 HI1 HK1
    go_wp2_with fail
    refine pst (HP.out _ _ (HI1.out.alloc _)) HK1 ?_
    intro w2 row2 HI2 HK2
    go_wp2
    go_ret
    exact ⟨rfl, row2, HI2.out, HK2.out⟩
   ·rw [if_neg h3]
    have h3' : (kd == 3) = false := by rw [beq_eq_false_iff_ne]; exact h3
    have HS := hid (fun (m : ByteArray) (row : Option Nat) (W : World) h => skip_any R hi d st row m W h)
    unfold Does at HS
    rcases bft (isM R.sg st ⟨#[91]⟩) with hM | hM
    ·rw [if_pos hM]
     have hsk := skipIf_yes hM
     obtain ⟨s, es, hlt⟩ := isM_lt hM
     subst es
     have hsn : s.at_ < R.n := by rw [← hI.ok.len]; exact hlt
     unfold listS
     dsimp only
     have HO := hid (HE.one (d := d) (by omega) hn hsn)
     have HA := (fun st => adv_expr (sg := R.sg) (N := N) f .value d st)
     have HLB : LoB (s.at_ + 1) (skipS (some s)) := fun t e => by obtain rfl := Option.some.inj e; exact Nat.le_refl _
     have HL := hid (fun (row : Option Nat) (W : World) h => listTo_value R hi d (s.at_ + 1) (exprF R.sg N f .value d) HO HA ⟨#[93]⟩ N (skipS (some s)) row W h HLB (enough_of hN _))
     unfold ListR at HL
     generalize listF R.sg (exprF R.sg N f .value d) ⟨#[93]⟩ N [] (skipS (some s)) = q at HL ⊢
     obtain ⟨ks, st3⟩ := q
     dsimp only at HL ⊢
     have HMh := hid hM
     have HSk := hid hsk
     have HLo := hid hI.lo
     clear hI hn hkz hln hM4 hIs hx h1 h2 h3 HA HLB hM hsk hlt HO
     go_enter func250, ntmps250
     go_wp2_with fail
     refine rst (HX.out) HI0 HK0 ?_
     intro w1 HI1 HK1
     go_wp2_with fail
     refine (HS.out ⟨#[91]⟩ _ _ (HI1.out.alloc _)).mono ?_
     rw [HMh.out, HSk.out]
     rintro e w2 ⟨rfl, row2, h2, k2⟩
     have HK2 := keep_kr HK1 k2
     have HI2 := hid h2
     clear h2 k2
     have hz2 := HK2.out.size
     go_wp2_with fail
     refine (HL.out _ _ HI2.out).mono ?_
     rintro e w3 ⟨A, c, rfl, m3, hle, row3, h3, k3⟩
     have HK3 := keep_kr HK2 k3
     have HI3 := hid h3.unres
     have HM3 := hid (m3.more (B' := w.heap.size) hz2)
     clear h3 k3 m3
     have hA := close_any R hi d st3 row3 ⟨#[93]⟩ 4 noT A ks.length c ks false w.heap.size w3 HI3.out HM3.out HLo.out
     unfold Does at hA
     have HAd := hid hA
     clear hA
     go_wp2_with fail
     refine HAd.out.mono ?_
     rintro e w4 ⟨rfl, row4, h4, k4⟩
     go_wp2
     go_ret
     exact ⟨rfl, row4, h4, HK3.out.trans k4⟩
    ·rw [if_neg (by rw [hM]; decide)]
     have HMh := hid hM
     have HSk := hid (skipIf_no hM)
     have HQ := hid (fun (row : Option Nat) (W : World) h => is_any R hi d st row ⟨#[40]⟩ W h)
     rcases bft (isM R.sg st ⟨#[40]⟩) with hB | hB
     ·rw [if_pos hB]
      rw [hB] at HQ
      have hsk := skipIf_yes hB
      obtain ⟨s, es, hlt⟩ := isM_lt hB
      subst es
      have hsn : s.at_ < R.n := by rw [← hI.ok.len]; exact hlt
      have HFn := hid (fun (row : Option Nat) (W : World) h => fnNext_any R hi d (some s) row W h)
      rcases bft (fnB R.sg (some s)) with hF | hF
      ·rw [if_pos hF]
       rw [hF] at HFn
       have HP := hid (fun (row : Option Nat) (W : World) h => fn_step R hi N f hN HE d (some s) row W h s rfl hsn hn hd)
       unfold Does at HP
       generalize fnS R.sg (exprF R.sg N f) N d (some s) = r at HP ⊢
       obtain ⟨k, st9⟩ := r
       dsimp only at HP ⊢
       clear hI hn hkz hln hM4 hIs hx h1 h2 h3 hM hB hsk hlt hF
       go_enter func250, ntmps250
       go_wp2_with fail
       refine rst (HX.out) HI0 HK0 ?_
       intro w1 HI1 HK1
       go_wp2_with fail
       refine (HS.out ⟨#[91]⟩ _ _ (HI1.out.alloc _)).mono ?_
       rw [HMh.out, HSk.out]
       rintro e w2 ⟨rfl, row2, h2, k2⟩
       have HK2 := keep_kr HK1 k2
       have HI2 := hid h2
       clear h2 k2
       go_wp2_with fail
       refine rst (HQ.out _ _ HI2.out) HI2 HK2 ?_
       intro w3 HI3 HK3
       go_wp2_with fail
       refine rst (HFn.out _ _ HI3.out) HI3 HK3 ?_
       intro w4 HI4 HK4
       go_wp2_with fail
       refine pst (HP.out _ _ HI4.out) HK4 ?_
       intro w5 row5 HI5 HK5
       go_wp2
       go_ret
       exact ⟨rfl, row5, HI5.out, HK5.out⟩
      ·rw [if_neg (by rw [hF]; decide)]
       rw [hF] at HFn
       unfold parS
       dsimp only
       have HP := hid (fun (row : Option Nat) (W : World) h => HE.value R.U d (skipS (some s)) row W h (hn.next hsn (adv_skip _) (by omega)) (by omega))
       unfold Does at HP
       generalize exprF R.sg N f .value d (skipS (some s)) = r at HP ⊢
       obtain ⟨k, st9⟩ := r
       dsimp only at HP ⊢
       have HBh := hid hB
       have HSk2 := hid hsk
       clear hI hn hkz hln hM4 hIs hx h1 h2 h3 hM hB hsk hlt hF
       go_enter func250, ntmps250
       go_wp2_with fail
       refine rst (HX.out) HI0 HK0 ?_
       intro w1 HI1 HK1
       go_wp2_with fail
       refine (HS.out ⟨#[91]⟩ _ _ (HI1.out.alloc _)).mono ?_
       rw [HMh.out, HSk.out]
       rintro e w2 ⟨rfl, row2, h2, k2⟩
       have HK2 := keep_kr HK1 k2
       have HI2 := hid h2
       clear h2 k2
       go_wp2_with fail
       refine rst (HQ.out _ _ HI2.out) HI2 HK2 ?_
       intro w3 HI3 HK3
       go_wp2_with fail
       refine rst (HFn.out _ _ HI3.out) HI3 HK3 ?_
       intro w4 HI4 HK4
       go_wp2_with fail
       refine (HS.out ⟨#[40]⟩ _ _ HI4.out).mono ?_
       rw [HBh.out, HSk2.out]
       rintro e w5 ⟨rfl, row5, h5, k5⟩
       have HK5 := keep_kr HK4 k5
       have HI5 := hid h5
       clear h5 k5
       go_wp2_with fail
       refine pst (HP.out _ _ HI5.out) HK5 ?_
       intro w6 row6 HI6 HK6
       have HLo6 := hid HI6.out.lo
       go_wp2_with fail
       refine pst (close_any R hi d st9 row6 ⟨#[41]⟩ 11 noT (some ⟨w6.heap.size, 0, none⟩) 1 1 [k] false w6.heap.size _ (HI6.out.alloc _) (kid1 w6 k) HLo6.out) HK6 ?_
       intro w7 row7 HI7 HK7
       go_wp2
       go_ret
       exact ⟨rfl, row7, HI7.out, HK7.out⟩
     ·rw [if_neg (by rw [hB]; decide)]
      rw [hB] at HQ
      have HBh := hid hB
      have HSk2 := hid (skipIf_no hB)
      clear hI hn hkz hln hM4 hIs hx h1 h2 h3 hM hB
      go_enter func250, ntmps250
      go_wp2_with fail
      refine rst (HX.out) HI0 HK0 ?_
      intro w1 HI1 HK1
      go_wp2_with fail
      refine (HS.out ⟨#[91]⟩ _ _ (HI1.out.alloc _)).mono ?_
      rw [HMh.out, HSk.out]
      rintro e w2 ⟨rfl, row2, h2, k2⟩
      have HK2 := keep_kr HK1 k2
      have HI2 := hid h2
      clear h2 k2
      go_wp2_with fail
      refine rst (HQ.out _ _ HI2.out) HI2 HK2 ?_
      intro w3 HI3 HK3
      go_wp2_with fail
      refine (HS.out ⟨#[40]⟩ _ _ HI3.out).mono ?_
      rw [HBh.out, HSk2.out]
      rintro e w4 ⟨rfl, row4, h4, k4⟩
      have HK4 := keep_kr HK3 k4
      obtain ⟨a, b, AN, cN, l, hc, hst, hrow⟩ := h4
      obtain ⟨c0, c2, c3, c4, c5, cf, cz⟩ := hc.ci hi
      have HF := hid (RdI.bad1 hi hc hrow)
      clear hc hst hrow c0 c2 c3 c5 k4
      go_wp2
      go_ret
      exact ⟨rfl, row4, HF.out.1, HK4.out.trans HF.out.2⟩
section
variable {R : RC} {d : Nat} {st : RdSt} {row row' row0 : Option Nat} {w w' w0 : World} {g : Nat} {cs : Array Value}
theorem RdI.setBox (h : RdI R d st row w) (K : Blk w g 36 cs) (h2 : some g ≠ row) (hg : R.w0.heap.size ≤ g) (i : Nat) (u : Value) : RdI R d st row (w.setCell ⟨g, i, none⟩ u) := by
 obtain ⟨a, b, AN, cN, l, ⟨c1, c2, c3, c4, c5, c6, c7⟩, hst, hr⟩ := h
 refine ⟨a, b, AN, cN, l, ⟨c1.far (blk_ne c1 K R.ty_node) u, ?_, ⟨fun x hx => ⟨(c3.1 x hx).1, mine_set (c3.1 x hx).2 K (by decide) _ _⟩, fun g hg => by simpa [World.setCell] using c3.2 g hg⟩, c4, c5, c6.setCell hg _, c7⟩, hst, hr⟩
 have hl2 := c2.len
 rcases c2.own with ⟨e1, e2, e3⟩ | ⟨g', e1, hB', hn, hcc, rest, hb', hs⟩
 ·rw [e1, e2, e3]; exact ⟨by rw [hl2, e2], .inl ⟨rfl, rfl⟩⟩
 ·rw [e1]
  refine Mine.mk_own ⟨rest, hb'.far (fun e => ?_) u, hs⟩ hl2 hB' hn hcc
  have e' : g' = g := e
  apply h2
  rw [hr, e1, e']; rfl
theorem Kr.setBox {T : Nat} (h : Kr T row0 w0 row w) (hg : w0.heap.size ≤ g) (i : Nat) (u : Value) : Kr T row0 w0 row (w.setCell ⟨g, i, none⟩ u) :=
 ⟨Nat.le_trans h.1 (by simp [World.setCell]), h.2.1, fun q hq ht hr => (Below.heap_setCell w ⟨g, i, none⟩ u q (by show q ≠ g; omega)).trans (h.2.2 q hq ht hr)⟩
theorem size_set (w : World) (p : Addr) (u : Value) : (w.setCell p u).heap.size = w.heap.size := by simp [World.setCell]
theorem keep_box {T : Nat} {t : TypeId} (K : Blk w g t cs) (k : Kr T row w row' w') (h1 : g ≠ T) (h2 : some g ≠ row) : Blk w' g t cs ∧ some g ≠ row' :=
 ⟨K.kr k h1 h2, k.fresh h2 K.lt⟩
theorem row_fresh (h : RdI R d st row w) : some w.heap.size ≠ row := fun e => by have := h.row_lt e; omega
end
theorem variable_step (R : RC) (hi : R.imp = true) (N f : Nat) (HE : EC R N f) (d : Nat) (b : Bool) (s : PS) (row : Option Nat) (w : World) (hI : RdI R d (some s) row w) (hlt : s.at_ < R.n) {r : Nat} (hn : Need R.n (some s) r (f + 1)) (hd : d + f ≤ 100000) :
  Calls prog 175 #[.pointer (some ⟨R.T, 0, none⟩), .bool b] w (Does R d row w (.int .i64 (varS R.sg (exprF R.sg N f) d b (skipS (some s))).1) (varS R.sg (exprF R.sg N f) d b (skipS (some s))).2) := by
 have HI0 := hid hI
 have HK0 := hid (Kr.refl R.T row w)
 have HLo := hid hI.lo
 have HL := hid (fun t (e : (some s) = some t) => show t.at_ < R.n by obtain rfl := Option.some.inj e; exact hlt)
 have HNm := hid (fun (row : Option Nat) (W : World) h => name_any R hi d (skipS (some s)) row W h)
 unfold Does at HNm ⊢
 unfold varS
 dsimp only
 have hadv := (adv_skip (some s)).trans (adv_nm (sg := R.sg) (skipS (some s)))
 generalize nmT R.sg (skipS (some s)) = nt at HNm ⊢
 generalize nmS R.sg (skipS (some s)) = st2 at HNm hadv ⊢
 have HS := hid (fun (row : Option Nat) (W : World) h => skip_any R hi d st2 row ⟨#[61]⟩ W h)
 unfold Does at HS
 rcases bft (isM R.sg st2 ⟨#[61]⟩) with hM | hM
 ·rw [if_pos hM]
  have HMh := hid hM
  have HSk := hid (skipIf_yes hM)
  have HP := hid (fun (row : Option Nat) (W : World) h => HE.value R.U d (skipS st2) row W h (hn.next hlt (hadv.trans (adv_skip _)) (by omega)) hd)
  unfold Does at HP
  generalize exprF R.sg N f .value d (skipS st2) = r4 at HP ⊢
  obtain ⟨k, st4⟩ := r4
  dsimp only at HP ⊢
  clear hI hn hM hadv hlt
  go_enter func175, ntmps175
  go_wp2_with fail
  refine pst (pass_any R hi d (some s) row w HI0.out HL.out) HK0 ?_
  intro w1 row1 HI1 HK1
  go_wp2_with fail
  refine pst (HNm.out _ _ HI1.out) HK1 ?_
  intro w2 row2 HI2 HK2
  have hz2 := HK2.out.size
  have hT2 := HI2.out.lt
  have hrow2 := row_fresh HI2.out
  have K2 := Blk.new w2 36 #[.int .i64 12, .string nt, .slice none 0 0, .bool b]
  go_wp2_with fail
  refine (HS.out _ _ (HI2.out.alloc _)).mono ?_
  rw [HMh.out, HSk.out]
  rintro e w3 ⟨rfl, row3, h3, k3⟩
  have HK3 := keep_kr HK2 k3
  have HI3 := hid h3
  obtain ⟨K3, hrow3⟩ := keep_box K2 k3 (by omega) hrow2
  clear h3 k3 K2
  go_wp2_with fail
  refine (HP.out _ _ HI3.out).mono ?_
  rintro e w4 ⟨rfl, row4, h4, k4⟩
  have HK4 := keep_kr HK3 k4
  have HI4 := hid h4
  obtain ⟨K4, hrow4⟩ := keep_box K3 k4 (by omega) hrow3
  clear h4 k4 K3
  have HI5 := hid (HI4.out.setBox K4 hrow4 (Nat.le_trans HLo.out.1 hz2) 2 (.slice (some ⟨w4.heap.size, 0, none⟩) 1 1))
  have HK5 := hid (HK4.out.setBox hz2 2 (.slice (some ⟨w4.heap.size, 0, none⟩) 1 1))
  have K5 := (K4.set_ 2 (.slice (some ⟨w4.heap.size, 0, none⟩) 1 1)).alloc (.cells #[.int .i64 k] 3)
  have hm := kid1 (w4.setCell ⟨w2.heap.size, 2, none⟩ (.slice (some ⟨w4.heap.size, 0, none⟩) 1 1)) k
  have hlo5 := HI5.out.lo
  rw [size_set] at hm hlo5
  have HM5 := hid hm
  have HLo5 := hid hlo5
  have j2 := K4.cell 2
  have jf := K4.frozen
  have jz := K4.lt
  have k0 := K5.cell 0
  have k1 := K5.cell 1
  have k2 := K5.cell 2
  have k3 := K5.cell 3
  simp only [List.setIfInBounds_toArray, List.set_cons_succ, List.set_cons_zero, List.getElem?_toArray, List.getElem?_cons_zero, List.getElem?_cons_succ] at k0 k1 k2 k3 j2
  clear K4 K5 hm hlo5
  go_wp2_with fail
  refine (close_any R hi d st4 row4 ⟨#[59]⟩ 12 nt (some ⟨w4.heap.size, 0, none⟩) 1 1 [k] b w4.heap.size _ (HI5.out.alloc _) HM5.out HLo5.out).mono ?_
  rintro e w6 ⟨rfl, row6, h6, k6⟩
  have HK6 := keep_kr HK5 k6
  go_wp2
  go_ret
  exact ⟨rfl, row6, h6, HK6.out⟩
 ·rw [if_neg (by rw [hM]; decide)]
  have HMh := hid hM
  have HSk := hid (skipIf_no hM)
  clear hI hn hM hadv hlt
  go_enter func175, ntmps175
  go_wp2_with fail
  refine pst (pass_any R hi d (some s) row w HI0.out HL.out) HK0 ?_
  intro w1 row1 HI1 HK1
  go_wp2_with fail
  refine pst (HNm.out _ _ HI1.out) HK1 ?_
  intro w2 row2 HI2 HK2
  have hz2 := HK2.out.size
  have hT2 := HI2.out.lt
  have hrow2 := row_fresh HI2.out
  have K2 := Blk.new w2 36 #[.int .i64 12, .string nt, .slice none 0 0, .bool b]
  go_wp2_with fail
  refine (HS.out _ _ (HI2.out.alloc _)).mono ?_
  rw [HMh.out, HSk.out]
  rintro e w3 ⟨rfl, row3, h3, k3⟩
  have HK3 := keep_kr HK2 k3
  have HI3 := hid h3
  obtain ⟨K3, hrow3⟩ := keep_box K2 k3 (by omega) hrow2
  have k0 := K3.q0
  have k1 := K3.q1
  have k2 := K3.q2
  have k3' := K3.q3
  clear h3 k3 K2 K3
  go_wp2_with fail
  refine (close_any R hi d st2 row3 ⟨#[59]⟩ 12 nt none 0 0 [] b w3.heap.size _ HI3.out (Mine.mk_nil _ _ _ _) HI3.out.lo).mono ?_
  rintro e w6 ⟨rfl, row6, h6, k6⟩
  have HK6 := keep_kr HK3 k6
  go_wp2
  go_ret
  exact ⟨rfl, row6, h6, HK6.out⟩
theorem leave_step (R : RC) (hi : R.imp = true) (N f : Nat) (HE : EC R N f) (d : Nat) (b : Bool) (s : PS) (row : Option Nat) (w : World) (hI : RdI R d (some s) row w) (hlt : s.at_ < R.n) {r : Nat} (hn : Need R.n (some s) r (f + 1)) (hd : d + f ≤ 100000) :
  Calls prog 237 #[.pointer (some ⟨R.T, 0, none⟩), .bool b] w (Does R d row w (.int .i64 (leaveS R.sg (exprF R.sg N f) d b (skipS (some s))).1) (leaveS R.sg (exprF R.sg N f) d b (skipS (some s))).2) := by
 have HI0 := hid hI
 have HK0 := hid (Kr.refl R.T row w)
 have HLo := hid hI.lo
 have HL := hid (fun t (e : (some s) = some t) => show t.at_ < R.n by obtain rfl := Option.some.inj e; exact hlt)
 unfold Does leaveS
 dsimp only
 have hadv := (adv_skip (some s))
 have HS := hid (fun (row : Option Nat) (W : World) h => is_any R hi d (skipS (some s)) row ⟨#[59]⟩ W h)
 rcases bft (isM R.sg (skipS (some s)) ⟨#[59]⟩) with hM | hM
 ·rw [if_pos hM]
  rw [hM] at HS
  clear hI hn hM hadv hlt
  go_enter func237, ntmps237
  go_wp2_with fail
  refine pst (pass_any R hi d (some s) row w HI0.out HL.out) HK0 ?_
  intro w1 row1 HI1 HK1
  have K2 := Blk.new w1 36 #[.int .i64 15, .string ⟨#[]⟩, .slice none 0 0, .bool b]
  go_wp2_with fail
  refine (HS.out _ _ (HI1.out.alloc _)).mono ?_
  rintro e w3 ⟨rfl, g3⟩
  have HK3 := hid ((HK1.out.below ((Below.refl _ _).alloc (Nat.le_refl _) _)).below g3)
  have HI3 := hid ((HI1.out.alloc _).next g3)
  have K3 := K2.next g3
  have k0 := K3.q0
  have k1 := K3.q1
  have k2 := K3.q2
  have k3' := K3.q3
  clear g3 K2 K3
  go_wp2_with fail
  refine (close_any R hi d _ row1 ⟨#[59]⟩ 15 noT none 0 0 [] b w3.heap.size _ HI3.out (Mine.mk_nil _ _ _ _) HI3.out.lo).mono ?_
  rintro e w6 ⟨rfl, row6, h6, k6⟩
  have HK6 := keep_kr HK3 k6
  go_wp2
  go_ret
  exact ⟨rfl, row6, h6, HK6.out⟩
 ·rw [if_neg (by rw [hM]; decide)]
  rw [hM] at HS
  have HP := hid (fun (row : Option Nat) (W : World) h => HE.value R.U d (skipS (some s)) row W h (hn.next hlt hadv (by omega)) hd)
  unfold Does at HP
  generalize exprF R.sg N f .value d (skipS (some s)) = r4 at HP ⊢
  obtain ⟨k, st4⟩ := r4
  dsimp only at HP ⊢
  clear hI hn hM hadv hlt
  go_enter func237, ntmps237
  go_wp2_with fail
  refine pst (pass_any R hi d (some s) row w HI0.out HL.out) HK0 ?_
  intro w1 row1 HI1 HK1
  have hz2 := HK1.out.size
  have hT2 := HI1.out.lt
  have hrow2 := row_fresh HI1.out
  have K2 := Blk.new w1 36 #[.int .i64 15, .string ⟨#[]⟩, .slice none 0 0, .bool b]
  go_wp2_with fail
  refine (HS.out _ _ (HI1.out.alloc _)).mono ?_
  rintro e w3 ⟨rfl, g3⟩
  have HK3 := hid ((HK1.out.below ((Below.refl _ _).alloc (Nat.le_refl _) _)).below g3)
  have HI3 := hid ((HI1.out.alloc _).next g3)
  have K3 := K2.next g3
  clear g3 K2
  go_wp2_with fail
  refine (HP.out _ _ HI3.out).mono ?_
  rintro e w4 ⟨rfl, row4, h4, k4⟩
  have HK4 := keep_kr HK3 k4
  have HI4 := hid h4
  obtain ⟨K4, hrow4⟩ := keep_box K3 k4 (by omega) hrow2
  clear h4 k4 K3
  have HI5 := hid (HI4.out.setBox K4 hrow4 (Nat.le_trans HLo.out.1 hz2) 2 (.slice (some ⟨w4.heap.size, 0, none⟩) 1 1))
  have HK5 := hid (HK4.out.setBox hz2 2 (.slice (some ⟨w4.heap.size, 0, none⟩) 1 1))
  have K5 := (K4.set_ 2 (.slice (some ⟨w4.heap.size, 0, none⟩) 1 1)).alloc (.cells #[.int .i64 k] 3)
  have hm := kid1 (w4.setCell ⟨w1.heap.size, 2, none⟩ (.slice (some ⟨w4.heap.size, 0, none⟩) 1 1)) k
  have hlo5 := HI5.out.lo
  rw [size_set] at hm hlo5
  have HM5 := hid hm
  have HLo5 := hid hlo5
  have j2 := K4.cell 2
  have jf := K4.frozen
  have jz := K4.lt
  have k0 := K5.cell 0
  have k1 := K5.cell 1
  have k2 := K5.cell 2
  have k3 := K5.cell 3
  simp only [List.setIfInBounds_toArray, List.set_cons_succ, List.set_cons_zero, List.getElem?_toArray, List.getElem?_cons_zero, List.getElem?_cons_succ] at k0 k1 k2 k3 j2
  clear K4 K5 hm hlo5
  go_wp2_with fail
  refine (close_any R hi d st4 row4 ⟨#[59]⟩ 15 noT (some ⟨w4.heap.size, 0, none⟩) 1 1 [k] b w4.heap.size _ (HI5.out.alloc _) HM5.out HLo5.out).mono ?_
  rintro e w6 ⟨rfl, row6, h6, k6⟩
  have HK6 := keep_kr HK5 k6
  go_wp2
  go_ret
  exact ⟨rfl, row6, h6, HK6.out⟩
theorem condition_step (R : RC) (hi : R.imp = true) (N f : Nat) (HE : EC R N f) (d : Nat) (st : RdSt) (row : Option Nat) (w : World) (hI : RdI R d st row w) (hn : Need R.n (takeS R.sg st ⟨#[40]⟩) 11 f) (hd : d + f ≤ 100000) :
  Calls prog 239 #[.pointer (some ⟨R.T, 0, none⟩)] w fun e w' => ∃ A, e = .returned (.slice A 1 1) ∧ Mine w' w.heap.size 3 1 A 1 1 (intCells [(heldS R.sg (exprF R.sg N f) d st).1]) ∧ ∃ row', RdI (R.res A) d (heldS R.sg (exprF R.sg N f) d st).2 row' w' ∧ Kr R.T row w row' w' := by
 have HI0 := hid hI
 have HK0 := hid (Kr.refl R.T row w)
 unfold heldS
 dsimp only
 have HP := hid (fun (row : Option Nat) (W : World) h => HE.value R.U d (takeS R.sg st ⟨#[40]⟩) row W h hn hd)
 unfold Does at HP
 generalize exprF R.sg N f .value d (takeS R.sg st ⟨#[40]⟩) = r4 at HP ⊢
 obtain ⟨k, st4⟩ := r4
 dsimp only at HP ⊢
 clear hI hn
 go_enter func239, ntmps239
 go_wp2_with fail
 refine pst (take_any R hi d st row ⟨#[40]⟩ w HI0.out) HK0 ?_
 intro w1 row1 HI1 HK1
 go_wp2_with fail
 refine pst (HP.out _ _ HI1.out) HK1 ?_
 intro w2 row2 HI2 HK2
 go_wp2_with fail
 refine pst (take_any R hi d st4 row2 ⟨#[41]⟩ w2 HI2.out) HK2 ?_
 intro w3 row3 HI3 HK3
 have hz := HK3.out.size
 have HM := hid ((kid1 w3 k).more (B' := w.heap.size) hz)
 have HI4 := hid (HI3.out.res_new (A := some ⟨w3.heap.size, 0, none⟩) ((Below.refl _ _).alloc (Nat.le_refl _) (.cells #[.int .i64 k] 3)) (fun g hg => by simp at hg; subst hg; simp))
 have HK4 := hid (HK3.out.below ((Below.refl _ _).alloc (Nat.le_refl _) (.cells #[.int .i64 k] 3)))
 go_wp2
 go_ret
 exact ⟨_, rfl, HM.out, row3, HI4.out, HK4.out⟩
end Go.Proofs.YtgbikafalcbibaaGreatDoor

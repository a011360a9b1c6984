/-
  Put together by program (shake.py): SpaL, SpaM, SpaN, SpaO.
-/
import Derived.Test.YtgbikafalcbibaaGreatDoorMiM
import Derived.Test.YtgbikafalcbibaaGreatDoorMiQ
import Derived.Deep.QuietTactic
set_option maxRecDepth 100000
set_option maxHeartbeats 25600000
set_option linter.unusedVariables false
set_option linter.unusedSimpArgs false
open Go.Lib (hid)
open Go.Proofs.Tryz
namespace Go.Proofs.YtgbikafalcbibaaGreatDoor
open Go.RowKit
theorem isM_at {sg : List SgP} {s t : PS} (h : t.at_ = s.at_) (m : ByteArray) : isM sg (some t) m = isM sg (some s) m := by unfold isM sgAt; simp only [h]
theorem markF_at {sg : List SgP} {s t : PS} (h : t.at_ = s.at_) (l : List ByteArray) : markF_ sg (some t) l = markF_ sg (some s) l := by
 induction l with
 | nil => rfl
 | cons m l ih => unfold markF_; rw [isM_at h, ih]
theorem markS_at {sg : List SgP} {s t : PS} (h : t.at_ = s.at_) (l : Nat) : markS sg (some t) l = markS sg (some s) l := markF_at h _
theorem ba_eq {a b : ByteArray} (h : a.toList = b.toList) : a = b := by
 rw [ByteArray.toList_eq, ByteArray.toList_eq] at h
 obtain ⟨⟨a⟩⟩ := a
 obtain ⟨⟨b⟩⟩ := b
 simp at h
 subst h
 rfl
theorem isM_text {sg : List SgP} {st : RdSt} {m : ByteArray} (h : isM sg st m = true) : (sgAt sg st 0).2.1.toList = m.toList := by
 unfold isM at h
 rw [Bool.and_eq_true] at h
 exact eq_of_beq h.2
theorem isM_same {sg : List SgP} {st : RdSt} {m m' : ByteArray} (h : isM sg st m = true) (h' : isM sg st m' = true) : m = m' := ba_eq ((isM_text h).symm.trans (isM_text h'))
theorem markF_eq {sg : List SgP} {st : RdSt} {m : ByteArray} (h : isM sg st m = true) : ∀ l : List ByteArray, m ∈ l → markF_ sg st l = m := by
 intro l
 induction l with
 | nil => intro hm; cases hm
 | cons x l ih =>
  intro hm
  unfold markF_
  by_cases hx : isM sg st x = true
  ·rw [if_pos hx]; exact isM_same hx h
  ·rw [if_neg hx]
   rcases List.mem_cons.1 hm with rfl | hm
   ·exact absurd h hx
   ·exact ih hm
theorem markF_mem {sg : List SgP} {st : RdSt} : ∀ l : List ByteArray, ((markF_ sg st l).toList == []) = false → markF_ sg st l ∈ l := by
 intro l
 induction l with
 | nil => intro h; exact absurd noT_nil (by rw [show (noT.toList == []) = false from h]; decide)
 | cons x l ih =>
  intro h
  unfold markF_ at h ⊢
  by_cases hx : isM sg st x = true
  ·rw [if_pos hx]; exact List.mem_cons_self
  ·rw [if_neg hx] at h ⊢; exact List.mem_cons_of_mem _ (ih h)
def ChR (sg : List SgP) (one : RdSt → PR) (l N n : Nat) (Q : PR) (tx : ByteArray) (ks : List Int) (st : RdSt) : Prop :=
 (tx = noT ∧ ∃ M k, ks = [k] ∧ chainF sg one l N M k st = Q ∧ Enough n M st) ∨
 (tx ∈ marksOf l ∧ 2 ≤ ks.length ∧ ∃ M1 M2, Enough n M1 st ∧ Enough n M2 st ∧ chainF sg one l N M2 (addS (runF sg one tx M1 ks st).2 ⟨7, tx, (runF sg one tx M1 ks st).1, false⟩).1 (addS (runF sg one tx M1 ks st).2 ⟨7, tx, (runF sg one tx M1 ks st).1, false⟩).2 = Q)
section
variable {sg : List SgP} {one : RdSt → PR} {l N n : Nat} {Q : PR} {tx : ByteArray} {ks : List Int} {st : RdSt} {s : PS}
theorem run_stop (h : isM sg st tx = false) (M : Nat) (ks : List Int) : runF sg one tx M ks st = (ks, st) := by
 cases M with
 | zero => rfl
 | succ M => unfold runF; rw [h, if_neg (by decide)]
theorem chain_stop (h : markS sg st l = noT) (M : Nat) (k : Int) : chainF sg one l N M k st = (k, st) := by
 cases M with
 | zero => rfl
 | succ M => unfold chainF; rw [h, if_pos noT_nil]
theorem noT_mark (h : noT ∈ marksOf l) : False := absurd noT_nil (by rw [marks_nn l noT h]; decide)
theorem chR_end (hm : markS sg st l = noT) (h : ChR sg one l N n Q tx ks st) : (∃ k, ks = [k] ∧ Q = (k, st)) ∨ (2 ≤ ks.length ∧ Q = addS st ⟨7, tx, ks, false⟩) := by
 rcases h with ⟨_, M, k, rfl, hq, _⟩ | ⟨hx, hl, M1, M2, _, _, hq⟩
 ·left
  rw [chain_stop hm] at hq
  exact ⟨k, rfl, hq.symm⟩
 ·right
  have hi : isM sg st tx = false := by
   rcases bft (isM sg st tx) with e | e
   ·have := markF_eq e (marksOf l) hx
    exact absurd (this.symm.trans hm ▸ hx) (fun h => noT_mark h)
   ·exact e
  rw [run_stop hi] at hq
  refine ⟨hl, ?_⟩
  cases st with
  | none => rw [addS_none, chainF_none] at hq; rw [addS_none]; exact hq.symm
  | some s =>
   rcases hA : addS (some s) ⟨7, tx, ks, false⟩ with ⟨k, _ | t⟩
   ·rw [hA, chainF_none] at hq; exact hq.symm
   ·rw [hA, chain_stop (by rw [markS_at (add_at rfl (by rw [hA]))]; exact hm)] at hq; exact hq.symm
theorem run_go (hmk : isM sg (some s) tx = true) (M : Nat) (ks : List Int) : runF sg one tx (M + 1) ks (some s) = runF sg one tx M (ks ++ [(one (skipS (some s))).1]) (one (skipS (some s))).2 := by
 rw [runF, if_pos hmk]
theorem enough_pos {M : Nat} (h : Enough n M (some s)) (hs : s.at_ ≤ n) : ∃ M', M = M' + 1 := ⟨M - 1, by have := h s rfl; omega⟩
theorem chR_same (hN : n < N) (h1 : ∀ st, Adv 1 1 st (one st).2) (hs : s.at_ ≤ n) (hmk : ((markS sg (some s) l).toList == []) = false) (h : ChR sg one l N n Q tx ks (some s)) (ht : tx = noT ∨ tx = markS sg (some s) l) :
  ChR sg one l N n Q (markS sg (some s) l) (ks ++ [(one (skipS (some s))).1]) (one (skipS (some s))).2 := by
 have hin : markS sg (some s) l ∈ marksOf l := markF_mem _ hmk
 have hIs := markS_is hmk
 have hadv : Adv (0 + 1) 0 (some s) (one (skipS (some s))).2 := ((adv_skip (some s)).trans (h1 _)).weak (by omega) (by omega)
 right
 rcases h with ⟨_, M, k, rfl, hq, he⟩ | ⟨hx, hl, M1, M2, he1, he2, hq⟩
 ·obtain ⟨M, rfl⟩ := enough_pos he hs
  obtain ⟨N', rfl⟩ : ∃ N', N = N' + 1 := ⟨N - 1, by omega⟩
  rw [chainF, if_neg (by rw [hmk]; decide), run_go hIs] at hq
  exact ⟨hin, by simp, N', M, (enough_of hN (some s)).adv hadv, he.adv hadv, hq⟩
 ·rcases ht with rfl | ht
  ·exact (noT_mark hx).elim
  ·rw [← ht] at hIs ⊢
   obtain ⟨M1, rfl⟩ := enough_pos he1 hs
   rw [run_go hIs] at hq
   exact ⟨hx, by rw [lA]; omega, M1, M2, he1.adv hadv, he2.mono hadv, hq⟩
theorem chR_new (hN : n < N) (h1 : ∀ st, Adv 1 1 st (one st).2) (h0 : one none = (0, none)) (hs : s.at_ ≤ n) (hmk : ((markS sg (some s) l).toList == []) = false) (h : ChR sg one l N n Q tx ks (some s)) (ht : tx ≠ noT) (hne : tx ≠ markS sg (some s) l) :
  ChR sg one l N n Q (markS sg (some s) l) ([(addS (skipS (some s)) ⟨7, tx, ks, false⟩).1] ++ [(one (addS (skipS (some s)) ⟨7, tx, ks, false⟩).2).1]) (one (addS (skipS (some s)) ⟨7, tx, ks, false⟩).2).2 := by
 have hin : markS sg (some s) l ∈ marksOf l := markF_mem _ hmk
 have hIs := markS_is hmk
 right
 rcases h with ⟨e, _⟩ | ⟨hx, hl, M1, M2, he1, he2, hq⟩
 ·exact absurd e ht
 ·have hi : isM sg (some s) tx = false := by
   rcases bft (isM sg (some s) tx) with e | e
   ·exact absurd (isM_same e hIs) hne
   ·exact e
  rw [run_stop hi] at hq
  rw [add_skip]
  rcases hA : addS (some s) ⟨7, tx, ks, false⟩ with ⟨k, _ | t⟩
  ·have hk : k = 0 := by
    unfold addS at hA
    simp only at hA
    split at hA
    ·injection hA with e1 e2; exact e1.symm
    ·injection hA with e1 e2; cases e2
   rw [hA, chainF_none] at hq
   dsimp only
   rw [skipS_none, h0]
   refine ⟨hin, by simp, 0, 0, (fun t e => by cases e), (fun t e => by cases e), ?_⟩
   rw [runF_none, addS_none, chainF_none, ← hq, hk]
  ·have hat : t.at_ = s.at_ := add_at (st := some s) (x := ⟨7, tx, ks, false⟩) rfl (by rw [hA])
   obtain ⟨M2, rfl⟩ := enough_pos he2 hs
   obtain ⟨N', rfl⟩ : ∃ N', N = N' + 1 := ⟨N - 1, by omega⟩
   have hmt : markS sg (some t) l = markS sg (some s) l := markS_at hat l
   have hIt : isM sg (some t) (markS sg (some s) l) = true := by rw [isM_at hat]; exact hIs
   have hadv : Adv (0 + 1) 0 (some s) (one (skipS (some t))).2 := by
    have ha := adv_add (some s) ⟨7, tx, ks, false⟩
    rw [hA] at ha
    exact ((ha.trans (adv_skip (some t))).trans (h1 _)).weak (by omega) (by omega)
   rw [hA] at hq
   dsimp only at hq ⊢
   rw [chainF, hmt, if_neg (by rw [hmk]; decide), run_go hIt] at hq
   exact ⟨hin, by simp, N', M2, (enough_of hN (some s)).adv hadv, he2.adv hadv, hq⟩
end
theorem level_any (l : Nat) (hl : l < 6) (w : World) : Calls prog 207 #[.int .i64 l] w fun e w' => ∃ B, e = .returned (.slice (some ⟨B, 0, none⟩) (marksOf l).length (marksOf l).length) ∧ Blk w' B 9 ((marksOf l).map Value.string).toArray ∧ w.heap.size ≤ B ∧ Below w.heap.size w w' := by
 rcases (show l = 0 ∨ l = 1 ∨ l = 2 ∨ l = 3 ∨ l = 4 ∨ l = 5 by omega) with rfl | rfl | rfl | rfl | rfl | rfl
 all_goals
  go_enter func207, ntmps207
  go_wp2
  go_ret
  exact ⟨w.heap.size, rfl, Blk.new _ _ _, Nat.le_refl _, grow_⟩
theorem RC.ty_str (R : RC) : R.ty ≠ 9 := by unfold RC.ty; cases R.imp <;> decide
def InR (sg : List SgP) (ms : List ByteArray) (MK : ByteArray) (s : PS) (j : Nat) (mm : ByteArray) (st2 : RdSt) : Prop :=
 ((mm.toList == []) = true ∧ st2 = some s ∧ markF_ sg (some s) (ms.drop j) = MK) ∨ (mm = MK ∧ (MK.toList == []) = false ∧ st2 = skipS (some s))
theorem marks_two (l : Nat) : (marksOf l).length ≤ 2 := by
 unfold marksOf
 repeat' split
 all_goals simp
theorem nil_noT {m : ByteArray} (h : (m.toList == []) = true) : m = noT := ba_eq ((eq_of_beq h).trans (eq_of_beq noT_nil).symm)
theorem row0_cell {w : World} {B : Nat} {A : Option Addr} {c : Nat} {k : Int} (h : Mine w B 3 1 A 1 c (intCells [k])) : ∃ g, A = some ⟨g, 0, none⟩ ∧ w.cell? ⟨g, 0, none⟩ = some (.int .i64 k) ∧ g < w.heap.size := by
 rcases h.own with ⟨_, h0, _⟩ | ⟨g, rfl, hB, hn, hc, rest, hb, hs⟩
 ·cases h0
 ·exact ⟨g, rfl, hb.cell 0, hb.lt⟩
theorem schain_step (R : RC) (hi : R.imp = false) (N f : Nat) (hN : R.n < N) (HE : SC R N f) (l d : Nat) (hl : l ≤ 6) (st : RdSt) (row : Option Nat) (w : World) (hI : RdI R d st row w) (hn : Need R.n st (9 - l) (f + 1)) (hd : d + (f + 1) ≤ 100000) (hdp : Deep d st) :
  Calls prog 168 #[.pointer (some ⟨R.T, 0, none⟩), .int .i64 l] w (Does R d row w (.int .i64 (chainS R.sg (exprF R.sg N f) N l d st).1) (chainS R.sg (exprF R.sg N f) N l d st).2) := by
 have HI0 := hid hI
 have HK0 := hid (Kr.refl R.T row w)
 have HLo := hid hI.lo
 unfold Does
 unfold chainS
 by_cases h6 : l = 6
 ·rw [if_pos h6]
  have HP := hid (HE.end_ R.U d st row w hI (hn.same (r' := 2) (by omega) (Adv.refl st)) (by omega) hdp)
  unfold PosS at HP
  clear hI hn
  subst h6
  go_enter func168, ntmps168
  go_wp2_with fail
  refine pst (HP.out) HK0 ?_
  intro w1 row1 HI1 HK1
  go_wp2
  go_ret
  exact ⟨rfl, row1, HI1.out, HK1.out⟩
 ·rw [if_neg h6]
  have hl5 : l < 6 := by omega
  have HP := HE.chain R.U (l + 1) d st row w hI (by omega) (hn.same (r' := 9 - (l + 1)) (by omega) (Adv.refl st)) (by omega) hdp
  rw [show ((l + 1 : Nat) : Int) = (l : Int) + 1 by omega] at HP
  have hadv := adv_expr (sg := R.sg) (N := N) f (.chain (l + 1)) d st
  have HA := hid (fun st => adv_expr (sg := R.sg) (N := N) f (.chain (l + 1)) d st)
  have HZ := hid (exprF_none (sg := R.sg) (N := N) f (.chain (l + 1)) d)
  have hlen := hI.ok.len
  unfold PosS at HP
  have HP := hid HP
  have HO : Hid (∀ (U : Nat → Prop) (st' : RdSt) (row : Option Nat) (w : World), RdI { R with U := U } d st' row w → Adv 1 0 st st' → (∀ s, st = some s → s.at_ < R.n) → (st = none → st' = none) → Calls prog 168 #[.pointer (some ⟨R.T, 0, none⟩), .int .i64 ((l : Int) + 1)] w (fun e w' => e = .returned (.int .i64 (exprF R.sg N f (.chain (l + 1)) d st').1) ∧ ∃ row', RdI { R with U := U } d (exprF R.sg N f (.chain (l + 1)) d st').2 row' w' ∧ Kr R.T row w row' w')) := (show ∀ U st' row w, _ → _ → _ → _ → _ from fun U st' row w h ha hlt hnn => by
   have := HE.chain U (l + 1) d st' row w h (by omega) (by
    cases st with
    | none => rw [hnn rfl]; exact hn.same (by omega) (Adv.refl none)
    | some s => exact hn.next (hlt s rfl) (ha.weak (i' := 0 + 1) (j' := 0) (by omega) (by omega)) (by omega)) (by omega) (hdp.adv ha)
   rwa [show ((l + 1 : Nat) : Int) = (l : Int) + 1 by omega] at this)
  have hld : decide ((5 : Int) < (l : Int)) = false := decide_eq_false (by omega)
  have hld2 : ¬ (5 : Int) < (l : Int) := by omega
  have hwl : IntKind.i64.wrap ((l : Int) + 1) = (l : Int) + 1 := IntWalk.i64_in _ (by omega)
  generalize exprF R.sg N f (.chain (l + 1)) d = one at HP hadv HA HO HZ ⊢
  generalize hr : one st = r at HP hadv ⊢
  obtain ⟨k0, st1⟩ := r
  dsimp only at HP hadv ⊢
  have HAD0 := hid hadv
  obtain ⟨Q, hQ⟩ : ∃ Q, chainF R.sg one l N N k0 st1 = Q := ⟨_, rfl⟩
  rw [hQ]
  have HQ : Hid (ChR R.sg one l N R.n Q noT [k0] st1) := (show ChR R.sg one l N R.n Q noT [k0] st1 from .inl ⟨rfl, N, k0, rfl, hQ, enough_of hN _⟩)
  have HKB0 : Hid (KidB [k0] st1) := (show KidB _ _ from ⟨by simp, fun t' e => by obtain ⟨s, _, _, h2⟩ := hadv t' e; simp; omega⟩)
  obtain ⟨i0, hi0, hz0, hz1, hz2⟩ := info_parts infoInt
  have HII := hid (And.intro hi0 (And.intro hz0 (And.intro hz1 hz2)))
  have HV := hid (fun (W : World) => level_any l hl5 W)
  have HMN := hid (marks_nn l)
  obtain ⟨ms, hms⟩ : ∃ ms, marksOf l = ms := ⟨_, rfl⟩
  have HMS := hid hms
  have HML := hid (marks_two l)
  rw [hms] at HV HMN HML
  clear hi0 hz0 hz1 hz2 hI hn hadv hQ hr hms hdp
  go_enter func168, ntmps168
  go_wp2_with fail
  refine pst (HP.out) HK0 ?_
  intro w1 row1 HI1 HK1
  have hz1 := HK1.out.size
  go_wp2_with fail
  refine (HV.out _).mono ?_
  rintro e w2 ⟨B, rfl, KB, hBz, g2⟩
  have HM0 := hid ((kid1 w1 k0).more (B' := w.heap.size) (by omega))
  have HI2 := hid ((HI1.out.res_new (A := some ⟨w1.heap.size, 0, none⟩) ((Below.refl _ _).alloc (Nat.le_refl _) (.cells #[.int .i64 k0] 3)) (fun g hg => by simp at hg; subst hg; simp)).next g2)
  have HM2 := hid (HM0.out.next g2)
  have HK2 := hid ((HK1.out.below ((Below.refl _ _).alloc (Nat.le_refl _) (.cells #[.int .i64 k0] 3))).below g2)
  have HB2 := hid KB
  clear hBz g2 HM0 KB
  go_upto_region 6 with fail
  go_loopw [5, 6] (fun v x wr => ∃ (tx : ByteArray) (ks : List Int) (st' : RdSt) (row' : Option Nat) (A : Option Addr) (n c : Nat), v = .slice A n c ∧ x = .string tx ∧ Hid (n = ks.length) ∧ Hid (ChR R.sg one l N R.n Q tx ks st') ∧ Hid (Adv 1 1 st st') ∧ Hid (KidB ks st') ∧ Hid (Mine wr w.heap.size 3 1 A n c (intCells ks)) ∧ Hid (RdI (R.res A) d st' row' wr) ∧ Hid (Kr R.T row w row' wr) ∧ Hid (Blk wr B 9 (ms.map Value.string).toArray)) (fun _ _ wr => measP R wr)
  case atStart => exact ⟨noT, [k0], st1, row1, _, 1, 1, rfl, rfl, (show 1 = 1 from rfl), HQ, HAD0, HKB0, HM2, HI2, HK2, HB2⟩
  case round =>
   clear HQ HAD0 HKB0 HI0 HI1 HI2 HK0 HK1 HK2 HM2 HB2 HP HV hz1
   obtain ⟨tx, ks, st', row', A, n, c, rfl, rfl, HL, HC, HAD, HKB, HM, HI, HK, HB⟩ := hrel
   cases st' with
   | none =>
    obtain ⟨a, b, AN, cN, l', hc, hb, hrow⟩ := HI.out
    obtain ⟨c1, c2, c3, cf, cz⟩ := hc.csu _ hi
    obtain rfl : b = true := hb
    clear hc c1 c3 hrow
    rcases chR_end (markS_none l) HC.out with ⟨kE, rfl, rfl⟩ | ⟨hlE, rfl⟩
    ·have hn1 : n = 1 := HL.out
     subst hn1
     obtain ⟨gE, rfl, cE, zE⟩ := row0_cell HM.out
     go_wp2
     go_ret
     exact ⟨rfl, row', HI.out.unres, HK.out⟩
    ·have hnE : ((n : Int) == 1) = false := by rw [beq_eq_false_iff_ne]; have := HL.out; omega
     have HIE := hid HI.out.unres
     go_wp2_with fail
     refine (putK R.U hi d none row' 7 tx A n c ks w.heap.size _ HIE.out HM.out HLo.out).mono ?_
     rintro e w9 ⟨rfl, row9, h9, k9⟩
     go_wp2
     go_ret
     exact ⟨rfl, row9, h9, HK.out.trans k9⟩
   | some s' =>
    obtain ⟨s, es, ha, hnd⟩ := HAD.out s' rfl
    obtain ⟨a, b, AN, cN, l', hc, hb, hrow⟩ := HI.out
    obtain ⟨c1, c2, c3, cf, cz⟩ := hc.csu _ hi
    obtain ⟨rfl, _, _⟩ := hb
    have hle' : s'.at_ ≤ R.n := (HI.out.le rfl).1
    have hsn : s.at_ < R.n := by omega
    have hnb : s'.nodes.length ≤ 300 := (HI.out.le rfl).2
    have HO2 : Hid (∀ (U : Nat → Prop) (st2 : RdSt) (row : Option Nat) (w : World), RdI { R with U := U } d st2 row w → Adv 0 0 (some s') st2 → Calls prog 168 #[.pointer (some ⟨R.T, 0, none⟩), .int .i64 ((l : Int) + 1)] w (fun e w' => e = .returned (.int .i64 (one st2).1) ∧ ∃ row', RdI { R with U := U } d (one st2).2 row' w' ∧ Kr R.T row w row' w')) := (show ∀ U st2 row w, _ → _ → _ from fun U st2 row w h ha => HO.out U st2 row w h ((HAD.out.trans ha).weak (by omega) (by omega)) (fun s2 e2 => by rw [es] at e2; obtain rfl := Option.some.inj e2; exact hsn) (fun e => by rw [es] at e; cases e))
    obtain ⟨MK, hMK⟩ : ∃ MK, markS R.sg (some s') l = MK := ⟨_, rfl⟩
    have HMK := hid hMK
    have HIn0 : Hid (InR R.sg ms MK s' 0 noT (some s')) := (show InR _ _ _ _ _ _ _ from .inl ⟨noT_nil, rfl, by rw [List.drop_zero, ← HMS.out]; exact hMK⟩)
    have hml : ms.length = ms.length := rfl
    clear hc c1 c3 hrow ha hnd hMK
    go_upto_region 9 with fail
    clear c2 cf cz
    go_loopw [8, 9] (fun m i wi => ∃ (j : Nat) (mm : ByteArray) (st2 : RdSt) (row2 : Option Nat), m = .string mm ∧ i = .int .i64 j ∧ j ≤ ms.length ∧ Hid (InR R.sg ms MK s' j mm st2) ∧ Hid (Mine wi w.heap.size 3 1 A n c (intCells ks)) ∧ Hid (RdI (R.res A) d st2 row2 wi) ∧ Hid (Kr R.T row w row2 wi) ∧ Hid (Blk wi B 9 (ms.map Value.string).toArray)) (fun _ i _ => ms.length - (intOf i).toNat)
    case atStart => exact ⟨0, noT, some s', row', rfl, rfl, Nat.zero_le _, HIn0, HM, HI, HK, HB⟩
    case round =>
     rename_i wo v0 x0 y0
     have HIo := HI
     clear HIn0 HM HI HK HB
     obtain ⟨j, mm, st2, row2, rfl, rfl, hj, HIn, HM, HI, HK, HB⟩ := hrel
     rcases Nat.lt_or_ge j ms.length with hlt | hge
     ·obtain ⟨x, hx⟩ : ∃ x, ms[j]? = some x := ⟨_, List.getElem?_eq_getElem hlt⟩
      have hlt' : (j : Int) < (ms.length : Int) := by omega
      have hm2 := HML.out
      have hwj : IntKind.i64.wrap ((j : Int) + 1) = (j : Int) + 1 := IntWalk.i64_in _ (by omega)
      have kj := HB.out.cell j
      have kz := HB.out.lt
      simp only [List.getElem?_toArray, List.getElem?_map, hx, Option.map_some] at kj
      rcases HIn.out with ⟨hmm, rfl, hd2⟩ | ⟨rfl, hmm, rfl⟩
      ·have hmm' : (mm.toList != []) = false := by rw [bne, hmm]; rfl
       have hdr : ms.drop j = x :: ms.drop (j + 1) := by
        obtain ⟨h1, h2⟩ := List.getElem?_eq_some_iff.1 hx
        rw [← h2]; exact List.drop_eq_getElem_cons h1
       rw [hdr] at hd2
       unfold markF_ at hd2
       have HS := hid (mark_u _ hi d (some s') row2 x _ HI.out)
       rcases bft (isM R.sg (some s') x) with hM | hM
       ·rw [if_pos hM] at hd2
        subst hd2
        rw [hM, skipIf_yes hM] at HS
        have hxn : (x.toList == []) = false := HMN.out x (List.mem_of_getElem? hx)
        have HIn2 : Hid (InR R.sg ms x s' (j + 1) x (skipS (some s'))) := (show InR _ _ _ _ _ _ _ from .inr ⟨rfl, hxn, rfl⟩)
        clear hM hdr
        go_wp2_with fail
        refine HS.out.mono ?_
        rintro e w3 ⟨rfl, row3, h3, k3⟩
        have HM3 := hid (HI.out.keepI k3 HM.out)
        have HB3 := hid (HI.out.keep k3 HB.out (Ne.symm R.ty_str) (by decide))
        have HI3 := hid h3
        have HK3 := hid (HK.out.trans k3)
        clear h3 k3 kj kz
        have kj := HB3.out.cell j
        have kz := HB3.out.lt
        simp only [List.getElem?_toArray, List.getElem?_map, hx, Option.map_some] at kj
        go_wp2
        go_roundw
        case rel => exact ⟨j + 1, x, skipS (some s'), row3, rfl, by go_num, hlt, HIn2, HM3, HI3, HK3, HB3⟩
        case measure => simp [intOf]; omega
       ·rw [if_neg (by rw [hM]; decide)] at hd2
        rw [hM, skipIf_no hM] at HS
        have HIn2 : Hid (InR R.sg ms MK s' (j + 1) mm (some s')) := (show InR _ _ _ _ _ _ _ from .inl ⟨hmm, rfl, hd2⟩)
        clear hM hdr hd2
        go_wp2_with fail
        refine HS.out.mono ?_
        rintro e w3 ⟨rfl, row3, h3, k3⟩
        have HM3 := hid (HI.out.keepI k3 HM.out)
        have HB3 := hid (HI.out.keep k3 HB.out (Ne.symm R.ty_str) (by decide))
        have HI3 := hid h3
        have HK3 := hid (HK.out.trans k3)
        clear h3 k3 kj kz
        go_wp2
        go_roundw
        case rel => exact ⟨j + 1, mm, some s', row3, rfl, by go_num, hlt, HIn2, HM3, HI3, HK3, HB3⟩
        case measure => simp [intOf]; omega
      ·have HIn2 : Hid (InR R.sg ms mm s' (j + 1) mm (skipS (some s'))) := (show InR _ _ _ _ _ _ _ from .inr ⟨rfl, hmm, rfl⟩)
       have hmm' : (mm.toList != []) = true := by rw [bne, hmm]; rfl
       clear kj kz
       go_wp2
       go_roundw
       case rel => exact ⟨j + 1, mm, skipS (some s'), row2, rfl, by go_num, hlt, HIn2, HM, HI, HK, HB⟩
       case measure => simp [intOf]; omega
     ·have hge' : ¬ (j : Int) < (ms.length : Int) := by omega
      have hge3 : decide ((j : Int) < (ms.length : Int)) = false := decide_eq_false hge'
      obtain rfl : j = ms.length := by omega
      rcases HIn.out with ⟨hmm, rfl, hd2⟩ | ⟨rfl, hmm, rfl⟩
      ·rw [List.drop_length] at hd2
       have hmm' : (mm.toList != []) = false := by rw [bne, hmm]; rfl
       have hnm : markS R.sg (some s') l = noT := HMK.out.trans hd2.symm
       clear HIn hd2
       rcases chR_end hnm HC.out with ⟨kE, rfl, rfl⟩ | ⟨hlE, rfl⟩
       ·have hn1 : n = 1 := HL.out
        subst hn1
        obtain ⟨gE, rfl, cE, zE⟩ := row0_cell HM.out
        go_wp2
        go_ret
        exact ⟨rfl, row2, HI.out.unres, HK.out⟩
       ·have hnE : ((n : Int) == 1) = false := by rw [beq_eq_false_iff_ne]; have := HL.out; omega
        have HIE := hid HI.out.unres
        go_wp2_with fail
        refine (putK R.U hi d (some s') row2 7 tx A n c ks w.heap.size _ HIE.out HM.out HLo.out).mono ?_
        rintro e w9 ⟨rfl, row9, h9, k9⟩
        go_wp2
        go_ret
        exact ⟨rfl, row9, h9, HK.out.trans k9⟩
      ·have hmm' : (mm.toList != []) = true := by rw [bne, hmm]; rfl
       have hmk : ((markS R.sg (some s') l).toList == []) = false := by rw [HMK.out]; exact hmm
       have hk1 := HKB.out.2 s' rfl
       by_cases hsame : tx = noT ∨ tx = markS R.sg (some s') l
       ·have hch := chR_same hN HA.out hle' hmk HC.out hsame
        rw [HMK.out] at hch hsame
        have hadv3 := (adv_skip (some s')).trans (HA.out (skipS (some s')))
        have HX := hid (fun (row : Option Nat) (W : World) h => HO2.out (fun x => R.U x ∨ A.map (·.block) = some x) (skipS (some s')) row W h ((adv_skip _).weak (by omega) (by omega)))
        generalize one (skipS (some s')) = r3 at hch hadv3 HX
        obtain ⟨kc, st3⟩ := r3
        dsimp only at hch hadv3 HX
        have HCH := hid hch
        have HAK : Hid (KidB (ks ++ [kc]) st3) := (show KidB _ _ from ⟨by rw [lA]; simp; omega, fun t e => by
         obtain ⟨s'', e2, _, h3⟩ := hadv3 t e
         obtain rfl := Option.some.inj e2
         rw [lA]
         simp
         omega⟩)
        have HAA : Hid (Adv 1 1 st st3) := (HAD.out.trans hadv3).weak (by omega) (by omega)
        have HAD3 := hid hadv3
        have HL2 : Hid (n + 1 = (ks ++ [kc]).length) := (show _ = _ by rw [lA, HL.out]; simp)
        have hkl : n ≤ 300 := by rw [HL.out]; omega
        -- the tests of the mark
        have htx : ((tx.toList != []) = false ∧ (tx.toList == []) = true) ∨ ((tx.toList != []) = true ∧ (tx.toList == []) = false ∧ (mm.toList != tx.toList) = false ∧ (mm.toList == tx.toList) = true) := by
         rcases hsame with e | e
         ·left; rw [e]; exact ⟨by rw [bne, noT_nil]; rfl, noT_nil⟩
         ·right; rw [e]; exact ⟨hmm', hmm, by rw [bne, beq_self_eq_true]; rfl, beq_self_eq_true _⟩
        clear hch hadv3 hsame hmk hk1 HIn
        rcases htx with ⟨t1, t2⟩ | ⟨t1, t2, t3, t4⟩
        all_goals
         go_wp2_with fail
         refine (HX.out _ _ HI.out).mono ?_
         rintro e w6 ⟨rfl, row6, h6, k6⟩
         have HM6 := hid (HI.out.keepI k6 HM.out)
         have HB6 := hid (HI.out.keep k6 HB.out (Ne.symm R.ty_str) (by decide))
         have HI6 := hid h6
         have HK6 := hid (HK.out.trans k6)
         clear h6 k6 HX HM HI HK HB
         have hz6 := HK6.out.size
         have HB0 := hid HLo.out.1
         go_wp2_with (at_builtin; (refine wpList_append_row _ rfl (.tmp 61) (.tmp 66) _ rfl w.heap.size 3 i0 (.int .i64 0) 1 8 underlying34 HII.out.1 HII.out.2.1 HII.out.2.2.1 HII.out.2.2.2 rfl (by decide) (.slice A n c) n (intCells ks) rfl (Mine.alloc HM6.out _) ⟨w6.heap.size, 0, none⟩ 1 1 [.int .i64 kc] rfl rfl (int_new _ kc _) (int_one _) (by unfold maxLen; omega) (by omega) (by simp; omega) ?_); intro v' w7 hown7 hg7 hwh7; obtain ⟨A7, c7, rfl, h7, m7⟩ := RdI.appended HI6.out HM6.out HB0.out ((Below.refl _ _).alloc (Nat.le_refl _) _) hown7 hg7 hwh7)
         have HK7 := hid ((HK6.out.below ((Below.refl _ _).alloc (Nat.le_refl _) _)).grown hg7 (fun g hg => by rw [ownBlk] at hg; exact (Mine.blk HM6.out hg).1))
         have HB7 := hid ((HB6.out.alloc (.cells #[.int .i64 kc] 3)).grown (ownBlk _ _ _ ▸ hg7) (fun e => by obtain ⟨cs', hk'⟩ := mine_blk' (Mine.alloc HM6.out (.cells #[.int .i64 kc] 3)) e.symm; exact blk_ne (HB6.out.alloc _) hk' (by decide) rfl))
         rw [← ints_snoc] at m7
         have HI7 := hid h7
         have HM7 := hid m7
         clear hown7 hg7 hwh7 h7 m7 HI6 HM6 HK6 HB6
         go_wp2
         go_roundw
         case rel => exact ⟨mm, ks ++ [kc], st3, row6, A7, n + 1, c7, rfl, rfl, HL2, HCH, HAA, HAK, HM7, HI7, HK7, HB7⟩
         case measure => exact measp_u hi HIo.out HI7.out (HAD3.out.weak (i' := 1) (j' := 0) (by omega) (by omega))
       ·have hs1 : tx ≠ noT := fun e => hsame (.inl e)
        have hs2 : tx ≠ markS R.sg (some s') l := fun e => hsame (.inr e)
        have hch := chR_new hN HA.out HZ.out hle' hmk HC.out hs1 hs2
        rw [HMK.out] at hch hs2
        have hadvp := (adv_skip (some s')).trans (adv_add (skipS (some s')) ⟨7, tx, ks, false⟩)
        have HPx := hid (fun (row : Option Nat) (W : World) (A : Option Addr) (n c : Nat) h hm => putK R.U hi d (skipS (some s')) row 7 tx A n c ks w.heap.size W h hm HLo.out)
        generalize addS (skipS (some s')) ⟨7, tx, ks, false⟩ = r2 at hch hadvp HPx
        obtain ⟨kp, stp⟩ := r2
        dsimp only at hch hadvp HPx
        have hadv3 := hadvp.trans (HA.out stp)
        have HX := hid (fun (U : Nat → Prop) (row : Option Nat) (W : World) h => HO2.out U stp row W h (hadvp.weak (by omega) (by omega)))
        generalize one stp = r3 at hch hadv3 HX
        obtain ⟨kc, st3⟩ := r3
        dsimp only at hch hadv3 HX
        have HCH := hid hch
        have HAK : Hid (KidB ([kp] ++ [kc]) st3) := (show KidB _ _ from ⟨by simp, fun t e => by
         obtain ⟨s'', e2, _, h3⟩ := hadv3 t e
         obtain rfl := Option.some.inj e2
         simp
         omega⟩)
        have HAA : Hid (Adv 1 1 st st3) := (HAD.out.trans hadv3).weak (by omega) (by omega)
        have HAD3 := hid hadv3
        have hmt : (mm.toList == tx.toList) = false := by
         rw [beq_eq_false_iff_ne]; exact fun e => hs2 (ba_eq e).symm
        have hmt' : (mm.toList != tx.toList) = true := by rw [bne, hmt]; rfl
        have ht2 : (tx.toList == []) = false := by
         rcases bft (tx.toList == []) with e | e
         ·exact absurd (nil_noT e) hs1
         ·exact e
        have ht1 : (tx.toList != []) = true := by rw [bne, ht2]; rfl
        clear hch hadv3 hadvp hsame hs1 hs2 hmk hk1 HIn
        go_wp2_with fail
        refine (HPx.out _ _ _ _ _ HI.out.unres HM.out).mono ?_
        rintro e w5 ⟨rfl, row5, h5, k5⟩
        have HB5 := hid (HI.out.keep k5 HB.out (Ne.symm R.ty_str) (by decide))
        have HK5 := hid (HK.out.trans k5)
        have hz5 := HK5.out.size
        have HI5 := hid (h5.res_new (A := some ⟨w5.heap.size, 0, none⟩) ((Below.refl _ _).alloc (Nat.le_refl _) (.cells #[.int .i64 kp] 3)) (fun g hg => by simp at hg; subst hg; simp))
        have HM5 := hid ((kid1 w5 kp).more (B' := w.heap.size) (by omega))
        clear h5 k5 HPx HM HI HK HB
        go_wp2_with fail
        refine (HX.out _ _ _ HI5.out).mono ?_
        rintro e w6 ⟨rfl, row6, h6, k6⟩
        have HM6 := hid (HI5.out.keepI k6 HM5.out)
        have HB6 := hid (HI5.out.keep k6 (HB5.out.alloc _) (Ne.symm R.ty_str) (by decide))
        have HI6 := hid h6
        have HK6 := hid ((HK5.out.below ((Below.refl _ _).alloc (Nat.le_refl _) _)).trans k6)
        clear h6 k6 HX HM5 HI5 HK5 HB5
        have hz6 := HK6.out.size
        have HB0 := hid HLo.out.1
        go_wp2_with (at_builtin; (refine wpList_append_row _ rfl (.tmp 61) (.tmp 66) _ rfl w.heap.size 3 i0 (.int .i64 0) 1 8 underlying34 HII.out.1 HII.out.2.1 HII.out.2.2.1 HII.out.2.2.2 rfl (by decide) (.slice (some ⟨w5.heap.size, 0, none⟩) 1 1) 1 (intCells [kp]) rfl (Mine.alloc HM6.out _) ⟨w6.heap.size, 0, none⟩ 1 1 [.int .i64 kc] rfl rfl (int_new _ kc _) (int_one _) (by unfold maxLen; omega) (by omega) (by simp; omega) ?_); intro v' w7 hown7 hg7 hwh7; obtain ⟨A7, c7, rfl, h7, m7⟩ := RdI.appended HI6.out HM6.out HB0.out ((Below.refl _ _).alloc (Nat.le_refl _) _) hown7 hg7 hwh7)
        have HK7 := hid ((HK6.out.below ((Below.refl _ _).alloc (Nat.le_refl _) _)).grown hg7 (fun g hg => by rw [ownBlk] at hg; exact (Mine.blk HM6.out hg).1))
        have HB7 := hid ((HB6.out.alloc (.cells #[.int .i64 kc] 3)).grown (ownBlk _ _ _ ▸ hg7) (fun e => by obtain ⟨cs', hk'⟩ := mine_blk' (Mine.alloc HM6.out (.cells #[.int .i64 kc] 3)) e.symm; exact blk_ne (HB6.out.alloc _) hk' (by decide) rfl))
        rw [← ints_snoc] at m7
        have HI7 := hid h7
        have HM7 := hid m7
        clear hown7 hg7 hwh7 h7 m7 HI6 HM6 HK6 HB6
        go_wp2
        go_roundw
        case rel => exact ⟨mm, [kp] ++ [kc], st3, row6, A7, 2, c7, rfl, rfl, (show 2 = 2 from rfl), HCH, HAA, HAK, HM7, HI7, HK7, HB7⟩
        case measure => exact measp_u hi HIo.out HI7.out (HAD3.out.weak (i' := 1) (j' := 0) (by omega) (by omega))
theorem kindN_quiet (R : RC) (hi : R.imp = false) (d : Nat) (st : RdSt) (row : Option Nat) (w : World) (hI : RdI R d st row w) :
  Calls prog 71 #[.pointer (some ⟨R.T, 0, none⟩), .int .i64 1] w fun e w' => e = .returned (.bool (nameS R.sg st 0)) ∧ ∃ m, w' = w.drewN m := by
 unfold nameS
 rcases hI.see hi with ⟨rfl, c2, hs, cz, cf⟩ | ⟨s, a, rfl, ha, hge, ha3, c0, c1, c2, hs, cz, cf⟩ | ⟨s, a, b1, off, x, rfl, ha, hlt, ha3, c0, c1, c2, hx, hs, cz, cf, hblt, hbr, e0, e1, e2, e3⟩
 ·rw [hs, show ((sgZero.1 == 1) && !keyB sgZero.2.1) = false from rfl]
  clear hI
  go_enter func71, ntmps71
  go_wp2
  go_quiet (fail)
  go_wp2
  go_ret
  exact ⟨rfl, _, rfl⟩
 ·rw [hs, show ((sgZero.1 == 1) && !keyB sgZero.2.1) = false from rfl]
  have hge3 : decide ((a : Int) < (R.n : Int)) = false := by rw [decide_eq_false_iff_not]; omega
  have hge' : ¬ (a : Int) < R.n := by omega
  have hge2 : ¬ a < R.n := by omega
  have hge4 : (R.n : Int) ≤ a := by omega
  clear hI hs
  go_enter func71, ntmps71
  go_wp2
  go_quiet (fail)
  go_wp2
  go_ret
  exact ⟨rfl, _, rfl⟩
 ·rw [hs]
  obtain ⟨kd, xt, xp, xz⟩ := x
  dsimp only at e0 e1 e2 e3 ⊢
  have hlt' : (a : Int) < R.n := by omega
  clear hI hs hx
  rcases bft (kd == 1) with h1 | h1
  ·obtain rfl : kd = 1 := eq_of_beq h1
   rw [show ((1 : Int) == 1) = true from h1, Bool.true_and]
   clear h1
   have HK := hid (fun W => specKey_any xt W)
   generalize keyB xt = kb at HK ⊢
   go_enter func71, ntmps71
   go_wp2
   go_quiet ((go_at_call 103; exact Calls.quiet_of_same ((HK.out _).mono fun _ _ h => ⟨h.1, h.2.symm⟩)))
   go_wp2
   go_ret
   exact ⟨rfl, _, rfl⟩
  ·rw [h1, Bool.false_and]
   go_enter func71, ntmps71
   go_wp2
   go_quiet (fail)
   go_wp2
   go_ret
   exact ⟨rfl, _, rfl⟩
theorem sblank_any (R : RC) (hi : R.imp = false) (d : Nat) (s : PS) (row : Option Nat) (w : World) (hI : RdI R d (some s) row w) :
  Calls prog 43 #[.pointer (some ⟨R.T, 0, none⟩)] w fun e w' => e = .returned (.bool (sgAt R.sg (some s) 0).2.2.2) ∧ Below w.heap.size w w' := by
 rcases hI.see hi with ⟨h, _⟩ | ⟨s', a, h, ha, hge, ha3, c0, c1, c2, hs, cz, cf⟩ | ⟨s', a, b1, off, x, h, ha, hlt, ha3, c0, c1, c2, hx, hs, cz, cf, hblt, hbr, e0, e1, e2, e3⟩
 ·cases h
 ·rw [hs, show sgZero.2.2.2 = false from rfl]
  have hge3 : decide ((a : Int) < (R.n : Int)) = false := by rw [decide_eq_false_iff_not]; omega
  have hge' : ¬ (a : Int) < R.n := by omega
  have hge2 : ¬ a < R.n := by omega
  have hge4 : (R.n : Int) ≤ a := by omega
  clear hI hs
  go_enter func43, ntmps43
  go_wp2
  go_quiet (fail)
  go_wp2
  go_ret
  exact ⟨rfl, grow_⟩
 ·rw [hs]
  have hlt' : (a : Int) < R.n := by omega
  clear hI hs hx
  go_enter func43, ntmps43
  go_wp2
  go_quiet (fail)
  go_wp2
  go_ret
  exact ⟨rfl, grow_⟩
theorem flat_blank (v : Bool) : ∀ (l : List Nd) (k : Nat), k < l.length → (l.flatMap nodeCells).set (k * 4 + 3) (.bool v) = (l.modify k (fun x => { x with blank := v })).flatMap nodeCells := by
 intro l
 induction l with
 | nil => intro k h; cases h
 | cons x l ih =>
  intro k h
  cases k with
  | zero => rfl
  | succ k =>
   have e : (k + 1) * 4 + 3 = (k * 4 + 3) + 4 := by omega
   rw [e, List.flatMap_cons, List.modify_succ_cons, List.flatMap_cons, ← ih k (by simpa using h)]
   rfl
theorem modify_mem {α : Type} {f : α → α} : ∀ {l : List α} {k : Nat} {x : α}, x ∈ l.modify k f → x ∈ l ∨ ∃ y ∈ l, x = f y := by
 intro l
 induction l with
 | nil => intro k x h; simp at h
 | cons a l ih =>
  intro k x h
  cases k with
  | zero =>
   simp at h
   rcases h with rfl | h
   ·exact .inr ⟨a, by simp, rfl⟩
   ·exact .inl (by simp [h])
  | succ k =>
   simp at h
   rcases h with rfl | h
   ·exact .inl (by simp)
   ·rcases ih h with h | ⟨y, hy, rfl⟩
    ·exact .inl (by simp [h])
    ·exact .inr ⟨y, by simp [hy], rfl⟩
theorem modify_map (v : Bool) : ∀ (l : List Nd) (k : Nat), (l.modify k (fun x => { x with blank := v })).map Nd.pn = (l.map Nd.pn).modify k (fun x => ⟨x.kind, x.text, x.kids, v⟩) := by
 intro l
 induction l with
 | nil => intro k; simp
 | cons a l ih =>
  intro k
  cases k with
  | zero => rfl
  | succ k => simp only [List.modify_succ_cons, List.map_cons, ih]
theorem RdC.blanked {R : RC} {a d : Nat} {b : Bool} {AN : Option Addr} {cN : Nat} {l : List Nd} {w : World} (h : RdC R a d b AN cN l w) {k : Nat} (hk : k < l.length) (v : Bool) :
  ∃ g, AN = some ⟨g, 0, none⟩ ∧ (∃ u, w.cell? ⟨g, k * 4 + 3, none⟩ = some u) ∧ (∀ i, w.frozen? ⟨g, i, none⟩ = false) ∧ g < w.heap.size ∧ RdC R a d b AN cN (l.modify k (fun x => { x with blank := v })) (w.setCell ⟨g, k * 4 + 3, none⟩ (.bool v)) ∧ Kr R.T (AN.map (·.block)) w (AN.map (·.block)) (w.setCell ⟨g, k * 4 + 3, none⟩ (.bool v)) := by
 obtain ⟨h1, h2, h3, h4, h5, h6, h7⟩ := h
 have hl2 := h2.len
 rcases h2.own with ⟨_, e, _⟩ | ⟨g, rfl, hB, hn, hc, rest, hb, hs⟩
 ·omega
 ·have hgT : R.T ≠ g := blk_ne h1 hb R.ty_node
  have hlf : (l.flatMap nodeCells).length = l.length * 4 := flat_len nodeCells nodeCells_len l
  have hml : (l.modify k (fun x => { x with blank := v })).length = l.length := by simp
  have hb2 := hb.set_ (k * 4 + 3) (.bool v)
  have hset : ((l.flatMap nodeCells ++ rest).toArray).setIfInBounds (k * 4 + 3) (.bool v) = ((l.modify k (fun x => { x with blank := v })).flatMap nodeCells ++ rest).toArray := by
   rw [← flat_blank v l k hk]
   simp only [List.setIfInBounds_toArray]
   rw [List.set_append_left _ _ (by rw [hlf]; omega)]
  rw [hset] at hb2
  have hcell : ∃ u, w.cell? ⟨g, k * 4 + 3, none⟩ = some u := by
   rw [hb.cell]
   exact ⟨_, by rw [List.getElem?_toArray]; exact List.getElem?_eq_getElem (l := l.flatMap nodeCells ++ rest) (i := k * 4 + 3) (by rw [lA, hlf]; omega)⟩
  refine ⟨g, rfl, hcell, hb.frozen, hb.lt, ⟨?_, ?_, ⟨fun x hx => ?_, fun g hg => by simpa [World.setCell] using h3.2 g hg⟩, by rw [hml]; exact h4, h5, h6.setCell hB _, h7⟩, ?_⟩
  ·rw [hml]; exact h1.far hgT _
  ·rw [hml]
   exact Mine.mk_own ⟨rest, hb2, by
    have := hs
    simp only [lA, hlf, flat_len nodeCells nodeCells_len, hml] at this ⊢
    exact this⟩ (by rw [flat_len nodeCells nodeCells_len, hml]) hB hn hc
  ·rcases modify_mem hx with hx | ⟨y, hy, rfl⟩
   ·exact ⟨(h3.1 x hx).1, mine_set (h3.1 x hx).2 hb (by decide) _ _⟩
   ·exact ⟨(h3.1 y hy).1, mine_set (h3.1 y hy).2 hb (by decide) _ _⟩
  ·exact ⟨by simp [World.setCell], .inl rfl, fun g' hg' ht hr => Below.heap_setCell w ⟨g, k * 4 + 3, none⟩ _ g' (fun e => hr (by rw [e]; rfl))⟩
theorem blanked_any (R : RC) (hi : R.imp = false) (d : Nat) (st : RdSt) (row : Option Nat) (k : Int) (hk : 0 ≤ k) (b : Bool) (w : World) (hI : RdI R d st row w) :
  Calls prog 45 #[.pointer (some ⟨R.T, 0, none⟩), .int .i64 k, .bool b] w (Does R d row w (.tuple #[]) (blankK k b st)) := by
 unfold Does
 have HI0 := hid hI
 obtain ⟨a, bb, AN, cN, l, hc, hst, hrow⟩ := hI
 obtain ⟨c0, c1, c2, c3, c4, cf, cz⟩ := hc.cs hi
 obtain ⟨k, rfl⟩ : ∃ k' : Nat, k = k' := ⟨k.toNat, by omega⟩
 clear hk
 cases st with
 | none =>
  obtain rfl : bb = true := hst
  rw [show blankK (k : Int) b none = none from rfl]
  clear hc hrow c0 c1 c3 c4
  go_enter func45, ntmps45
  go_wp2
  go_end0
  exact ⟨rfl, row, HI0.out, Kr.refl _ _ _⟩
 | some s =>
  obtain ⟨rfl, ha, hns⟩ := hst
  rcases Nat.lt_or_ge k l.length with hlt | hge
  ·obtain ⟨g, rfl, ⟨u, hu⟩, hf, hz, hC, hK⟩ := hc.blanked hlt b
   have hlt' : (k : Int) < (l.length : Int) := by omega
   have HC := hid hC
   have HK := hid hK
   have HH : Hid (StOk (blankK (k : Int) b (some s)) false a (l.modify k (fun x => { x with blank := b }))) := (show StOk _ _ _ _ from ⟨rfl, ha, by rw [modify_map, ← hns]; simp⟩)
   subst hrow
   clear hc hC hK c0 c1 c3 HI0 hns
   go_enter func45, ntmps45
   go_wp2
   go_end0
   exact ⟨rfl, _, ⟨a, false, _, _, _, HC.out, HH.out, rfl⟩, HK.out⟩
  ·have hge3 : decide ((k : Int) < (l.length : Int)) = false := decide_eq_false (by omega)
   have hge2 : ¬ (k : Int) < (l.length : Int) := by omega
   have hno : blankK (k : Int) b (some s) = some s := by
    unfold blankK
    rw [Option.map_some, Int.toNat_natCast, List.modify_eq_self (by rw [hns, List.length_map]; exact hge)]
   rw [hno]
   clear hc hrow c0 c1 c3 hns hno
   go_enter func45, ntmps45
   go_wp2
   go_end0
   exact ⟨rfl, row, HI0.out, Kr.refl _ _ _⟩
theorem held_any (R : RC) (hi : R.imp = false) (N f : Nat) (HE : SC R N f) (d : Nat) (st : RdSt) (row : Option Nat) (w : World) (hI : RdI R d st row w) (hn : Need R.n (takeS R.sg st ⟨#[40]⟩) 11 f) (hd : d + f ≤ 100000) (hdp : Deep d st) :
  Calls prog 135 #[.pointer (some ⟨R.T, 0, none⟩)] w (Does R d row w (.int .i64 (heldS R.sg (exprF R.sg N f) d st).1) (heldS R.sg (exprF R.sg N f) d st).2) := by
 have HI0 := hid hI
 have HK0 := hid (Kr.refl R.T row w)
 unfold Does heldS
 dsimp only
 have HV := hid (fun (row : Option Nat) (W : World) h => HE.value R.U d (takeS R.sg st ⟨#[40]⟩) row W h hn hd (hdp.adv (adv_take _ _)))
 unfold PosS at HV
 generalize exprF R.sg N f .value d (takeS R.sg st ⟨#[40]⟩) = r at HV ⊢
 obtain ⟨k, st2⟩ := r
 dsimp only at HV ⊢
 clear hI hn hdp
 go_enter func135, ntmps135
 go_wp2_with fail
 refine pst (wants_any R hi d st row ⟨#[40]⟩ w HI0.out) HK0 ?_
 intro w1 row1 HI1 HK1
 go_wp2_with fail
 refine pst (HV.out _ _ HI1.out) HK1 ?_
 intro w2 row2 HI2 HK2
 go_wp2_with fail
 refine pst (wants_any R hi d st2 row2 ⟨#[41]⟩ w2 HI2.out) HK2 ?_
 intro w3 row3 HI3 HK3
 go_wp2
 go_ret
 exact ⟨rfl, row3, HI3.out, HK3.out⟩
theorem svariable_any (R : RC) (hi : R.imp = false) (N f : Nat) (HE : SC R N f) (d : Nat) (st : RdSt) (row : Option Nat) (w : World) (hI : RdI R d st row w) (hn : Need R.n (skipS (nmS R.sg st)) 11 f) (hd : d + f ≤ 100000) (hdp : Deep d st) :
  Calls prog 74 #[.pointer (some ⟨R.T, 0, none⟩)] w (Does R d row w (.int .i64 (varS R.sg (exprF R.sg N f) d false st).1) (varS R.sg (exprF R.sg N f) d false st).2) := by
 have HI0 := hid hI
 have HK0 := hid (Kr.refl R.T row w)
 have HLo := hid hI.lo
 unfold Does varS
 have hdp2 := (hdp.adv (adv_nm (sg := R.sg) st)).adv (adv_skip _)
 have HX := hid (textN_u R.U hi d st row w hI)
 generalize nmT R.sg st = tx at HX ⊢
 generalize nmS R.sg st = st1 at HX hn hdp2 ⊢
 have HS := hid (fun (U : Nat → Prop) (row : Option Nat) (W : World) h => mark_u U hi d st1 row ⟨#[61]⟩ W h)
 rcases bft (isM R.sg st1 ⟨#[61]⟩) with hM | hM
 ·rw [if_pos hM]
  rw [hM, skipIf_yes hM] at HS
  dsimp only
  obtain ⟨i0, hi0, hz0, hz1, hz2⟩ := info_parts infoInt
  have HII := hid (And.intro hi0 (And.intro hz0 (And.intro hz1 hz2)))
  have HV := hid (fun (U : Nat → Prop) (row : Option Nat) (W : World) h => HE.value U d (skipS st1) row W h hn hd hdp2)
  unfold PosS at HV
  generalize exprF R.sg N f .value d (skipS st1) = r at HV ⊢
  obtain ⟨k, st2⟩ := r
  dsimp only at HV ⊢
  clear hI hn hdp hdp2 hM hi0 hz0 hz1 hz2
  go_enter func74, ntmps74
  go_wp2_with fail
  refine pst (HX.out) HK0 ?_
  intro w1 row1 HI1 HK1
  have hz1 := HK1.out.size
  have HM1 := hid ((kid0 w1).more (B' := w.heap.size) (by omega))
  have HI1' := hid (HI1.out.res_new (A := some ⟨w1.heap.size, 0, none⟩) ((Below.refl _ _).alloc (Nat.le_refl _) (.cells #[] 3)) (fun g hg => by simp at hg; subst hg; simp))
  have HK1' := hid (HK1.out.below ((Below.refl _ _).alloc (Nat.le_refl _) (.cells #[] 3)))
  go_wp2_with fail
  refine (HS.out _ _ _ HI1'.out).mono ?_
  rintro e w2 ⟨rfl, row2, h2, k2⟩
  have HM2 := hid (HI1'.out.keepI k2 HM1.out)
  have HI2 := hid h2
  have HK2 := hid (HK1'.out.trans k2)
  clear h2 k2
  go_wp2_with fail
  refine (HV.out _ _ _ HI2.out).mono ?_
  rintro e w3 ⟨rfl, row3, h3, k3⟩
  have HM3 := hid (HI2.out.keepI k3 HM2.out)
  have HI3 := hid h3
  have HK3 := hid (HK2.out.trans k3)
  clear h3 k3
  have hz6 := HK3.out.size
  have HB0 := hid HLo.out.1
  go_wp2_with (at_builtin; (refine wpList_append_row _ rfl (.tmp 10) (.tmp 13) _ rfl w.heap.size 3 i0 (.int .i64 0) 1 8 underlying34 HII.out.1 HII.out.2.1 HII.out.2.2.1 HII.out.2.2.2 rfl (by decide) (.slice (some ⟨w1.heap.size, 0, none⟩) 0 0) 0 (intCells []) rfl (Mine.alloc HM3.out _) ⟨w3.heap.size, 0, none⟩ 1 1 [.int .i64 k] rfl rfl (int_new _ k _) (int_one _) (by unfold maxLen; omega) (by omega) (by simp; omega) ?_); intro v' w7 hown7 hg7 hwh7; obtain ⟨A7, c7, rfl, h7, m7⟩ := RdI.appended HI3.out HM3.out HB0.out ((Below.refl _ _).alloc (Nat.le_refl _) _) hown7 hg7 hwh7)
  have HK7 := hid ((HK3.out.below ((Below.refl _ _).alloc (Nat.le_refl _) _)).grown hg7 (fun g hg => by rw [ownBlk] at hg; exact (Mine.blk HM3.out hg).1))
  rw [← ints_snoc] at m7
  have HI7 := hid h7.unres
  have HM7 := hid m7
  clear hown7 hg7 hwh7 h7 m7
  go_wp2_with fail
  refine (wants_any R hi d st2 row3 ⟨#[59]⟩ w7 HI7.out).mono ?_
  rintro e w8 ⟨rfl, row8, h8, k8⟩
  replace HM7 := keep_row HI7 k8 HM7
  have HK8 := keep_kr HK7 k8
  have HI8 := hid h8
  clear h8 k8
  go_wp2_with fail
  refine pst (putK R.U hi d _ row8 12 tx A7 (0 + 1) c7 [k] w.heap.size w8 HI8.out HM7.out HLo.out) HK8 ?_
  intro w9 row9 HI9 HK9
  go_wp2
  go_ret
  exact ⟨rfl, row9, HI9.out, HK9.out⟩
 ·rw [if_neg (by rw [hM]; decide)]
  rw [hM, skipIf_no hM] at HS
  clear hI hn hdp hdp2 hM
  go_enter func74, ntmps74
  go_wp2_with fail
  refine pst (HX.out) HK0 ?_
  intro w1 row1 HI1 HK1
  have hz1 := HK1.out.size
  have HM1 := hid ((kid0 w1).more (B' := w.heap.size) (by omega))
  have HI1' := hid (HI1.out.next ((Below.refl _ _).alloc (Nat.le_refl _) (.cells #[] 3)))
  have HK1' := hid (HK1.out.below ((Below.refl _ _).alloc (Nat.le_refl _) (.cells #[] 3)))
  go_wp2_with fail
  refine (HS.out _ _ _ HI1'.out).mono ?_
  rintro e w2 ⟨rfl, row2, h2, k2⟩
  have HM2 := hid (HI1'.out.keepI k2 HM1.out)
  have HI2 := hid h2
  have HK2 := hid (HK1'.out.trans k2)
  clear h2 k2
  go_wp2_with fail
  refine (wants_any R hi d st1 row2 ⟨#[59]⟩ w2 HI2.out).mono ?_
  rintro e w3 ⟨rfl, row3, h3, k3⟩
  replace HM2 := keep_row HI2 k3 HM2
  have HK3 := keep_kr HK2 k3
  have HI3 := hid h3
  clear h3 k3
  go_wp2_with fail
  refine pst (putK R.U hi d _ row3 12 tx _ 0 0 [] w.heap.size w3 HI3.out HM2.out HLo.out) HK3 ?_
  intro w4 row4 HI4 HK4
  go_wp2
  go_ret
  exact ⟨rfl, row4, HI4.out, HK4.out⟩
end Go.Proofs.YtgbikafalcbibaaGreatDoor

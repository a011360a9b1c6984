
/-
  TellSo put together (merge.py): TellSo12, TellSo12n, TellSo13, TellSo14, TellSo15, TellSo16, TellSo16e, TellSo17, TellSo18, TellSo19, TellSo20, TellSo21, TellSo22.
-/
import Derived.Test.YtpfanhheodiamaaGreatDoorTellHd
namespace Go.Proofs.YtpfanhheodiamaaGreatDoor
open Go.RowKit
set_option linter.unusedVariables false
set_option linter.unusedSimpArgs false

set_option maxRecDepth 100000 in
set_option maxHeartbeats 3200000 in
theorem so_12 (T Sb : Nat) (A : Option Addr) (n c : Nat) (w0 w : World) (ps : List PN) (f : Nat) (text : ByteArray) (z : Bool) (j : Nat) (s fin : TS) (v0 : Nat) (hN : NodeC 21 46 T Sb A n c w0 ps f) (h : TL 46 T Sb A n c w0 s w) (hps : Nps w0 A n ps) (hjn : j < n) (hx : Hid (ps[j]? = some ⟨12, text, [(v0 : Int)], z⟩)) (hv : Hid (∀ v ∈ [(v0 : Int)], 0 ≤ v ∧ v < (f : Int) ∧ v < (n : Int))) (hL : LeftE (tellF ps f) (s.1, s.2.set j (s.1.length : Int)) ([Ev.sg 1 ⟨#[118, 97, 114]⟩] ++ ([Ev.sg 1 text] ++ ([mkE ⟨#[61]⟩] ++ ([Ev.kid (v0 : Int)] ++ ([mkE ⟨#[59]⟩] ++ []))))) fin) :
    Calls Tryz.prog 21 #[.pointer (some ⟨T, 0, none⟩), .int .i64 j] w (Puts 46 T Sb A n c w0 w fin) := by
  obtain ⟨b, off, A', c', rfl, hblt, x0, x1, x2, x3, hcap, hr⟩ := hps.atc hjn hx.out
  dsimp only at x0 x1 x2 x3 hcap hr
  simp only [List.length_cons, List.length_nil, Nat.zero_add, Nat.reduceAdd] at x2 hcap hr
  clear hps hx
  unfold Puts
  have HN := Lib.hid hN
  have hw0 := hv.out (v0 : Int) (by simp)
  have hv0f : v0 < f := by omega
  have hv0n : v0 < n := by omega
  clear hw0
  obtain ⟨b5, off5, rfl, hb5, _⟩ := int_at (k := 0) (x := (v0 : Int)) hr (by omega) rfl
  have HCK := Lib.hid (fun (W : World) (hW : Below w0.heap.size w0 W) (j : Nat) (v : Int) (hj : j < 1) (hd : ([(v0 : Int)] : List Int)[j]? = some v) => cell_kid (hr.below hW) hj hd)
  have HR := Lib.hid hr
  have HL := Lib.hid hL
  have HTT := Lib.hid h
  obtain ⟨AS, cS, hb, hmi, ho, h1, h2, h3, h4, h5, hbw⟩ := h
  have t1 := hb.cell 1
  have t2 := hb.cell 2
  have tz := hb.lt
  simp only [List.getElem?_toArray, List.getElem?_cons_zero, List.getElem?_cons_succ] at t1 t2
  have hoz := ho.lt
  obtain ⟨o0, e0⟩ := ho.there (i := j) hjn
  have hof := ho.frozen
  have gj : (j : Int) < n := by omega
  have gj0 : (0 : Int) ≤ (j : Int) := by omega
  clear hb hmi ho h1 h2 h3 h4 h5 hbw hL hN hv hr
  go_enter Tryz.func21, Tryz.ntmps21
  go_upto_region 1 with fail
  go_still_tail 11, (by kernel_rfl)
  change wpList _ _ _ _ _ w.drew
  go_upto_region 2 with fail
  have HT1 := Lib.hid (TL.start HTT.out hjn).drew
  have P1 : Kp T Sb w (w.setCell ⟨Sb, j, none⟩ (.int .i64 s.1.length)).drew := ((Kp.refl T Sb w).setS j _).drew
  clear t1 t2 tz hoz e0 hof HTT
  generalize (w.setCell ⟨Sb, j, none⟩ (.int .i64 s.1.length)).drew = W1 at HT1 P1 ⊢
  generalize hs0 : (s.1, s.2.set j (s.1.length : Int)) = S0 at HT1 HL
  clear hs0
  have hT1 := HT1.out
  obtain ⟨AS', cS', hb, _⟩ := hT1
  have t0 := hb.cell 0
  simp only [List.getElem?_toArray, List.getElem?_cons_zero, List.getElem?_cons_succ] at t0
  have tz := hb.lt
  obtain ⟨hcw, hfw⟩ := bcell HT1.out.below
  have hz1 := HT1.out.below.size
  go_upto_region 3 with fail
  have K := Blk.new W1 48 #[.int .i64 12, .string text, .slice (some ⟨b5, off5, none⟩) 1 c', .bool z]
  have P : Kp T Sb w (W1.alloc (.cells #[.int .i64 12, .string text, .slice (some ⟨b5, off5, none⟩) 1 c', .bool z] 48)) := P1.alloc _
  have ht := Lib.hid (HT1.out.alloc (.cells #[.int .i64 12, .string text, .slice (some ⟨b5, off5, none⟩) 1 c', .bool z] 48))
  have zT := HT1.out.blkT
  have zS := HT1.out.blkS
  have gT : W1.heap.size ≠ T := by omega
  have gS : W1.heap.size ≠ Sb := by omega
  have zW : W1.heap.size < (W1.alloc (.cells #[.int .i64 12, .string text, .slice (some ⟨b5, off5, none⟩) 1 c', .bool z] 48)).heap.size := by simp
  clear hb t0 tz hcw hfw hz1 HT1 P1 x0 x1 x2 x3 hblt
  have hbd := HL.out.seg.1
  replace HL := Lib.hid HL.out.seg.2
  have HM := Lib.hid (fun W h => specWord_any T Sb (some ⟨b, off, none⟩) n c w0 W _ ⟨#[118, 97, 114]⟩ h (run1_len (tellF_mono ps f) hbd))
  go_wp2_with fail
  refine (HM.out _ ht.out).mono ?_
  rintro e w1 ⟨rfl, ht2, hk2⟩
  have K' := K.kp hk2 gT gS (by decide)
  have P' := P.trans hk2
  clear K P
  have K := K'
  have P := P'
  clear K' P' HM ht zT zS zW
  have ht := Lib.hid (show TL 46 T Sb (some ⟨b, off, none⟩) n c w0 (runE (tellF ps f) S0 [Ev.sg 1 ⟨#[118, 97, 114]⟩]) w1 from ht2)
  have zT := ht2.blkT
  have zS := ht2.blkS
  have zW := K.lt
  clear ht2 hk2 hbd
  generalize runE (tellF ps f) S0 [Ev.sg 1 ⟨#[118, 97, 114]⟩] = S1 at HL ht
  have hbd := HL.out.seg.1
  replace HL := Lib.hid HL.out.seg.2
  have k0 := K.cell 0
  have k1 := K.cell 1
  have k2 := K.cell 2
  have k3 := K.cell 3
  have kz := K.lt
  simp only [List.getElem?_toArray, List.getElem?_cons_zero, List.getElem?_cons_succ] at k0 k1 k2 k3
  have HM := Lib.hid (fun W h => specWord_any T Sb (some ⟨b, off, none⟩) n c w0 W _ text h (run1_len (tellF_mono ps f) hbd))
  go_wp2_with fail
  refine (HM.out _ ht.out).mono ?_
  rintro e w2 ⟨rfl, ht2, hk2⟩
  have K' := K.kp hk2 gT gS (by decide)
  have P' := P.trans hk2
  clear K P k0 k1 k2 k3 kz
  have K := K'
  have P := P'
  clear K' P' HM ht zT zS zW
  have ht := Lib.hid (show TL 46 T Sb (some ⟨b, off, none⟩) n c w0 (runE (tellF ps f) S1 [Ev.sg 1 text]) w2 from ht2)
  have zT := ht2.blkT
  have zS := ht2.blkS
  have zW := K.lt
  clear ht2 hk2 hbd
  generalize runE (tellF ps f) S1 [Ev.sg 1 text] = S2 at HL ht
  have hbd := HL.out.seg.1
  replace HL := Lib.hid HL.out.seg.2
  have k0 := K.cell 0
  have k1 := K.cell 1
  have k2 := K.cell 2
  have k3 := K.cell 3
  have kz := K.lt
  simp only [List.getElem?_toArray, List.getElem?_cons_zero, List.getElem?_cons_succ] at k0 k1 k2 k3
  have HM := Lib.hid (fun W h => specMark_any T Sb (some ⟨b, off, none⟩) n c w0 W _ ⟨#[61]⟩ h (run1_len (tellF_mono ps f) hbd))
  go_wp2_with fail
  refine (HM.out _ ht.out).mono ?_
  rintro e w3 ⟨rfl, ht2, hk2⟩
  have K' := K.kp hk2 gT gS (by decide)
  have P' := P.trans hk2
  clear K P k0 k1 k2 k3 kz
  have K := K'
  have P := P'
  clear K' P' HM ht zT zS zW
  have ht := Lib.hid (show TL 46 T Sb (some ⟨b, off, none⟩) n c w0 (runE (tellF ps f) S2 [mkE ⟨#[61]⟩]) w3 from ht2)
  have zT := ht2.blkT
  have zS := ht2.blkS
  have zW := K.lt
  clear ht2 hk2 hbd
  generalize runE (tellF ps f) S2 [mkE ⟨#[61]⟩] = S3 at HL ht
  have hbd := HL.out.seg.1
  replace HL := Lib.hid HL.out.seg.2
  have k0 := K.cell 0
  have k1 := K.cell 1
  have k2 := K.cell 2
  have k3 := K.cell 3
  have kz := K.lt
  simp only [List.getElem?_toArray, List.getElem?_cons_zero, List.getElem?_cons_succ] at k0 k1 k2 k3
  have cv := HCK.out _ ht.out.below 0 (v0 : Int) (by omega) rfl
  simp only [Nat.add_zero] at cv
  have HM := Lib.hid (fun W h => HN.out v0 _ W hv0f hv0n h hbd)
  go_wp2_with fail
  refine (HM.out _ ht.out).mono ?_
  rintro e w4 ⟨rfl, ht2, hk2⟩
  have K' := K.kp hk2 gT gS (by decide)
  have P' := P.trans hk2
  clear K P k0 k1 k2 k3 kz
  have K := K'
  have P := P'
  clear K' P' HM ht zT zS zW cv
  have ht := Lib.hid (show TL 46 T Sb (some ⟨b, off, none⟩) n c w0 (runE (tellF ps f) S3 [Ev.kid (v0 : Int)]) w4 from ht2)
  have zT := ht2.blkT
  have zS := ht2.blkS
  have zW := K.lt
  clear ht2 hk2 hbd
  generalize runE (tellF ps f) S3 [Ev.kid (v0 : Int)] = S4 at HL ht
  have hbd := HL.out.seg.1
  replace HL := Lib.hid HL.out.seg.2
  have k0 := K.cell 0
  have k1 := K.cell 1
  have k2 := K.cell 2
  have k3 := K.cell 3
  have kz := K.lt
  simp only [List.getElem?_toArray, List.getElem?_cons_zero, List.getElem?_cons_succ] at k0 k1 k2 k3
  have HM := Lib.hid (fun W h => specMark_any T Sb (some ⟨b, off, none⟩) n c w0 W _ ⟨#[59]⟩ h (run1_len (tellF_mono ps f) hbd))
  go_wp2_with fail
  refine (HM.out _ ht.out).mono ?_
  rintro e w5 ⟨rfl, ht2, hk2⟩
  have K' := K.kp hk2 gT gS (by decide)
  have P' := P.trans hk2
  clear K P k0 k1 k2 k3 kz
  have K := K'
  have P := P'
  clear K' P' HM ht zT zS zW
  have ht := Lib.hid (show TL 46 T Sb (some ⟨b, off, none⟩) n c w0 (runE (tellF ps f) S4 [mkE ⟨#[59]⟩]) w5 from ht2)
  have zT := ht2.blkT
  have zS := ht2.blkS
  have zW := K.lt
  clear ht2 hk2 hbd
  generalize runE (tellF ps f) S4 [mkE ⟨#[59]⟩] = S5 at HL ht
  have k0 := K.cell 0
  have k1 := K.cell 1
  have k2 := K.cell 2
  have k3 := K.cell 3
  simp only [List.getElem?_toArray, List.getElem?_cons_zero, List.getElem?_cons_succ] at k0 k1 k2 k3
  have hfin := HL.out.done
  subst hfin
  clear HL HN
  go_wp2
  go_end0
  exact ⟨rfl, ht.out, P⟩
set_option maxRecDepth 100000 in
set_option maxHeartbeats 3200000 in
theorem so_12n (T Sb : Nat) (A : Option Addr) (n c : Nat) (w0 w : World) (ps : List PN) (f : Nat) (text : ByteArray) (z : Bool) (j : Nat) (s fin : TS)  (hN : NodeC 21 46 T Sb A n c w0 ps f) (h : TL 46 T Sb A n c w0 s w) (hps : Nps w0 A n ps) (hjn : j < n) (hx : Hid (ps[j]? = some ⟨12, text, [], z⟩)) (hv : Hid (∀ v ∈ [], 0 ≤ v ∧ v < (f : Int) ∧ v < (n : Int))) (hL : LeftE (tellF ps f) (s.1, s.2.set j (s.1.length : Int)) ([Ev.sg 1 ⟨#[118, 97, 114]⟩] ++ ([Ev.sg 1 text] ++ ([mkE ⟨#[59]⟩] ++ []))) fin) :
    Calls Tryz.prog 21 #[.pointer (some ⟨T, 0, none⟩), .int .i64 j] w (Puts 46 T Sb A n c w0 w fin) := by
  obtain ⟨b, off, A', c', rfl, hblt, x0, x1, x2, x3, hcap, hr⟩ := hps.atc hjn hx.out
  dsimp only at x0 x1 x2 x3 hcap hr
  simp only [List.length_cons, List.length_nil, Nat.zero_add, Nat.reduceAdd] at x2 hcap hr
  clear hps hx
  unfold Puts
  have HN := Lib.hid hN
  have HR := Lib.hid hr
  have HL := Lib.hid hL
  have HTT := Lib.hid h
  obtain ⟨AS, cS, hb, hmi, ho, h1, h2, h3, h4, h5, hbw⟩ := h
  have t1 := hb.cell 1
  have t2 := hb.cell 2
  have tz := hb.lt
  simp only [List.getElem?_toArray, List.getElem?_cons_zero, List.getElem?_cons_succ] at t1 t2
  have hoz := ho.lt
  obtain ⟨o0, e0⟩ := ho.there (i := j) hjn
  have hof := ho.frozen
  have gj : (j : Int) < n := by omega
  have gj0 : (0 : Int) ≤ (j : Int) := by omega
  clear hb hmi ho h1 h2 h3 h4 h5 hbw hL hN hv hr
  go_enter Tryz.func21, Tryz.ntmps21
  go_upto_region 1 with fail
  go_still_tail 11, (by kernel_rfl)
  change wpList _ _ _ _ _ w.drew
  go_upto_region 2 with fail
  have HT1 := Lib.hid (TL.start HTT.out hjn).drew
  have P1 : Kp T Sb w (w.setCell ⟨Sb, j, none⟩ (.int .i64 s.1.length)).drew := ((Kp.refl T Sb w).setS j _).drew
  clear t1 t2 tz hoz e0 hof HTT
  generalize (w.setCell ⟨Sb, j, none⟩ (.int .i64 s.1.length)).drew = W1 at HT1 P1 ⊢
  generalize hs0 : (s.1, s.2.set j (s.1.length : Int)) = S0 at HT1 HL
  clear hs0
  have hT1 := HT1.out
  obtain ⟨AS', cS', hb, _⟩ := hT1
  have t0 := hb.cell 0
  simp only [List.getElem?_toArray, List.getElem?_cons_zero, List.getElem?_cons_succ] at t0
  have tz := hb.lt
  obtain ⟨hcw, hfw⟩ := bcell HT1.out.below
  have hz1 := HT1.out.below.size
  go_upto_region 3 with fail
  have K := Blk.new W1 48 #[.int .i64 12, .string text, .slice A' 0 c', .bool z]
  have P : Kp T Sb w (W1.alloc (.cells #[.int .i64 12, .string text, .slice A' 0 c', .bool z] 48)) := P1.alloc _
  have ht := Lib.hid (HT1.out.alloc (.cells #[.int .i64 12, .string text, .slice A' 0 c', .bool z] 48))
  have zT := HT1.out.blkT
  have zS := HT1.out.blkS
  have gT : W1.heap.size ≠ T := by omega
  have gS : W1.heap.size ≠ Sb := by omega
  have zW : W1.heap.size < (W1.alloc (.cells #[.int .i64 12, .string text, .slice A' 0 c', .bool z] 48)).heap.size := by simp
  clear hb t0 tz hcw hfw hz1 HT1 P1 x0 x1 x2 x3 hblt
  have hbd := HL.out.seg.1
  replace HL := Lib.hid HL.out.seg.2
  have HM := Lib.hid (fun W h => specWord_any T Sb (some ⟨b, off, none⟩) n c w0 W _ ⟨#[118, 97, 114]⟩ h (run1_len (tellF_mono ps f) hbd))
  go_wp2_with fail
  refine (HM.out _ ht.out).mono ?_
  rintro e w1 ⟨rfl, ht2, hk2⟩
  have K' := K.kp hk2 gT gS (by decide)
  have P' := P.trans hk2
  clear K P
  have K := K'
  have P := P'
  clear K' P' HM ht zT zS zW
  have ht := Lib.hid (show TL 46 T Sb (some ⟨b, off, none⟩) n c w0 (runE (tellF ps f) S0 [Ev.sg 1 ⟨#[118, 97, 114]⟩]) w1 from ht2)
  have zT := ht2.blkT
  have zS := ht2.blkS
  have zW := K.lt
  clear ht2 hk2 hbd
  generalize runE (tellF ps f) S0 [Ev.sg 1 ⟨#[118, 97, 114]⟩] = S1 at HL ht
  have hbd := HL.out.seg.1
  replace HL := Lib.hid HL.out.seg.2
  have k0 := K.cell 0
  have k1 := K.cell 1
  have k2 := K.cell 2
  have k3 := K.cell 3
  have kz := K.lt
  simp only [List.getElem?_toArray, List.getElem?_cons_zero, List.getElem?_cons_succ] at k0 k1 k2 k3
  have HM := Lib.hid (fun W h => specWord_any T Sb (some ⟨b, off, none⟩) n c w0 W _ text h (run1_len (tellF_mono ps f) hbd))
  go_wp2_with fail
  refine (HM.out _ ht.out).mono ?_
  rintro e w2 ⟨rfl, ht2, hk2⟩
  have K' := K.kp hk2 gT gS (by decide)
  have P' := P.trans hk2
  clear K P k0 k1 k2 k3 kz
  have K := K'
  have P := P'
  clear K' P' HM ht zT zS zW
  have ht := Lib.hid (show TL 46 T Sb (some ⟨b, off, none⟩) n c w0 (runE (tellF ps f) S1 [Ev.sg 1 text]) w2 from ht2)
  have zT := ht2.blkT
  have zS := ht2.blkS
  have zW := K.lt
  clear ht2 hk2 hbd
  generalize runE (tellF ps f) S1 [Ev.sg 1 text] = S2 at HL ht
  have hbd := HL.out.seg.1
  replace HL := Lib.hid HL.out.seg.2
  have k0 := K.cell 0
  have k1 := K.cell 1
  have k2 := K.cell 2
  have k3 := K.cell 3
  have kz := K.lt
  simp only [List.getElem?_toArray, List.getElem?_cons_zero, List.getElem?_cons_succ] at k0 k1 k2 k3
  have HM := Lib.hid (fun W h => specMark_any T Sb (some ⟨b, off, none⟩) n c w0 W _ ⟨#[59]⟩ h (run1_len (tellF_mono ps f) hbd))
  go_wp2_with fail
  refine (HM.out _ ht.out).mono ?_
  rintro e w3 ⟨rfl, ht2, hk2⟩
  have K' := K.kp hk2 gT gS (by decide)
  have P' := P.trans hk2
  clear K P k0 k1 k2 k3 kz
  have K := K'
  have P := P'
  clear K' P' HM ht zT zS zW
  have ht := Lib.hid (show TL 46 T Sb (some ⟨b, off, none⟩) n c w0 (runE (tellF ps f) S2 [mkE ⟨#[59]⟩]) w3 from ht2)
  have zT := ht2.blkT
  have zS := ht2.blkS
  have zW := K.lt
  clear ht2 hk2 hbd
  generalize runE (tellF ps f) S2 [mkE ⟨#[59]⟩] = S3 at HL ht
  have k0 := K.cell 0
  have k1 := K.cell 1
  have k2 := K.cell 2
  have k3 := K.cell 3
  simp only [List.getElem?_toArray, List.getElem?_cons_zero, List.getElem?_cons_succ] at k0 k1 k2 k3
  have hfin := HL.out.done
  subst hfin
  clear HL HN
  go_wp2
  go_end0
  exact ⟨rfl, ht.out, P⟩
set_option maxRecDepth 100000 in
set_option maxHeartbeats 3200000 in
theorem so_13 (T Sb : Nat) (A : Option Addr) (n c : Nat) (w0 w : World) (ps : List PN) (f : Nat) (text : ByteArray) (z : Bool) (j : Nat) (s fin : TS) (v0 : Nat) (hN : NodeC 21 46 T Sb A n c w0 ps f) (h : TL 46 T Sb A n c w0 s w) (hps : Nps w0 A n ps) (hjn : j < n) (hx : Hid (ps[j]? = some ⟨13, text, [(v0 : Int)], z⟩)) (hv : Hid (∀ v ∈ [(v0 : Int)], 0 ≤ v ∧ v < (f : Int) ∧ v < (n : Int))) (hL : LeftE (tellF ps f) (s.1, s.2.set j (s.1.length : Int)) ([Ev.sg 1 text] ++ ([mkE ⟨#[61]⟩] ++ ([Ev.kid (v0 : Int)] ++ ([mkE ⟨#[59]⟩] ++ [])))) fin) :
    Calls Tryz.prog 21 #[.pointer (some ⟨T, 0, none⟩), .int .i64 j] w (Puts 46 T Sb A n c w0 w fin) := by
  obtain ⟨b, off, A', c', rfl, hblt, x0, x1, x2, x3, hcap, hr⟩ := hps.atc hjn hx.out
  dsimp only at x0 x1 x2 x3 hcap hr
  simp only [List.length_cons, List.length_nil, Nat.zero_add, Nat.reduceAdd] at x2 hcap hr
  clear hps hx
  unfold Puts
  have HN := Lib.hid hN
  have hw0 := hv.out (v0 : Int) (by simp)
  have hv0f : v0 < f := by omega
  have hv0n : v0 < n := by omega
  clear hw0
  obtain ⟨b5, off5, rfl, hb5, _⟩ := int_at (k := 0) (x := (v0 : Int)) hr (by omega) rfl
  have HCK := Lib.hid (fun (W : World) (hW : Below w0.heap.size w0 W) (j : Nat) (v : Int) (hj : j < 1) (hd : ([(v0 : Int)] : List Int)[j]? = some v) => cell_kid (hr.below hW) hj hd)
  have HR := Lib.hid hr
  have HL := Lib.hid hL
  have HTT := Lib.hid h
  obtain ⟨AS, cS, hb, hmi, ho, h1, h2, h3, h4, h5, hbw⟩ := h
  have t1 := hb.cell 1
  have t2 := hb.cell 2
  have tz := hb.lt
  simp only [List.getElem?_toArray, List.getElem?_cons_zero, List.getElem?_cons_succ] at t1 t2
  have hoz := ho.lt
  obtain ⟨o0, e0⟩ := ho.there (i := j) hjn
  have hof := ho.frozen
  have gj : (j : Int) < n := by omega
  have gj0 : (0 : Int) ≤ (j : Int) := by omega
  clear hb hmi ho h1 h2 h3 h4 h5 hbw hL hN hv hr
  go_enter Tryz.func21, Tryz.ntmps21
  go_upto_region 1 with fail
  go_still_tail 11, (by kernel_rfl)
  change wpList _ _ _ _ _ w.drew
  go_upto_region 2 with fail
  have HT1 := Lib.hid (TL.start HTT.out hjn).drew
  have P1 : Kp T Sb w (w.setCell ⟨Sb, j, none⟩ (.int .i64 s.1.length)).drew := ((Kp.refl T Sb w).setS j _).drew
  clear t1 t2 tz hoz e0 hof HTT
  generalize (w.setCell ⟨Sb, j, none⟩ (.int .i64 s.1.length)).drew = W1 at HT1 P1 ⊢
  generalize hs0 : (s.1, s.2.set j (s.1.length : Int)) = S0 at HT1 HL
  clear hs0
  have hT1 := HT1.out
  obtain ⟨AS', cS', hb, _⟩ := hT1
  have t0 := hb.cell 0
  simp only [List.getElem?_toArray, List.getElem?_cons_zero, List.getElem?_cons_succ] at t0
  have tz := hb.lt
  obtain ⟨hcw, hfw⟩ := bcell HT1.out.below
  have hz1 := HT1.out.below.size
  go_upto_region 3 with fail
  have K := Blk.new W1 48 #[.int .i64 13, .string text, .slice (some ⟨b5, off5, none⟩) 1 c', .bool z]
  have P : Kp T Sb w (W1.alloc (.cells #[.int .i64 13, .string text, .slice (some ⟨b5, off5, none⟩) 1 c', .bool z] 48)) := P1.alloc _
  have ht := Lib.hid (HT1.out.alloc (.cells #[.int .i64 13, .string text, .slice (some ⟨b5, off5, none⟩) 1 c', .bool z] 48))
  have zT := HT1.out.blkT
  have zS := HT1.out.blkS
  have gT : W1.heap.size ≠ T := by omega
  have gS : W1.heap.size ≠ Sb := by omega
  have zW : W1.heap.size < (W1.alloc (.cells #[.int .i64 13, .string text, .slice (some ⟨b5, off5, none⟩) 1 c', .bool z] 48)).heap.size := by simp
  clear hb t0 tz hcw hfw hz1 HT1 P1 x0 x1 x2 x3 hblt
  have hbd := HL.out.seg.1
  replace HL := Lib.hid HL.out.seg.2
  have HM := Lib.hid (fun W h => specWord_any T Sb (some ⟨b, off, none⟩) n c w0 W _ text h (run1_len (tellF_mono ps f) hbd))
  go_wp2_with fail
  refine (HM.out _ ht.out).mono ?_
  rintro e w1 ⟨rfl, ht2, hk2⟩
  have K' := K.kp hk2 gT gS (by decide)
  have P' := P.trans hk2
  clear K P
  have K := K'
  have P := P'
  clear K' P' HM ht zT zS zW
  have ht := Lib.hid (show TL 46 T Sb (some ⟨b, off, none⟩) n c w0 (runE (tellF ps f) S0 [Ev.sg 1 text]) w1 from ht2)
  have zT := ht2.blkT
  have zS := ht2.blkS
  have zW := K.lt
  clear ht2 hk2 hbd
  generalize runE (tellF ps f) S0 [Ev.sg 1 text] = S1 at HL ht
  have hbd := HL.out.seg.1
  replace HL := Lib.hid HL.out.seg.2
  have k0 := K.cell 0
  have k1 := K.cell 1
  have k2 := K.cell 2
  have k3 := K.cell 3
  have kz := K.lt
  simp only [List.getElem?_toArray, List.getElem?_cons_zero, List.getElem?_cons_succ] at k0 k1 k2 k3
  have HM := Lib.hid (fun W h => specMark_any T Sb (some ⟨b, off, none⟩) n c w0 W _ ⟨#[61]⟩ h (run1_len (tellF_mono ps f) hbd))
  go_wp2_with fail
  refine (HM.out _ ht.out).mono ?_
  rintro e w2 ⟨rfl, ht2, hk2⟩
  have K' := K.kp hk2 gT gS (by decide)
  have P' := P.trans hk2
  clear K P k0 k1 k2 k3 kz
  have K := K'
  have P := P'
  clear K' P' HM ht zT zS zW
  have ht := Lib.hid (show TL 46 T Sb (some ⟨b, off, none⟩) n c w0 (runE (tellF ps f) S1 [mkE ⟨#[61]⟩]) w2 from ht2)
  have zT := ht2.blkT
  have zS := ht2.blkS
  have zW := K.lt
  clear ht2 hk2 hbd
  generalize runE (tellF ps f) S1 [mkE ⟨#[61]⟩] = S2 at HL ht
  have hbd := HL.out.seg.1
  replace HL := Lib.hid HL.out.seg.2
  have k0 := K.cell 0
  have k1 := K.cell 1
  have k2 := K.cell 2
  have k3 := K.cell 3
  have kz := K.lt
  simp only [List.getElem?_toArray, List.getElem?_cons_zero, List.getElem?_cons_succ] at k0 k1 k2 k3
  have cv := HCK.out _ ht.out.below 0 (v0 : Int) (by omega) rfl
  simp only [Nat.add_zero] at cv
  have HM := Lib.hid (fun W h => HN.out v0 _ W hv0f hv0n h hbd)
  go_wp2_with fail
  refine (HM.out _ ht.out).mono ?_
  rintro e w3 ⟨rfl, ht2, hk2⟩
  have K' := K.kp hk2 gT gS (by decide)
  have P' := P.trans hk2
  clear K P k0 k1 k2 k3 kz
  have K := K'
  have P := P'
  clear K' P' HM ht zT zS zW cv
  have ht := Lib.hid (show TL 46 T Sb (some ⟨b, off, none⟩) n c w0 (runE (tellF ps f) S2 [Ev.kid (v0 : Int)]) w3 from ht2)
  have zT := ht2.blkT
  have zS := ht2.blkS
  have zW := K.lt
  clear ht2 hk2 hbd
  generalize runE (tellF ps f) S2 [Ev.kid (v0 : Int)] = S3 at HL ht
  have hbd := HL.out.seg.1
  replace HL := Lib.hid HL.out.seg.2
  have k0 := K.cell 0
  have k1 := K.cell 1
  have k2 := K.cell 2
  have k3 := K.cell 3
  have kz := K.lt
  simp only [List.getElem?_toArray, List.getElem?_cons_zero, List.getElem?_cons_succ] at k0 k1 k2 k3
  have HM := Lib.hid (fun W h => specMark_any T Sb (some ⟨b, off, none⟩) n c w0 W _ ⟨#[59]⟩ h (run1_len (tellF_mono ps f) hbd))
  go_wp2_with fail
  refine (HM.out _ ht.out).mono ?_
  rintro e w4 ⟨rfl, ht2, hk2⟩
  have K' := K.kp hk2 gT gS (by decide)
  have P' := P.trans hk2
  clear K P k0 k1 k2 k3 kz
  have K := K'
  have P := P'
  clear K' P' HM ht zT zS zW
  have ht := Lib.hid (show TL 46 T Sb (some ⟨b, off, none⟩) n c w0 (runE (tellF ps f) S3 [mkE ⟨#[59]⟩]) w4 from ht2)
  have zT := ht2.blkT
  have zS := ht2.blkS
  have zW := K.lt
  clear ht2 hk2 hbd
  generalize runE (tellF ps f) S3 [mkE ⟨#[59]⟩] = S4 at HL ht
  have k0 := K.cell 0
  have k1 := K.cell 1
  have k2 := K.cell 2
  have k3 := K.cell 3
  simp only [List.getElem?_toArray, List.getElem?_cons_zero, List.getElem?_cons_succ] at k0 k1 k2 k3
  have hfin := HL.out.done
  subst hfin
  clear HL HN
  go_wp2
  go_end0
  exact ⟨rfl, ht.out, P⟩
set_option maxRecDepth 100000 in
set_option maxHeartbeats 3200000 in
theorem so_14 (T Sb : Nat) (A : Option Addr) (n c : Nat) (w0 w : World) (ps : List PN) (f : Nat) (text : ByteArray) (z : Bool) (j : Nat) (s fin : TS) (v0 : Nat) (hN : NodeC 21 46 T Sb A n c w0 ps f) (h : TL 46 T Sb A n c w0 s w) (hps : Nps w0 A n ps) (hjn : j < n) (hx : Hid (ps[j]? = some ⟨14, text, [(v0 : Int)], z⟩)) (hv : Hid (∀ v ∈ [(v0 : Int)], 0 ≤ v ∧ v < (f : Int) ∧ v < (n : Int))) (hL : LeftE (tellF ps f) (s.1, s.2.set j (s.1.length : Int)) ([Ev.kid (v0 : Int)] ++ ([mkE ⟨#[59]⟩] ++ [])) fin) :
    Calls Tryz.prog 21 #[.pointer (some ⟨T, 0, none⟩), .int .i64 j] w (Puts 46 T Sb A n c w0 w fin) := by
  obtain ⟨b, off, A', c', rfl, hblt, x0, x1, x2, x3, hcap, hr⟩ := hps.atc hjn hx.out
  dsimp only at x0 x1 x2 x3 hcap hr
  simp only [List.length_cons, List.length_nil, Nat.zero_add, Nat.reduceAdd] at x2 hcap hr
  clear hps hx
  unfold Puts
  have HN := Lib.hid hN
  have hw0 := hv.out (v0 : Int) (by simp)
  have hv0f : v0 < f := by omega
  have hv0n : v0 < n := by omega
  clear hw0
  obtain ⟨b5, off5, rfl, hb5, _⟩ := int_at (k := 0) (x := (v0 : Int)) hr (by omega) rfl
  have HCK := Lib.hid (fun (W : World) (hW : Below w0.heap.size w0 W) (j : Nat) (v : Int) (hj : j < 1) (hd : ([(v0 : Int)] : List Int)[j]? = some v) => cell_kid (hr.below hW) hj hd)
  have HR := Lib.hid hr
  have HL := Lib.hid hL
  have HTT := Lib.hid h
  obtain ⟨AS, cS, hb, hmi, ho, h1, h2, h3, h4, h5, hbw⟩ := h
  have t1 := hb.cell 1
  have t2 := hb.cell 2
  have tz := hb.lt
  simp only [List.getElem?_toArray, List.getElem?_cons_zero, List.getElem?_cons_succ] at t1 t2
  have hoz := ho.lt
  obtain ⟨o0, e0⟩ := ho.there (i := j) hjn
  have hof := ho.frozen
  have gj : (j : Int) < n := by omega
  have gj0 : (0 : Int) ≤ (j : Int) := by omega
  clear hb hmi ho h1 h2 h3 h4 h5 hbw hL hN hv hr
  go_enter Tryz.func21, Tryz.ntmps21
  go_upto_region 1 with fail
  go_still_tail 11, (by kernel_rfl)
  change wpList _ _ _ _ _ w.drew
  go_upto_region 2 with fail
  have HT1 := Lib.hid (TL.start HTT.out hjn).drew
  have P1 : Kp T Sb w (w.setCell ⟨Sb, j, none⟩ (.int .i64 s.1.length)).drew := ((Kp.refl T Sb w).setS j _).drew
  clear t1 t2 tz hoz e0 hof HTT
  generalize (w.setCell ⟨Sb, j, none⟩ (.int .i64 s.1.length)).drew = W1 at HT1 P1 ⊢
  generalize hs0 : (s.1, s.2.set j (s.1.length : Int)) = S0 at HT1 HL
  clear hs0
  have hT1 := HT1.out
  obtain ⟨AS', cS', hb, _⟩ := hT1
  have t0 := hb.cell 0
  simp only [List.getElem?_toArray, List.getElem?_cons_zero, List.getElem?_cons_succ] at t0
  have tz := hb.lt
  obtain ⟨hcw, hfw⟩ := bcell HT1.out.below
  have hz1 := HT1.out.below.size
  go_upto_region 3 with fail
  have K := Blk.new W1 48 #[.int .i64 14, .string text, .slice (some ⟨b5, off5, none⟩) 1 c', .bool z]
  have P : Kp T Sb w (W1.alloc (.cells #[.int .i64 14, .string text, .slice (some ⟨b5, off5, none⟩) 1 c', .bool z] 48)) := P1.alloc _
  have ht := Lib.hid (HT1.out.alloc (.cells #[.int .i64 14, .string text, .slice (some ⟨b5, off5, none⟩) 1 c', .bool z] 48))
  have zT := HT1.out.blkT
  have zS := HT1.out.blkS
  have gT : W1.heap.size ≠ T := by omega
  have gS : W1.heap.size ≠ Sb := by omega
  have zW : W1.heap.size < (W1.alloc (.cells #[.int .i64 14, .string text, .slice (some ⟨b5, off5, none⟩) 1 c', .bool z] 48)).heap.size := by simp
  clear hb t0 tz hcw hfw hz1 HT1 P1 x0 x1 x2 x3 hblt
  have hbd := HL.out.seg.1
  replace HL := Lib.hid HL.out.seg.2
  have cv := HCK.out _ ht.out.below 0 (v0 : Int) (by omega) rfl
  simp only [Nat.add_zero] at cv
  have HM := Lib.hid (fun W h => HN.out v0 _ W hv0f hv0n h hbd)
  go_wp2_with fail
  refine (HM.out _ ht.out).mono ?_
  rintro e w1 ⟨rfl, ht2, hk2⟩
  have K' := K.kp hk2 gT gS (by decide)
  have P' := P.trans hk2
  clear K P
  have K := K'
  have P := P'
  clear K' P' HM ht zT zS zW cv
  have ht := Lib.hid (show TL 46 T Sb (some ⟨b, off, none⟩) n c w0 (runE (tellF ps f) S0 [Ev.kid (v0 : Int)]) w1 from ht2)
  have zT := ht2.blkT
  have zS := ht2.blkS
  have zW := K.lt
  clear ht2 hk2 hbd
  generalize runE (tellF ps f) S0 [Ev.kid (v0 : Int)] = S1 at HL ht
  have hbd := HL.out.seg.1
  replace HL := Lib.hid HL.out.seg.2
  have k0 := K.cell 0
  have k1 := K.cell 1
  have k2 := K.cell 2
  have k3 := K.cell 3
  have kz := K.lt
  simp only [List.getElem?_toArray, List.getElem?_cons_zero, List.getElem?_cons_succ] at k0 k1 k2 k3
  have HM := Lib.hid (fun W h => specMark_any T Sb (some ⟨b, off, none⟩) n c w0 W _ ⟨#[59]⟩ h (run1_len (tellF_mono ps f) hbd))
  go_wp2_with fail
  refine (HM.out _ ht.out).mono ?_
  rintro e w2 ⟨rfl, ht2, hk2⟩
  have K' := K.kp hk2 gT gS (by decide)
  have P' := P.trans hk2
  clear K P k0 k1 k2 k3 kz
  have K := K'
  have P := P'
  clear K' P' HM ht zT zS zW
  have ht := Lib.hid (show TL 46 T Sb (some ⟨b, off, none⟩) n c w0 (runE (tellF ps f) S1 [mkE ⟨#[59]⟩]) w2 from ht2)
  have zT := ht2.blkT
  have zS := ht2.blkS
  have zW := K.lt
  clear ht2 hk2 hbd
  generalize runE (tellF ps f) S1 [mkE ⟨#[59]⟩] = S2 at HL ht
  have k0 := K.cell 0
  have k1 := K.cell 1
  have k2 := K.cell 2
  have k3 := K.cell 3
  simp only [List.getElem?_toArray, List.getElem?_cons_zero, List.getElem?_cons_succ] at k0 k1 k2 k3
  have hfin := HL.out.done
  subst hfin
  clear HL HN
  go_wp2
  go_end0
  exact ⟨rfl, ht.out, P⟩
set_option maxRecDepth 100000 in
set_option maxHeartbeats 3200000 in
theorem so_15 (T Sb : Nat) (A : Option Addr) (n c : Nat) (w0 w : World) (ps : List PN) (f : Nat) (text : ByteArray) (z : Bool) (j : Nat) (s fin : TS) (m : Nat) (l : List Int) (hl : Hid (l.length = m)) (hlo : 0 ≤ m) (hm : m ≤ 12) (hN : NodeC 21 46 T Sb A n c w0 ps f) (h : TL 46 T Sb A n c w0 s w) (hps : Nps w0 A n ps) (hjn : j < n) (hx : Hid (ps[j]? = some ⟨15, text, l, z⟩)) (hv : Hid (∀ v ∈ l, 0 ≤ v ∧ v < (f : Int) ∧ v < (n : Int))) (hL : LeftE (tellF ps f) (s.1, s.2.set j (s.1.length : Int)) ([Ev.sg 1 ⟨#[114, 101, 116, 117, 114, 110]⟩] ++ ((allE l) ++ ([mkE ⟨#[59]⟩] ++ []))) fin) :
    Calls Tryz.prog 21 #[.pointer (some ⟨T, 0, none⟩), .int .i64 j] w (Puts 46 T Sb A n c w0 w fin) := by
  obtain ⟨b, off, A', c', rfl, hblt, x0, x1, x2, x3, hcap, hr⟩ := hps.atc hjn hx.out
  dsimp only at x0 x1 x2 x3 hcap hr
  rw [hl.out] at x2 hcap hr
  clear hps hx
  unfold Puts
  have HN := Lib.hid hN
  have HV := hv
  have HR := Lib.hid hr
  have HL := Lib.hid hL
  have HTT := Lib.hid h
  obtain ⟨AS, cS, hb, hmi, ho, h1, h2, h3, h4, h5, hbw⟩ := h
  have t1 := hb.cell 1
  have t2 := hb.cell 2
  have tz := hb.lt
  simp only [List.getElem?_toArray, List.getElem?_cons_zero, List.getElem?_cons_succ] at t1 t2
  have hoz := ho.lt
  obtain ⟨o0, e0⟩ := ho.there (i := j) hjn
  have hof := ho.frozen
  have gj : (j : Int) < n := by omega
  have gj0 : (0 : Int) ≤ (j : Int) := by omega
  clear hb hmi ho h1 h2 h3 h4 h5 hbw hL hN hv hr
  go_enter Tryz.func21, Tryz.ntmps21
  go_upto_region 1 with fail
  go_still_tail 11, (by kernel_rfl)
  change wpList _ _ _ _ _ w.drew
  go_upto_region 2 with fail
  have HT1 := Lib.hid (TL.start HTT.out hjn).drew
  have P1 : Kp T Sb w (w.setCell ⟨Sb, j, none⟩ (.int .i64 s.1.length)).drew := ((Kp.refl T Sb w).setS j _).drew
  clear t1 t2 tz hoz e0 hof HTT
  generalize (w.setCell ⟨Sb, j, none⟩ (.int .i64 s.1.length)).drew = W1 at HT1 P1 ⊢
  generalize hs0 : (s.1, s.2.set j (s.1.length : Int)) = S0 at HT1 HL
  clear hs0
  have hT1 := HT1.out
  obtain ⟨AS', cS', hb, _⟩ := hT1
  have t0 := hb.cell 0
  simp only [List.getElem?_toArray, List.getElem?_cons_zero, List.getElem?_cons_succ] at t0
  have tz := hb.lt
  obtain ⟨hcw, hfw⟩ := bcell HT1.out.below
  have hz1 := HT1.out.below.size
  go_upto_region 3 with fail
  have K := Blk.new W1 48 #[.int .i64 15, .string text, .slice A' m c', .bool z]
  have P : Kp T Sb w (W1.alloc (.cells #[.int .i64 15, .string text, .slice A' m c', .bool z] 48)) := P1.alloc _
  have ht := Lib.hid (HT1.out.alloc (.cells #[.int .i64 15, .string text, .slice A' m c', .bool z] 48))
  have zT := HT1.out.blkT
  have zS := HT1.out.blkS
  have gT : W1.heap.size ≠ T := by omega
  have gS : W1.heap.size ≠ Sb := by omega
  have zW : W1.heap.size < (W1.alloc (.cells #[.int .i64 15, .string text, .slice A' m c', .bool z] 48)).heap.size := by simp
  clear hb t0 tz hcw hfw hz1 HT1 P1 x0 x1 x2 x3 hblt
  have hbd := HL.out.seg.1
  replace HL := Lib.hid HL.out.seg.2
  have HM := Lib.hid (fun W h => specWord_any T Sb (some ⟨b, off, none⟩) n c w0 W _ ⟨#[114, 101, 116, 117, 114, 110]⟩ h (run1_len (tellF_mono ps f) hbd))
  go_wp2_with fail
  refine (HM.out _ ht.out).mono ?_
  rintro e w1 ⟨rfl, ht2, hk2⟩
  have K' := K.kp hk2 gT gS (by decide)
  have P' := P.trans hk2
  clear K P
  have K := K'
  have P := P'
  clear K' P' HM ht zT zS zW
  have ht := Lib.hid (show TL 46 T Sb (some ⟨b, off, none⟩) n c w0 (runE (tellF ps f) S0 [Ev.sg 1 ⟨#[114, 101, 116, 117, 114, 110]⟩]) w1 from ht2)
  have zT := ht2.blkT
  have zS := ht2.blkS
  have zW := K.lt
  clear ht2 hk2 hbd
  generalize runE (tellF ps f) S0 [Ev.sg 1 ⟨#[114, 101, 116, 117, 114, 110]⟩] = S1 at HL ht
  have hbd := HL.out.seg.1
  replace HL := Lib.hid HL.out.seg.2
  have k0 := K.cell 0
  have k1 := K.cell 1
  have k2 := K.cell 2
  have k3 := K.cell 3
  have kz := K.lt
  simp only [List.getElem?_toArray, List.getElem?_cons_zero, List.getElem?_cons_succ] at k0 k1 k2 k3
  have HM := Lib.hid (fun W h => specAll_any T Sb (some ⟨b, off, none⟩) n c w0 W ps f _ m c' l _ HN.out hl (by omega) HR.out HV h hbd)
  go_wp2_with fail
  refine (HM.out _ ht.out).mono ?_
  rintro e w2 ⟨rfl, ht2, hk2⟩
  have K' := K.kp hk2 gT gS (by decide)
  have P' := P.trans hk2
  clear K P k0 k1 k2 k3 kz
  have K := K'
  have P := P'
  clear K' P' HM ht zT zS zW
  have ht := Lib.hid (show TL 46 T Sb (some ⟨b, off, none⟩) n c w0 (runE (tellF ps f) S1 (allE l)) w2 from ht2)
  have zT := ht2.blkT
  have zS := ht2.blkS
  have zW := K.lt
  clear ht2 hk2 hbd
  generalize runE (tellF ps f) S1 (allE l) = S2 at HL ht
  have hbd := HL.out.seg.1
  replace HL := Lib.hid HL.out.seg.2
  have k0 := K.cell 0
  have k1 := K.cell 1
  have k2 := K.cell 2
  have k3 := K.cell 3
  have kz := K.lt
  simp only [List.getElem?_toArray, List.getElem?_cons_zero, List.getElem?_cons_succ] at k0 k1 k2 k3
  have HM := Lib.hid (fun W h => specMark_any T Sb (some ⟨b, off, none⟩) n c w0 W _ ⟨#[59]⟩ h (run1_len (tellF_mono ps f) hbd))
  go_wp2_with fail
  refine (HM.out _ ht.out).mono ?_
  rintro e w3 ⟨rfl, ht2, hk2⟩
  have K' := K.kp hk2 gT gS (by decide)
  have P' := P.trans hk2
  clear K P k0 k1 k2 k3 kz
  have K := K'
  have P := P'
  clear K' P' HM ht zT zS zW
  have ht := Lib.hid (show TL 46 T Sb (some ⟨b, off, none⟩) n c w0 (runE (tellF ps f) S2 [mkE ⟨#[59]⟩]) w3 from ht2)
  have zT := ht2.blkT
  have zS := ht2.blkS
  have zW := K.lt
  clear ht2 hk2 hbd
  generalize runE (tellF ps f) S2 [mkE ⟨#[59]⟩] = S3 at HL ht
  have k0 := K.cell 0
  have k1 := K.cell 1
  have k2 := K.cell 2
  have k3 := K.cell 3
  simp only [List.getElem?_toArray, List.getElem?_cons_zero, List.getElem?_cons_succ] at k0 k1 k2 k3
  have hfin := HL.out.done
  subst hfin
  clear HL HN
  go_wp2
  go_end0
  exact ⟨rfl, ht.out, P⟩
set_option maxRecDepth 100000 in
set_option maxHeartbeats 3200000 in
theorem so_16 (T Sb : Nat) (A : Option Addr) (n c : Nat) (w0 w : World) (ps : List PN) (f : Nat) (text : ByteArray) (z : Bool) (j : Nat) (s fin : TS) (v0 : Nat) (v1 : Nat) (hN : NodeC 21 46 T Sb A n c w0 ps f) (h : TL 46 T Sb A n c w0 s w) (hps : Nps w0 A n ps) (hjn : j < n) (hx : Hid (ps[j]? = some ⟨16, text, [(v0 : Int), (v1 : Int)], z⟩)) (hv : Hid (∀ v ∈ [(v0 : Int), (v1 : Int)], 0 ≤ v ∧ v < (f : Int) ∧ v < (n : Int))) (hL : LeftE (tellF ps f) (s.1, s.2.set j (s.1.length : Int)) ((heldE ⟨#[105, 102]⟩ v0) ++ ([Ev.kid (v1 : Int)] ++ [])) fin) :
    Calls Tryz.prog 21 #[.pointer (some ⟨T, 0, none⟩), .int .i64 j] w (Puts 46 T Sb A n c w0 w fin) := by
  obtain ⟨b, off, A', c', rfl, hblt, x0, x1, x2, x3, hcap, hr⟩ := hps.atc hjn hx.out
  dsimp only at x0 x1 x2 x3 hcap hr
  simp only [List.length_cons, List.length_nil, Nat.zero_add, Nat.reduceAdd] at x2 hcap hr
  clear hps hx
  unfold Puts
  have HN := Lib.hid hN
  have hw0 := hv.out (v0 : Int) (by simp)
  have hv0f : v0 < f := by omega
  have hv0n : v0 < n := by omega
  clear hw0
  have hw1 := hv.out (v1 : Int) (by simp)
  have hv1f : v1 < f := by omega
  have hv1n : v1 < n := by omega
  clear hw1
  obtain ⟨b5, off5, rfl, hb5, _⟩ := int_at (k := 0) (x := (v0 : Int)) hr (by omega) rfl
  have HCK := Lib.hid (fun (W : World) (hW : Below w0.heap.size w0 W) (j : Nat) (v : Int) (hj : j < 2) (hd : ([(v0 : Int), (v1 : Int)] : List Int)[j]? = some v) => cell_kid (hr.below hW) hj hd)
  have HR := Lib.hid hr
  have HL := Lib.hid hL
  have HTT := Lib.hid h
  obtain ⟨AS, cS, hb, hmi, ho, h1, h2, h3, h4, h5, hbw⟩ := h
  have t1 := hb.cell 1
  have t2 := hb.cell 2
  have tz := hb.lt
  simp only [List.getElem?_toArray, List.getElem?_cons_zero, List.getElem?_cons_succ] at t1 t2
  have hoz := ho.lt
  obtain ⟨o0, e0⟩ := ho.there (i := j) hjn
  have hof := ho.frozen
  have gj : (j : Int) < n := by omega
  have gj0 : (0 : Int) ≤ (j : Int) := by omega
  clear hb hmi ho h1 h2 h3 h4 h5 hbw hL hN hv hr
  go_enter Tryz.func21, Tryz.ntmps21
  go_upto_region 1 with fail
  go_still_tail 11, (by kernel_rfl)
  change wpList _ _ _ _ _ w.drew
  go_upto_region 2 with fail
  have HT1 := Lib.hid (TL.start HTT.out hjn).drew
  have P1 : Kp T Sb w (w.setCell ⟨Sb, j, none⟩ (.int .i64 s.1.length)).drew := ((Kp.refl T Sb w).setS j _).drew
  clear t1 t2 tz hoz e0 hof HTT
  generalize (w.setCell ⟨Sb, j, none⟩ (.int .i64 s.1.length)).drew = W1 at HT1 P1 ⊢
  generalize hs0 : (s.1, s.2.set j (s.1.length : Int)) = S0 at HT1 HL
  clear hs0
  have hT1 := HT1.out
  obtain ⟨AS', cS', hb, _⟩ := hT1
  have t0 := hb.cell 0
  simp only [List.getElem?_toArray, List.getElem?_cons_zero, List.getElem?_cons_succ] at t0
  have tz := hb.lt
  obtain ⟨hcw, hfw⟩ := bcell HT1.out.below
  have hz1 := HT1.out.below.size
  go_upto_region 3 with fail
  have K := Blk.new W1 48 #[.int .i64 16, .string text, .slice (some ⟨b5, off5, none⟩) 2 c', .bool z]
  have P : Kp T Sb w (W1.alloc (.cells #[.int .i64 16, .string text, .slice (some ⟨b5, off5, none⟩) 2 c', .bool z] 48)) := P1.alloc _
  have ht := Lib.hid (HT1.out.alloc (.cells #[.int .i64 16, .string text, .slice (some ⟨b5, off5, none⟩) 2 c', .bool z] 48))
  have zT := HT1.out.blkT
  have zS := HT1.out.blkS
  have gT : W1.heap.size ≠ T := by omega
  have gS : W1.heap.size ≠ Sb := by omega
  have zW : W1.heap.size < (W1.alloc (.cells #[.int .i64 16, .string text, .slice (some ⟨b5, off5, none⟩) 2 c', .bool z] 48)).heap.size := by simp
  clear hb t0 tz hcw hfw hz1 HT1 P1 x0 x1 x2 x3 hblt
  have hbd := HL.out.seg.1
  replace HL := Lib.hid HL.out.seg.2
  have cv := HCK.out _ ht.out.below 0 (v0 : Int) (by omega) rfl
  simp only [Nat.add_zero] at cv
  have HM := Lib.hid (fun W h => specHeld_any T Sb (some ⟨b, off, none⟩) n c w0 W ps f ⟨#[105, 102]⟩ v0 _ HN.out hv0f hv0n h hbd)
  go_wp2_with fail
  refine (HM.out _ ht.out).mono ?_
  rintro e w1 ⟨rfl, ht2, hk2⟩
  have K' := K.kp hk2 gT gS (by decide)
  have P' := P.trans hk2
  clear K P
  have K := K'
  have P := P'
  clear K' P' HM ht zT zS zW cv
  have ht := Lib.hid (show TL 46 T Sb (some ⟨b, off, none⟩) n c w0 (runE (tellF ps f) S0 (heldE ⟨#[105, 102]⟩ v0)) w1 from ht2)
  have zT := ht2.blkT
  have zS := ht2.blkS
  have zW := K.lt
  clear ht2 hk2 hbd
  generalize runE (tellF ps f) S0 (heldE ⟨#[105, 102]⟩ v0) = S1 at HL ht
  have hbd := HL.out.seg.1
  replace HL := Lib.hid HL.out.seg.2
  have k0 := K.cell 0
  have k1 := K.cell 1
  have k2 := K.cell 2
  have k3 := K.cell 3
  have kz := K.lt
  simp only [List.getElem?_toArray, List.getElem?_cons_zero, List.getElem?_cons_succ] at k0 k1 k2 k3
  have cv := HCK.out _ ht.out.below 1 (v1 : Int) (by omega) rfl
  have HM := Lib.hid (fun W h => HN.out v1 _ W hv1f hv1n h hbd)
  go_wp2_with fail
  refine (HM.out _ ht.out).mono ?_
  rintro e w2 ⟨rfl, ht2, hk2⟩
  have K' := K.kp hk2 gT gS (by decide)
  have P' := P.trans hk2
  clear K P k0 k1 k2 k3 kz
  have K := K'
  have P := P'
  clear K' P' HM ht zT zS zW cv
  have ht := Lib.hid (show TL 46 T Sb (some ⟨b, off, none⟩) n c w0 (runE (tellF ps f) S1 [Ev.kid (v1 : Int)]) w2 from ht2)
  have zT := ht2.blkT
  have zS := ht2.blkS
  have zW := K.lt
  clear ht2 hk2 hbd
  generalize runE (tellF ps f) S1 [Ev.kid (v1 : Int)] = S2 at HL ht
  have k0 := K.cell 0
  have k1 := K.cell 1
  have k2 := K.cell 2
  have k3 := K.cell 3
  simp only [List.getElem?_toArray, List.getElem?_cons_zero, List.getElem?_cons_succ] at k0 k1 k2 k3
  have hfin := HL.out.done
  subst hfin
  clear HL HN
  go_wp2
  go_end0
  exact ⟨rfl, ht.out, P⟩
set_option maxRecDepth 100000 in
set_option maxHeartbeats 3200000 in
theorem so_16e (T Sb : Nat) (A : Option Addr) (n c : Nat) (w0 w : World) (ps : List PN) (f : Nat) (text : ByteArray) (z : Bool) (j : Nat) (s fin : TS) (v0 : Nat) (v1 : Nat) (v2 : Nat) (hN : NodeC 21 46 T Sb A n c w0 ps f) (h : TL 46 T Sb A n c w0 s w) (hps : Nps w0 A n ps) (hjn : j < n) (hx : Hid (ps[j]? = some ⟨16, text, [(v0 : Int), (v1 : Int), (v2 : Int)], z⟩)) (hv : Hid (∀ v ∈ [(v0 : Int), (v1 : Int), (v2 : Int)], 0 ≤ v ∧ v < (f : Int) ∧ v < (n : Int))) (hL : LeftE (tellF ps f) (s.1, s.2.set j (s.1.length : Int)) ((heldE ⟨#[105, 102]⟩ v0) ++ ([Ev.kid (v1 : Int)] ++ ([Ev.sg 1 ⟨#[101, 108, 115, 101]⟩] ++ ([Ev.kid (v2 : Int)] ++ [])))) fin) :
    Calls Tryz.prog 21 #[.pointer (some ⟨T, 0, none⟩), .int .i64 j] w (Puts 46 T Sb A n c w0 w fin) := by
  obtain ⟨b, off, A', c', rfl, hblt, x0, x1, x2, x3, hcap, hr⟩ := hps.atc hjn hx.out
  dsimp only at x0 x1 x2 x3 hcap hr
  simp only [List.length_cons, List.length_nil, Nat.zero_add, Nat.reduceAdd] at x2 hcap hr
  clear hps hx
  unfold Puts
  have HN := Lib.hid hN
  have hw0 := hv.out (v0 : Int) (by simp)
  have hv0f : v0 < f := by omega
  have hv0n : v0 < n := by omega
  clear hw0
  have hw1 := hv.out (v1 : Int) (by simp)
  have hv1f : v1 < f := by omega
  have hv1n : v1 < n := by omega
  clear hw1
  have hw2 := hv.out (v2 : Int) (by simp)
  have hv2f : v2 < f := by omega
  have hv2n : v2 < n := by omega
  clear hw2
  obtain ⟨b5, off5, rfl, hb5, _⟩ := int_at (k := 0) (x := (v0 : Int)) hr (by omega) rfl
  have HCK := Lib.hid (fun (W : World) (hW : Below w0.heap.size w0 W) (j : Nat) (v : Int) (hj : j < 3) (hd : ([(v0 : Int), (v1 : Int), (v2 : Int)] : List Int)[j]? = some v) => cell_kid (hr.below hW) hj hd)
  have HR := Lib.hid hr
  have HL := Lib.hid hL
  have HTT := Lib.hid h
  obtain ⟨AS, cS, hb, hmi, ho, h1, h2, h3, h4, h5, hbw⟩ := h
  have t1 := hb.cell 1
  have t2 := hb.cell 2
  have tz := hb.lt
  simp only [List.getElem?_toArray, List.getElem?_cons_zero, List.getElem?_cons_succ] at t1 t2
  have hoz := ho.lt
  obtain ⟨o0, e0⟩ := ho.there (i := j) hjn
  have hof := ho.frozen
  have gj : (j : Int) < n := by omega
  have gj0 : (0 : Int) ≤ (j : Int) := by omega
  clear hb hmi ho h1 h2 h3 h4 h5 hbw hL hN hv hr
  go_enter Tryz.func21, Tryz.ntmps21
  go_upto_region 1 with fail
  go_still_tail 11, (by kernel_rfl)
  change wpList _ _ _ _ _ w.drew
  go_upto_region 2 with fail
  have HT1 := Lib.hid (TL.start HTT.out hjn).drew
  have P1 : Kp T Sb w (w.setCell ⟨Sb, j, none⟩ (.int .i64 s.1.length)).drew := ((Kp.refl T Sb w).setS j _).drew
  clear t1 t2 tz hoz e0 hof HTT
  generalize (w.setCell ⟨Sb, j, none⟩ (.int .i64 s.1.length)).drew = W1 at HT1 P1 ⊢
  generalize hs0 : (s.1, s.2.set j (s.1.length : Int)) = S0 at HT1 HL
  clear hs0
  have hT1 := HT1.out
  obtain ⟨AS', cS', hb, _⟩ := hT1
  have t0 := hb.cell 0
  simp only [List.getElem?_toArray, List.getElem?_cons_zero, List.getElem?_cons_succ] at t0
  have tz := hb.lt
  obtain ⟨hcw, hfw⟩ := bcell HT1.out.below
  have hz1 := HT1.out.below.size
  go_upto_region 3 with fail
  have K := Blk.new W1 48 #[.int .i64 16, .string text, .slice (some ⟨b5, off5, none⟩) 3 c', .bool z]
  have P : Kp T Sb w (W1.alloc (.cells #[.int .i64 16, .string text, .slice (some ⟨b5, off5, none⟩) 3 c', .bool z] 48)) := P1.alloc _
  have ht := Lib.hid (HT1.out.alloc (.cells #[.int .i64 16, .string text, .slice (some ⟨b5, off5, none⟩) 3 c', .bool z] 48))
  have zT := HT1.out.blkT
  have zS := HT1.out.blkS
  have gT : W1.heap.size ≠ T := by omega
  have gS : W1.heap.size ≠ Sb := by omega
  have zW : W1.heap.size < (W1.alloc (.cells #[.int .i64 16, .string text, .slice (some ⟨b5, off5, none⟩) 3 c', .bool z] 48)).heap.size := by simp
  clear hb t0 tz hcw hfw hz1 HT1 P1 x0 x1 x2 x3 hblt
  have hbd := HL.out.seg.1
  replace HL := Lib.hid HL.out.seg.2
  have cv := HCK.out _ ht.out.below 0 (v0 : Int) (by omega) rfl
  simp only [Nat.add_zero] at cv
  have HM := Lib.hid (fun W h => specHeld_any T Sb (some ⟨b, off, none⟩) n c w0 W ps f ⟨#[105, 102]⟩ v0 _ HN.out hv0f hv0n h hbd)
  go_wp2_with fail
  refine (HM.out _ ht.out).mono ?_
  rintro e w1 ⟨rfl, ht2, hk2⟩
  have K' := K.kp hk2 gT gS (by decide)
  have P' := P.trans hk2
  clear K P
  have K := K'
  have P := P'
  clear K' P' HM ht zT zS zW cv
  have ht := Lib.hid (show TL 46 T Sb (some ⟨b, off, none⟩) n c w0 (runE (tellF ps f) S0 (heldE ⟨#[105, 102]⟩ v0)) w1 from ht2)
  have zT := ht2.blkT
  have zS := ht2.blkS
  have zW := K.lt
  clear ht2 hk2 hbd
  generalize runE (tellF ps f) S0 (heldE ⟨#[105, 102]⟩ v0) = S1 at HL ht
  have hbd := HL.out.seg.1
  replace HL := Lib.hid HL.out.seg.2
  have k0 := K.cell 0
  have k1 := K.cell 1
  have k2 := K.cell 2
  have k3 := K.cell 3
  have kz := K.lt
  simp only [List.getElem?_toArray, List.getElem?_cons_zero, List.getElem?_cons_succ] at k0 k1 k2 k3
  have cv := HCK.out _ ht.out.below 1 (v1 : Int) (by omega) rfl
  have HM := Lib.hid (fun W h => HN.out v1 _ W hv1f hv1n h hbd)
  go_wp2_with fail
  refine (HM.out _ ht.out).mono ?_
  rintro e w2 ⟨rfl, ht2, hk2⟩
  have K' := K.kp hk2 gT gS (by decide)
  have P' := P.trans hk2
  clear K P k0 k1 k2 k3 kz
  have K := K'
  have P := P'
  clear K' P' HM ht zT zS zW cv
  have ht := Lib.hid (show TL 46 T Sb (some ⟨b, off, none⟩) n c w0 (runE (tellF ps f) S1 [Ev.kid (v1 : Int)]) w2 from ht2)
  have zT := ht2.blkT
  have zS := ht2.blkS
  have zW := K.lt
  clear ht2 hk2 hbd
  generalize runE (tellF ps f) S1 [Ev.kid (v1 : Int)] = S2 at HL ht
  have hbd := HL.out.seg.1
  replace HL := Lib.hid HL.out.seg.2
  have k0 := K.cell 0
  have k1 := K.cell 1
  have k2 := K.cell 2
  have k3 := K.cell 3
  have kz := K.lt
  simp only [List.getElem?_toArray, List.getElem?_cons_zero, List.getElem?_cons_succ] at k0 k1 k2 k3
  have HM := Lib.hid (fun W h => specWord_any T Sb (some ⟨b, off, none⟩) n c w0 W _ ⟨#[101, 108, 115, 101]⟩ h (run1_len (tellF_mono ps f) hbd))
  go_wp2_with fail
  refine (HM.out _ ht.out).mono ?_
  rintro e w3 ⟨rfl, ht2, hk2⟩
  have K' := K.kp hk2 gT gS (by decide)
  have P' := P.trans hk2
  clear K P k0 k1 k2 k3 kz
  have K := K'
  have P := P'
  clear K' P' HM ht zT zS zW
  have ht := Lib.hid (show TL 46 T Sb (some ⟨b, off, none⟩) n c w0 (runE (tellF ps f) S2 [Ev.sg 1 ⟨#[101, 108, 115, 101]⟩]) w3 from ht2)
  have zT := ht2.blkT
  have zS := ht2.blkS
  have zW := K.lt
  clear ht2 hk2 hbd
  generalize runE (tellF ps f) S2 [Ev.sg 1 ⟨#[101, 108, 115, 101]⟩] = S3 at HL ht
  have hbd := HL.out.seg.1
  replace HL := Lib.hid HL.out.seg.2
  have k0 := K.cell 0
  have k1 := K.cell 1
  have k2 := K.cell 2
  have k3 := K.cell 3
  have kz := K.lt
  simp only [List.getElem?_toArray, List.getElem?_cons_zero, List.getElem?_cons_succ] at k0 k1 k2 k3
  have cv := HCK.out _ ht.out.below 2 (v2 : Int) (by omega) rfl
  have HM := Lib.hid (fun W h => HN.out v2 _ W hv2f hv2n h hbd)
  go_wp2_with fail
  refine (HM.out _ ht.out).mono ?_
  rintro e w4 ⟨rfl, ht2, hk2⟩
  have K' := K.kp hk2 gT gS (by decide)
  have P' := P.trans hk2
  clear K P k0 k1 k2 k3 kz
  have K := K'
  have P := P'
  clear K' P' HM ht zT zS zW cv
  have ht := Lib.hid (show TL 46 T Sb (some ⟨b, off, none⟩) n c w0 (runE (tellF ps f) S3 [Ev.kid (v2 : Int)]) w4 from ht2)
  have zT := ht2.blkT
  have zS := ht2.blkS
  have zW := K.lt
  clear ht2 hk2 hbd
  generalize runE (tellF ps f) S3 [Ev.kid (v2 : Int)] = S4 at HL ht
  have k0 := K.cell 0
  have k1 := K.cell 1
  have k2 := K.cell 2
  have k3 := K.cell 3
  simp only [List.getElem?_toArray, List.getElem?_cons_zero, List.getElem?_cons_succ] at k0 k1 k2 k3
  have hfin := HL.out.done
  subst hfin
  clear HL HN
  go_wp2
  go_end0
  exact ⟨rfl, ht.out, P⟩
set_option maxRecDepth 100000 in
set_option maxHeartbeats 3200000 in
theorem so_17 (T Sb : Nat) (A : Option Addr) (n c : Nat) (w0 w : World) (ps : List PN) (f : Nat) (text : ByteArray) (z : Bool) (j : Nat) (s fin : TS) (v0 : Nat) (v1 : Nat) (hN : NodeC 21 46 T Sb A n c w0 ps f) (h : TL 46 T Sb A n c w0 s w) (hps : Nps w0 A n ps) (hjn : j < n) (hx : Hid (ps[j]? = some ⟨17, text, [(v0 : Int), (v1 : Int)], z⟩)) (hv : Hid (∀ v ∈ [(v0 : Int), (v1 : Int)], 0 ≤ v ∧ v < (f : Int) ∧ v < (n : Int))) (hL : LeftE (tellF ps f) (s.1, s.2.set j (s.1.length : Int)) ((heldE ⟨#[119, 104, 105, 108, 101]⟩ v0) ++ ([Ev.kid (v1 : Int)] ++ [])) fin) :
    Calls Tryz.prog 21 #[.pointer (some ⟨T, 0, none⟩), .int .i64 j] w (Puts 46 T Sb A n c w0 w fin) := by
  obtain ⟨b, off, A', c', rfl, hblt, x0, x1, x2, x3, hcap, hr⟩ := hps.atc hjn hx.out
  dsimp only at x0 x1 x2 x3 hcap hr
  simp only [List.length_cons, List.length_nil, Nat.zero_add, Nat.reduceAdd] at x2 hcap hr
  clear hps hx
  unfold Puts
  have HN := Lib.hid hN
  have hw0 := hv.out (v0 : Int) (by simp)
  have hv0f : v0 < f := by omega
  have hv0n : v0 < n := by omega
  clear hw0
  have hw1 := hv.out (v1 : Int) (by simp)
  have hv1f : v1 < f := by omega
  have hv1n : v1 < n := by omega
  clear hw1
  obtain ⟨b5, off5, rfl, hb5, _⟩ := int_at (k := 0) (x := (v0 : Int)) hr (by omega) rfl
  have HCK := Lib.hid (fun (W : World) (hW : Below w0.heap.size w0 W) (j : Nat) (v : Int) (hj : j < 2) (hd : ([(v0 : Int), (v1 : Int)] : List Int)[j]? = some v) => cell_kid (hr.below hW) hj hd)
  have HR := Lib.hid hr
  have HL := Lib.hid hL
  have HTT := Lib.hid h
  obtain ⟨AS, cS, hb, hmi, ho, h1, h2, h3, h4, h5, hbw⟩ := h
  have t1 := hb.cell 1
  have t2 := hb.cell 2
  have tz := hb.lt
  simp only [List.getElem?_toArray, List.getElem?_cons_zero, List.getElem?_cons_succ] at t1 t2
  have hoz := ho.lt
  obtain ⟨o0, e0⟩ := ho.there (i := j) hjn
  have hof := ho.frozen
  have gj : (j : Int) < n := by omega
  have gj0 : (0 : Int) ≤ (j : Int) := by omega
  clear hb hmi ho h1 h2 h3 h4 h5 hbw hL hN hv hr
  go_enter Tryz.func21, Tryz.ntmps21
  go_upto_region 1 with fail
  go_still_tail 11, (by kernel_rfl)
  change wpList _ _ _ _ _ w.drew
  go_upto_region 2 with fail
  have HT1 := Lib.hid (TL.start HTT.out hjn).drew
  have P1 : Kp T Sb w (w.setCell ⟨Sb, j, none⟩ (.int .i64 s.1.length)).drew := ((Kp.refl T Sb w).setS j _).drew
  clear t1 t2 tz hoz e0 hof HTT
  generalize (w.setCell ⟨Sb, j, none⟩ (.int .i64 s.1.length)).drew = W1 at HT1 P1 ⊢
  generalize hs0 : (s.1, s.2.set j (s.1.length : Int)) = S0 at HT1 HL
  clear hs0
  have hT1 := HT1.out
  obtain ⟨AS', cS', hb, _⟩ := hT1
  have t0 := hb.cell 0
  simp only [List.getElem?_toArray, List.getElem?_cons_zero, List.getElem?_cons_succ] at t0
  have tz := hb.lt
  obtain ⟨hcw, hfw⟩ := bcell HT1.out.below
  have hz1 := HT1.out.below.size
  go_upto_region 3 with fail
  have K := Blk.new W1 48 #[.int .i64 17, .string text, .slice (some ⟨b5, off5, none⟩) 2 c', .bool z]
  have P : Kp T Sb w (W1.alloc (.cells #[.int .i64 17, .string text, .slice (some ⟨b5, off5, none⟩) 2 c', .bool z] 48)) := P1.alloc _
  have ht := Lib.hid (HT1.out.alloc (.cells #[.int .i64 17, .string text, .slice (some ⟨b5, off5, none⟩) 2 c', .bool z] 48))
  have zT := HT1.out.blkT
  have zS := HT1.out.blkS
  have gT : W1.heap.size ≠ T := by omega
  have gS : W1.heap.size ≠ Sb := by omega
  have zW : W1.heap.size < (W1.alloc (.cells #[.int .i64 17, .string text, .slice (some ⟨b5, off5, none⟩) 2 c', .bool z] 48)).heap.size := by simp
  clear hb t0 tz hcw hfw hz1 HT1 P1 x0 x1 x2 x3 hblt
  have hbd := HL.out.seg.1
  replace HL := Lib.hid HL.out.seg.2
  have cv := HCK.out _ ht.out.below 0 (v0 : Int) (by omega) rfl
  simp only [Nat.add_zero] at cv
  have HM := Lib.hid (fun W h => specHeld_any T Sb (some ⟨b, off, none⟩) n c w0 W ps f ⟨#[119, 104, 105, 108, 101]⟩ v0 _ HN.out hv0f hv0n h hbd)
  go_wp2_with fail
  refine (HM.out _ ht.out).mono ?_
  rintro e w1 ⟨rfl, ht2, hk2⟩
  have K' := K.kp hk2 gT gS (by decide)
  have P' := P.trans hk2
  clear K P
  have K := K'
  have P := P'
  clear K' P' HM ht zT zS zW cv
  have ht := Lib.hid (show TL 46 T Sb (some ⟨b, off, none⟩) n c w0 (runE (tellF ps f) S0 (heldE ⟨#[119, 104, 105, 108, 101]⟩ v0)) w1 from ht2)
  have zT := ht2.blkT
  have zS := ht2.blkS
  have zW := K.lt
  clear ht2 hk2 hbd
  generalize runE (tellF ps f) S0 (heldE ⟨#[119, 104, 105, 108, 101]⟩ v0) = S1 at HL ht
  have hbd := HL.out.seg.1
  replace HL := Lib.hid HL.out.seg.2
  have k0 := K.cell 0
  have k1 := K.cell 1
  have k2 := K.cell 2
  have k3 := K.cell 3
  have kz := K.lt
  simp only [List.getElem?_toArray, List.getElem?_cons_zero, List.getElem?_cons_succ] at k0 k1 k2 k3
  have cv := HCK.out _ ht.out.below 1 (v1 : Int) (by omega) rfl
  have HM := Lib.hid (fun W h => HN.out v1 _ W hv1f hv1n h hbd)
  go_wp2_with fail
  refine (HM.out _ ht.out).mono ?_
  rintro e w2 ⟨rfl, ht2, hk2⟩
  have K' := K.kp hk2 gT gS (by decide)
  have P' := P.trans hk2
  clear K P k0 k1 k2 k3 kz
  have K := K'
  have P := P'
  clear K' P' HM ht zT zS zW cv
  have ht := Lib.hid (show TL 46 T Sb (some ⟨b, off, none⟩) n c w0 (runE (tellF ps f) S1 [Ev.kid (v1 : Int)]) w2 from ht2)
  have zT := ht2.blkT
  have zS := ht2.blkS
  have zW := K.lt
  clear ht2 hk2 hbd
  generalize runE (tellF ps f) S1 [Ev.kid (v1 : Int)] = S2 at HL ht
  have k0 := K.cell 0
  have k1 := K.cell 1
  have k2 := K.cell 2
  have k3 := K.cell 3
  simp only [List.getElem?_toArray, List.getElem?_cons_zero, List.getElem?_cons_succ] at k0 k1 k2 k3
  have hfin := HL.out.done
  subst hfin
  clear HL HN
  go_wp2
  go_end0
  exact ⟨rfl, ht.out, P⟩
set_option maxRecDepth 100000 in
set_option maxHeartbeats 3200000 in
theorem so_18 (T Sb : Nat) (A : Option Addr) (n c : Nat) (w0 w : World) (ps : List PN) (f : Nat) (text : ByteArray) (z : Bool) (j : Nat) (s fin : TS) (m : Nat) (l : List Int) (hl : Hid (l.length = m)) (hlo : 0 ≤ m) (hm : m ≤ 12) (hN : NodeC 21 46 T Sb A n c w0 ps f) (h : TL 46 T Sb A n c w0 s w) (hps : Nps w0 A n ps) (hjn : j < n) (hx : Hid (ps[j]? = some ⟨18, text, l, z⟩)) (hv : Hid (∀ v ∈ l, 0 ≤ v ∧ v < (f : Int) ∧ v < (n : Int))) (hL : LeftE (tellF ps f) (s.1, s.2.set j (s.1.length : Int)) ([mkE ⟨#[123]⟩] ++ ((allE l) ++ ([mkE ⟨#[125]⟩] ++ []))) fin) :
    Calls Tryz.prog 21 #[.pointer (some ⟨T, 0, none⟩), .int .i64 j] w (Puts 46 T Sb A n c w0 w fin) := by
  obtain ⟨b, off, A', c', rfl, hblt, x0, x1, x2, x3, hcap, hr⟩ := hps.atc hjn hx.out
  dsimp only at x0 x1 x2 x3 hcap hr
  rw [hl.out] at x2 hcap hr
  clear hps hx
  unfold Puts
  have HN := Lib.hid hN
  have HV := hv
  have HR := Lib.hid hr
  have HL := Lib.hid hL
  have HTT := Lib.hid h
  obtain ⟨AS, cS, hb, hmi, ho, h1, h2, h3, h4, h5, hbw⟩ := h
  have t1 := hb.cell 1
  have t2 := hb.cell 2
  have tz := hb.lt
  simp only [List.getElem?_toArray, List.getElem?_cons_zero, List.getElem?_cons_succ] at t1 t2
  have hoz := ho.lt
  obtain ⟨o0, e0⟩ := ho.there (i := j) hjn
  have hof := ho.frozen
  have gj : (j : Int) < n := by omega
  have gj0 : (0 : Int) ≤ (j : Int) := by omega
  clear hb hmi ho h1 h2 h3 h4 h5 hbw hL hN hv hr
  go_enter Tryz.func21, Tryz.ntmps21
  go_upto_region 1 with fail
  go_still_tail 11, (by kernel_rfl)
  change wpList _ _ _ _ _ w.drew
  go_upto_region 2 with fail
  have HT1 := Lib.hid (TL.start HTT.out hjn).drew
  have P1 : Kp T Sb w (w.setCell ⟨Sb, j, none⟩ (.int .i64 s.1.length)).drew := ((Kp.refl T Sb w).setS j _).drew
  clear t1 t2 tz hoz e0 hof HTT
  generalize (w.setCell ⟨Sb, j, none⟩ (.int .i64 s.1.length)).drew = W1 at HT1 P1 ⊢
  generalize hs0 : (s.1, s.2.set j (s.1.length : Int)) = S0 at HT1 HL
  clear hs0
  have hT1 := HT1.out
  obtain ⟨AS', cS', hb, _⟩ := hT1
  have t0 := hb.cell 0
  simp only [List.getElem?_toArray, List.getElem?_cons_zero, List.getElem?_cons_succ] at t0
  have tz := hb.lt
  obtain ⟨hcw, hfw⟩ := bcell HT1.out.below
  have hz1 := HT1.out.below.size
  go_upto_region 3 with fail
  have K := Blk.new W1 48 #[.int .i64 18, .string text, .slice A' m c', .bool z]
  have P : Kp T Sb w (W1.alloc (.cells #[.int .i64 18, .string text, .slice A' m c', .bool z] 48)) := P1.alloc _
  have ht := Lib.hid (HT1.out.alloc (.cells #[.int .i64 18, .string text, .slice A' m c', .bool z] 48))
  have zT := HT1.out.blkT
  have zS := HT1.out.blkS
  have gT : W1.heap.size ≠ T := by omega
  have gS : W1.heap.size ≠ Sb := by omega
  have zW : W1.heap.size < (W1.alloc (.cells #[.int .i64 18, .string text, .slice A' m c', .bool z] 48)).heap.size := by simp
  clear hb t0 tz hcw hfw hz1 HT1 P1 x0 x1 x2 x3 hblt
  have hbd := HL.out.seg.1
  replace HL := Lib.hid HL.out.seg.2
  have HM := Lib.hid (fun W h => specMark_any T Sb (some ⟨b, off, none⟩) n c w0 W _ ⟨#[123]⟩ h (run1_len (tellF_mono ps f) hbd))
  go_wp2_with fail
  refine (HM.out _ ht.out).mono ?_
  rintro e w1 ⟨rfl, ht2, hk2⟩
  have K' := K.kp hk2 gT gS (by decide)
  have P' := P.trans hk2
  clear K P
  have K := K'
  have P := P'
  clear K' P' HM ht zT zS zW
  have ht := Lib.hid (show TL 46 T Sb (some ⟨b, off, none⟩) n c w0 (runE (tellF ps f) S0 [mkE ⟨#[123]⟩]) w1 from ht2)
  have zT := ht2.blkT
  have zS := ht2.blkS
  have zW := K.lt
  clear ht2 hk2 hbd
  generalize runE (tellF ps f) S0 [mkE ⟨#[123]⟩] = S1 at HL ht
  have hbd := HL.out.seg.1
  replace HL := Lib.hid HL.out.seg.2
  have k0 := K.cell 0
  have k1 := K.cell 1
  have k2 := K.cell 2
  have k3 := K.cell 3
  have kz := K.lt
  simp only [List.getElem?_toArray, List.getElem?_cons_zero, List.getElem?_cons_succ] at k0 k1 k2 k3
  have HM := Lib.hid (fun W h => specAll_any T Sb (some ⟨b, off, none⟩) n c w0 W ps f _ m c' l _ HN.out hl (by omega) HR.out HV h hbd)
  go_wp2_with fail
  refine (HM.out _ ht.out).mono ?_
  rintro e w2 ⟨rfl, ht2, hk2⟩
  have K' := K.kp hk2 gT gS (by decide)
  have P' := P.trans hk2
  clear K P k0 k1 k2 k3 kz
  have K := K'
  have P := P'
  clear K' P' HM ht zT zS zW
  have ht := Lib.hid (show TL 46 T Sb (some ⟨b, off, none⟩) n c w0 (runE (tellF ps f) S1 (allE l)) w2 from ht2)
  have zT := ht2.blkT
  have zS := ht2.blkS
  have zW := K.lt
  clear ht2 hk2 hbd
  generalize runE (tellF ps f) S1 (allE l) = S2 at HL ht
  have hbd := HL.out.seg.1
  replace HL := Lib.hid HL.out.seg.2
  have k0 := K.cell 0
  have k1 := K.cell 1
  have k2 := K.cell 2
  have k3 := K.cell 3
  have kz := K.lt
  simp only [List.getElem?_toArray, List.getElem?_cons_zero, List.getElem?_cons_succ] at k0 k1 k2 k3
  have HM := Lib.hid (fun W h => specMark_any T Sb (some ⟨b, off, none⟩) n c w0 W _ ⟨#[125]⟩ h (run1_len (tellF_mono ps f) hbd))
  go_wp2_with fail
  refine (HM.out _ ht.out).mono ?_
  rintro e w3 ⟨rfl, ht2, hk2⟩
  have K' := K.kp hk2 gT gS (by decide)
  have P' := P.trans hk2
  clear K P k0 k1 k2 k3 kz
  have K := K'
  have P := P'
  clear K' P' HM ht zT zS zW
  have ht := Lib.hid (show TL 46 T Sb (some ⟨b, off, none⟩) n c w0 (runE (tellF ps f) S2 [mkE ⟨#[125]⟩]) w3 from ht2)
  have zT := ht2.blkT
  have zS := ht2.blkS
  have zW := K.lt
  clear ht2 hk2 hbd
  generalize runE (tellF ps f) S2 [mkE ⟨#[125]⟩] = S3 at HL ht
  have k0 := K.cell 0
  have k1 := K.cell 1
  have k2 := K.cell 2
  have k3 := K.cell 3
  simp only [List.getElem?_toArray, List.getElem?_cons_zero, List.getElem?_cons_succ] at k0 k1 k2 k3
  have hfin := HL.out.done
  subst hfin
  clear HL HN
  go_wp2
  go_end0
  exact ⟨rfl, ht.out, P⟩
set_option maxRecDepth 100000 in
set_option maxHeartbeats 3200000 in
theorem so_19 (T Sb : Nat) (A : Option Addr) (n c : Nat) (w0 w : World) (ps : List PN) (f : Nat) (text : ByteArray) (z : Bool) (j : Nat) (s fin : TS) (m : Nat) (l : List Int) (hl : Hid (l.length = m)) (hlo : 0 ≤ m) (hm : m ≤ 12) (hN : NodeC 21 46 T Sb A n c w0 ps f) (h : TL 46 T Sb A n c w0 s w) (hps : Nps w0 A n ps) (hjn : j < n) (hx : Hid (ps[j]? = some ⟨19, text, l, z⟩)) (hv : Hid (∀ v ∈ l, 0 ≤ v ∧ v < (f : Int) ∧ v < (n : Int))) (hL : LeftE (tellF ps f) (s.1, s.2.set j (s.1.length : Int)) ([Ev.sg 5 text] ++ []) fin) :
    Calls Tryz.prog 21 #[.pointer (some ⟨T, 0, none⟩), .int .i64 j] w (Puts 46 T Sb A n c w0 w fin) := by
  obtain ⟨b, off, A', c', rfl, hblt, x0, x1, x2, x3, hcap, hr⟩ := hps.atc hjn hx.out
  dsimp only at x0 x1 x2 x3 hcap hr
  rw [hl.out] at x2 hcap hr
  clear hps hx
  unfold Puts
  have HN := Lib.hid hN
  have HV := hv
  have HR := Lib.hid hr
  have HL := Lib.hid hL
  have HTT := Lib.hid h
  obtain ⟨AS, cS, hb, hmi, ho, h1, h2, h3, h4, h5, hbw⟩ := h
  have t1 := hb.cell 1
  have t2 := hb.cell 2
  have tz := hb.lt
  simp only [List.getElem?_toArray, List.getElem?_cons_zero, List.getElem?_cons_succ] at t1 t2
  have hoz := ho.lt
  obtain ⟨o0, e0⟩ := ho.there (i := j) hjn
  have hof := ho.frozen
  have gj : (j : Int) < n := by omega
  have gj0 : (0 : Int) ≤ (j : Int) := by omega
  clear hb hmi ho h1 h2 h3 h4 h5 hbw hL hN hv hr
  go_enter Tryz.func21, Tryz.ntmps21
  go_upto_region 1 with fail
  go_still_tail 11, (by kernel_rfl)
  change wpList _ _ _ _ _ w.drew
  go_upto_region 2 with fail
  have HT1 := Lib.hid (TL.start HTT.out hjn).drew
  have P1 : Kp T Sb w (w.setCell ⟨Sb, j, none⟩ (.int .i64 s.1.length)).drew := ((Kp.refl T Sb w).setS j _).drew
  clear t1 t2 tz hoz e0 hof HTT
  generalize (w.setCell ⟨Sb, j, none⟩ (.int .i64 s.1.length)).drew = W1 at HT1 P1 ⊢
  generalize hs0 : (s.1, s.2.set j (s.1.length : Int)) = S0 at HT1 HL
  clear hs0
  have hT1 := HT1.out
  obtain ⟨AS', cS', hb, _⟩ := hT1
  have t0 := hb.cell 0
  simp only [List.getElem?_toArray, List.getElem?_cons_zero, List.getElem?_cons_succ] at t0
  have tz := hb.lt
  obtain ⟨hcw, hfw⟩ := bcell HT1.out.below
  have hz1 := HT1.out.below.size
  go_upto_region 3 with fail
  have K := Blk.new W1 48 #[.int .i64 19, .string text, .slice A' m c', .bool z]
  have P : Kp T Sb w (W1.alloc (.cells #[.int .i64 19, .string text, .slice A' m c', .bool z] 48)) := P1.alloc _
  have ht := Lib.hid (HT1.out.alloc (.cells #[.int .i64 19, .string text, .slice A' m c', .bool z] 48))
  have zT := HT1.out.blkT
  have zS := HT1.out.blkS
  have gT : W1.heap.size ≠ T := by omega
  have gS : W1.heap.size ≠ Sb := by omega
  have zW : W1.heap.size < (W1.alloc (.cells #[.int .i64 19, .string text, .slice A' m c', .bool z] 48)).heap.size := by simp
  clear hb t0 tz hcw hfw hz1 HT1 P1 x0 x1 x2 x3 hblt
  have hbd := HL.out.seg.1
  replace HL := Lib.hid HL.out.seg.2
  have HM := Lib.hid (fun W h => specPut_any T Sb (some ⟨b, off, none⟩) n c w0 W _ 5 text h (run1_len (tellF_mono ps f) hbd))
  go_wp2_with fail
  refine (HM.out _ ht.out).mono ?_
  rintro e w1 ⟨rfl, ht2, hk2⟩
  have K' := K.kp hk2 gT gS (by decide)
  have P' := P.trans hk2
  clear K P
  have K := K'
  have P := P'
  clear K' P' HM ht zT zS zW
  have ht := Lib.hid (show TL 46 T Sb (some ⟨b, off, none⟩) n c w0 (runE (tellF ps f) S0 [Ev.sg 5 text]) w1 from ht2)
  have zT := ht2.blkT
  have zS := ht2.blkS
  have zW := K.lt
  clear ht2 hk2 hbd
  generalize runE (tellF ps f) S0 [Ev.sg 5 text] = S1 at HL ht
  have k0 := K.cell 0
  have k1 := K.cell 1
  have k2 := K.cell 2
  have k3 := K.cell 3
  simp only [List.getElem?_toArray, List.getElem?_cons_zero, List.getElem?_cons_succ] at k0 k1 k2 k3
  have hfin := HL.out.done
  subst hfin
  clear HL HN
  go_wp2
  go_end0
  exact ⟨rfl, ht.out, P⟩
set_option maxRecDepth 100000 in
set_option maxHeartbeats 3200000 in
theorem so_20 (T Sb : Nat) (A : Option Addr) (n c : Nat) (w0 w : World) (ps : List PN) (f : Nat) (text : ByteArray) (z : Bool) (j : Nat) (s fin : TS) (m : Nat) (l : List Int) (hl : Hid (l.length = m)) (hlo : 1 ≤ m) (hm : m ≤ 12) (hN : NodeC 21 46 T Sb A n c w0 ps f) (h : TL 46 T Sb A n c w0 s w) (hps : Nps w0 A n ps) (hjn : j < n) (hx : Hid (ps[j]? = some ⟨20, text, l, z⟩)) (hv : Hid (∀ v ∈ l, 0 ≤ v ∧ v < (f : Int) ∧ v < (n : Int))) (hL : LeftE (tellF ps f) (s.1, s.2.set j (s.1.length : Int)) ([Ev.sg 1 text] ++ ([mkE ⟨#[40]⟩] ++ ((sepE ⟨#[44]⟩ (l.take (m - 1))) ++ ([mkE ⟨#[41]⟩] ++ ([Ev.kid (l.getD (m - 1) 0)] ++ []))))) fin) :
    Calls Tryz.prog 21 #[.pointer (some ⟨T, 0, none⟩), .int .i64 j] w (Puts 46 T Sb A n c w0 w fin) := by
  obtain ⟨b, off, A', c', rfl, hblt, x0, x1, x2, x3, hcap, hr⟩ := hps.atc hjn hx.out
  dsimp only at x0 x1 x2 x3 hcap hr
  rw [hl.out] at x2 hcap hr
  clear hps hx
  unfold Puts
  have HN := Lib.hid hN
  have HV := hv
  obtain ⟨x0, hx0⟩ : ∃ x, l[0]? = some x := ⟨_, List.getElem?_eq_getElem (by have := hl.out; omega)⟩
  obtain ⟨b5, off5, rfl, hb5, _⟩ := int_at hr (by omega) hx0
  have HCK := Lib.hid (fun (W : World) (hW : Below w0.heap.size w0 W) (j : Nat) (v : Int) (hj : j < m) (hd : l[j]? = some v) => cell_kid (hr.below hW) hj hd)
  have hvx0 := hv.out x0 (List.mem_of_getElem? hx0)
  obtain ⟨q0, rfl⟩ := Int.eq_ofNat_of_zero_le hvx0.1
  have hq0f : q0 < f := by omega
  have hq0n : q0 < n := by omega
  have hg0 : l.getD 0 0 = (q0 : Int) := by rw [List.getD_eq_getElem?_getD, hx0]; rfl
  obtain ⟨m', rfl⟩ : ∃ m', m = m' + 1 := ⟨m - 1, by omega⟩
  obtain ⟨xl, hxl⟩ : ∃ x, l[m']? = some x := ⟨_, List.getElem?_eq_getElem (by have := hl.out; omega)⟩
  have hvxl := hv.out xl (List.mem_of_getElem? hxl)
  obtain ⟨ql, rfl⟩ := Int.eq_ofNat_of_zero_le hvxl.1
  have hqlf : ql < f := by omega
  have hqln : ql < n := by omega
  have hgl : l.getD (m' + 1 - 1) 0 = (ql : Int) := by rw [Nat.add_sub_cancel, List.getD_eq_getElem?_getD, hxl]; rfl
  have em : ((m' + 1 : Nat) : Int) - 1 = (m' : Int) := by omega
  have HX0 := Lib.hid hx0
  clear hx0 hvx0
  have HXL := Lib.hid hxl
  clear hxl hvxl
  have HR := Lib.hid hr
  have HL := Lib.hid hL
  have HTT := Lib.hid h
  obtain ⟨AS, cS, hb, hmi, ho, h1, h2, h3, h4, h5, hbw⟩ := h
  have t1 := hb.cell 1
  have t2 := hb.cell 2
  have tz := hb.lt
  simp only [List.getElem?_toArray, List.getElem?_cons_zero, List.getElem?_cons_succ] at t1 t2
  have hoz := ho.lt
  obtain ⟨o0, e0⟩ := ho.there (i := j) hjn
  have hof := ho.frozen
  have gj : (j : Int) < n := by omega
  have gj0 : (0 : Int) ≤ (j : Int) := by omega
  clear hb hmi ho h1 h2 h3 h4 h5 hbw hL hN hv hr
  go_enter Tryz.func21, Tryz.ntmps21
  go_upto_region 1 with fail
  go_still_tail 11, (by kernel_rfl)
  change wpList _ _ _ _ _ w.drew
  go_upto_region 2 with fail
  have HT1 := Lib.hid (TL.start HTT.out hjn).drew
  have P1 : Kp T Sb w (w.setCell ⟨Sb, j, none⟩ (.int .i64 s.1.length)).drew := ((Kp.refl T Sb w).setS j _).drew
  clear t1 t2 tz hoz e0 hof HTT
  generalize (w.setCell ⟨Sb, j, none⟩ (.int .i64 s.1.length)).drew = W1 at HT1 P1 ⊢
  generalize hs0 : (s.1, s.2.set j (s.1.length : Int)) = S0 at HT1 HL
  clear hs0
  have hT1 := HT1.out
  obtain ⟨AS', cS', hb, _⟩ := hT1
  have t0 := hb.cell 0
  simp only [List.getElem?_toArray, List.getElem?_cons_zero, List.getElem?_cons_succ] at t0
  have tz := hb.lt
  obtain ⟨hcw, hfw⟩ := bcell HT1.out.below
  have hz1 := HT1.out.below.size
  go_upto_region 3 with fail
  have K := Blk.new W1 48 #[.int .i64 20, .string text, .slice (some ⟨b5, off5, none⟩) (m' + 1) c', .bool z]
  have P : Kp T Sb w (W1.alloc (.cells #[.int .i64 20, .string text, .slice (some ⟨b5, off5, none⟩) (m' + 1) c', .bool z] 48)) := P1.alloc _
  have ht := Lib.hid (HT1.out.alloc (.cells #[.int .i64 20, .string text, .slice (some ⟨b5, off5, none⟩) (m' + 1) c', .bool z] 48))
  have zT := HT1.out.blkT
  have zS := HT1.out.blkS
  have gT : W1.heap.size ≠ T := by omega
  have gS : W1.heap.size ≠ Sb := by omega
  have zW : W1.heap.size < (W1.alloc (.cells #[.int .i64 20, .string text, .slice (some ⟨b5, off5, none⟩) (m' + 1) c', .bool z] 48)).heap.size := by simp
  clear hb t0 tz hcw hfw hz1 HT1 P1 x0 x1 x2 x3 hblt
  have hbd := HL.out.seg.1
  replace HL := Lib.hid HL.out.seg.2
  have HM := Lib.hid (fun W h => specWord_any T Sb (some ⟨b, off, none⟩) n c w0 W _ text h (run1_len (tellF_mono ps f) hbd))
  go_wp2_with fail
  refine (HM.out _ ht.out).mono ?_
  rintro e w1 ⟨rfl, ht2, hk2⟩
  have K' := K.kp hk2 gT gS (by decide)
  have P' := P.trans hk2
  clear K P
  have K := K'
  have P := P'
  clear K' P' HM ht zT zS zW
  have ht := Lib.hid (show TL 46 T Sb (some ⟨b, off, none⟩) n c w0 (runE (tellF ps f) S0 [Ev.sg 1 text]) w1 from ht2)
  have zT := ht2.blkT
  have zS := ht2.blkS
  have zW := K.lt
  clear ht2 hk2 hbd
  generalize runE (tellF ps f) S0 [Ev.sg 1 text] = S1 at HL ht
  have hbd := HL.out.seg.1
  replace HL := Lib.hid HL.out.seg.2
  have k0 := K.cell 0
  have k1 := K.cell 1
  have k2 := K.cell 2
  have k3 := K.cell 3
  have kz := K.lt
  simp only [List.getElem?_toArray, List.getElem?_cons_zero, List.getElem?_cons_succ] at k0 k1 k2 k3
  have HM := Lib.hid (fun W h => specMark_any T Sb (some ⟨b, off, none⟩) n c w0 W _ ⟨#[40]⟩ h (run1_len (tellF_mono ps f) hbd))
  go_wp2_with fail
  refine (HM.out _ ht.out).mono ?_
  rintro e w2 ⟨rfl, ht2, hk2⟩
  have K' := K.kp hk2 gT gS (by decide)
  have P' := P.trans hk2
  clear K P k0 k1 k2 k3 kz
  have K := K'
  have P := P'
  clear K' P' HM ht zT zS zW
  have ht := Lib.hid (show TL 46 T Sb (some ⟨b, off, none⟩) n c w0 (runE (tellF ps f) S1 [mkE ⟨#[40]⟩]) w2 from ht2)
  have zT := ht2.blkT
  have zS := ht2.blkS
  have zW := K.lt
  clear ht2 hk2 hbd
  generalize runE (tellF ps f) S1 [mkE ⟨#[40]⟩] = S2 at HL ht
  have hbd := HL.out.seg.1
  replace HL := Lib.hid HL.out.seg.2
  have k0 := K.cell 0
  have k1 := K.cell 1
  have k2 := K.cell 2
  have k3 := K.cell 3
  have kz := K.lt
  simp only [List.getElem?_toArray, List.getElem?_cons_zero, List.getElem?_cons_succ] at k0 k1 k2 k3
  have HM := Lib.hid (fun W c2 h => specSome_any T Sb (some ⟨b, off, none⟩) n c w0 W ps f (some ⟨b5, off5, none⟩) m' c2 (l.take m') _ HN.out (Lib.hid (by rw [List.length_take, hl.out]; omega)) (by omega) (rd1_take HR.out hl.out (by omega)) (Lib.hid (fun v hv => HV.out v (List.mem_of_mem_take hv))) h hbd)
  go_wp2_with fail
  refine (HM.out _ _ ht.out).mono ?_
  rintro e w3 ⟨rfl, ht2, hk2⟩
  have K' := K.kp hk2 gT gS (by decide)
  have P' := P.trans hk2
  clear K P k0 k1 k2 k3 kz
  have K := K'
  have P := P'
  clear K' P' HM ht zT zS zW
  have ht := Lib.hid (show TL 46 T Sb (some ⟨b, off, none⟩) n c w0 (runE (tellF ps f) S2 (sepE ⟨#[44]⟩ (l.take (m' + 1 - 1)))) w3 from ht2)
  have zT := ht2.blkT
  have zS := ht2.blkS
  have zW := K.lt
  clear ht2 hk2 hbd
  generalize runE (tellF ps f) S2 (sepE ⟨#[44]⟩ (l.take (m' + 1 - 1))) = S3 at HL ht
  have hbd := HL.out.seg.1
  replace HL := Lib.hid HL.out.seg.2
  have k0 := K.cell 0
  have k1 := K.cell 1
  have k2 := K.cell 2
  have k3 := K.cell 3
  have kz := K.lt
  simp only [List.getElem?_toArray, List.getElem?_cons_zero, List.getElem?_cons_succ] at k0 k1 k2 k3
  have HM := Lib.hid (fun W h => specMark_any T Sb (some ⟨b, off, none⟩) n c w0 W _ ⟨#[41]⟩ h (run1_len (tellF_mono ps f) hbd))
  go_wp2_with fail
  refine (HM.out _ ht.out).mono ?_
  rintro e w4 ⟨rfl, ht2, hk2⟩
  have K' := K.kp hk2 gT gS (by decide)
  have P' := P.trans hk2
  clear K P k0 k1 k2 k3 kz
  have K := K'
  have P := P'
  clear K' P' HM ht zT zS zW
  have ht := Lib.hid (show TL 46 T Sb (some ⟨b, off, none⟩) n c w0 (runE (tellF ps f) S3 [mkE ⟨#[41]⟩]) w4 from ht2)
  have zT := ht2.blkT
  have zS := ht2.blkS
  have zW := K.lt
  clear ht2 hk2 hbd
  generalize runE (tellF ps f) S3 [mkE ⟨#[41]⟩] = S4 at HL ht
  have hbd := HL.out.seg.1
  replace HL := Lib.hid HL.out.seg.2
  have k0 := K.cell 0
  have k1 := K.cell 1
  have k2 := K.cell 2
  have k3 := K.cell 3
  have kz := K.lt
  simp only [List.getElem?_toArray, List.getElem?_cons_zero, List.getElem?_cons_succ] at k0 k1 k2 k3
  have cv := HCK.out _ ht.out.below m' (ql : Int) (by omega) HXL.out
  rw [hgl] at hbd HL
  have HM := Lib.hid (fun W h => HN.out ql _ W hqlf hqln h hbd)
  go_wp2_with fail
  refine (HM.out _ ht.out).mono ?_
  rintro e w5 ⟨rfl, ht2, hk2⟩
  have K' := K.kp hk2 gT gS (by decide)
  have P' := P.trans hk2
  clear K P k0 k1 k2 k3 kz
  have K := K'
  have P := P'
  clear K' P' HM ht zT zS zW cv
  have ht := Lib.hid (show TL 46 T Sb (some ⟨b, off, none⟩) n c w0 (runE (tellF ps f) S4 [Ev.kid (ql : Int)]) w5 from ht2)
  have zT := ht2.blkT
  have zS := ht2.blkS
  have zW := K.lt
  clear ht2 hk2 hbd
  generalize runE (tellF ps f) S4 [Ev.kid (ql : Int)] = S5 at HL ht
  have k0 := K.cell 0
  have k1 := K.cell 1
  have k2 := K.cell 2
  have k3 := K.cell 3
  simp only [List.getElem?_toArray, List.getElem?_cons_zero, List.getElem?_cons_succ] at k0 k1 k2 k3
  have hfin := HL.out.done
  subst hfin
  clear HL HN
  go_wp2
  go_end0
  exact ⟨rfl, ht.out, P⟩
set_option maxRecDepth 100000 in
set_option maxHeartbeats 3200000 in
theorem so_21 (T Sb : Nat) (A : Option Addr) (n c : Nat) (w0 w : World) (ps : List PN) (f : Nat) (text : ByteArray) (z : Bool) (j : Nat) (s fin : TS) (m : Nat) (l : List Int) (hl : Hid (l.length = m)) (hlo : 0 ≤ m) (hm : m ≤ 12) (hN : NodeC 21 46 T Sb A n c w0 ps f) (h : TL 46 T Sb A n c w0 s w) (hps : Nps w0 A n ps) (hjn : j < n) (hx : Hid (ps[j]? = some ⟨21, text, l, z⟩)) (hv : Hid (∀ v ∈ l, 0 ≤ v ∧ v < (f : Int) ∧ v < (n : Int))) (hL : LeftE (tellF ps f) (s.1, s.2.set j (s.1.length : Int)) ([Ev.sg 1 ⟨#[99, 108, 97, 115, 115]⟩] ++ ([Ev.sg 1 text] ++ ([mkE ⟨#[123]⟩] ++ ((allE l) ++ ([mkE ⟨#[125]⟩] ++ []))))) fin) :
    Calls Tryz.prog 21 #[.pointer (some ⟨T, 0, none⟩), .int .i64 j] w (Puts 46 T Sb A n c w0 w fin) := by
  obtain ⟨b, off, A', c', rfl, hblt, x0, x1, x2, x3, hcap, hr⟩ := hps.atc hjn hx.out
  dsimp only at x0 x1 x2 x3 hcap hr
  rw [hl.out] at x2 hcap hr
  clear hps hx
  unfold Puts
  have HN := Lib.hid hN
  have HV := hv
  have HR := Lib.hid hr
  have HL := Lib.hid hL
  have HTT := Lib.hid h
  obtain ⟨AS, cS, hb, hmi, ho, h1, h2, h3, h4, h5, hbw⟩ := h
  have t1 := hb.cell 1
  have t2 := hb.cell 2
  have tz := hb.lt
  simp only [List.getElem?_toArray, List.getElem?_cons_zero, List.getElem?_cons_succ] at t1 t2
  have hoz := ho.lt
  obtain ⟨o0, e0⟩ := ho.there (i := j) hjn
  have hof := ho.frozen
  have gj : (j : Int) < n := by omega
  have gj0 : (0 : Int) ≤ (j : Int) := by omega
  clear hb hmi ho h1 h2 h3 h4 h5 hbw hL hN hv hr
  go_enter Tryz.func21, Tryz.ntmps21
  go_upto_region 1 with fail
  go_still_tail 11, (by kernel_rfl)
  change wpList _ _ _ _ _ w.drew
  go_upto_region 2 with fail
  have HT1 := Lib.hid (TL.start HTT.out hjn).drew
  have P1 : Kp T Sb w (w.setCell ⟨Sb, j, none⟩ (.int .i64 s.1.length)).drew := ((Kp.refl T Sb w).setS j _).drew
  clear t1 t2 tz hoz e0 hof HTT
  generalize (w.setCell ⟨Sb, j, none⟩ (.int .i64 s.1.length)).drew = W1 at HT1 P1 ⊢
  generalize hs0 : (s.1, s.2.set j (s.1.length : Int)) = S0 at HT1 HL
  clear hs0
  have hT1 := HT1.out
  obtain ⟨AS', cS', hb, _⟩ := hT1
  have t0 := hb.cell 0
  simp only [List.getElem?_toArray, List.getElem?_cons_zero, List.getElem?_cons_succ] at t0
  have tz := hb.lt
  obtain ⟨hcw, hfw⟩ := bcell HT1.out.below
  have hz1 := HT1.out.below.size
  go_upto_region 3 with fail
  have K := Blk.new W1 48 #[.int .i64 21, .string text, .slice A' m c', .bool z]
  have P : Kp T Sb w (W1.alloc (.cells #[.int .i64 21, .string text, .slice A' m c', .bool z] 48)) := P1.alloc _
  have ht := Lib.hid (HT1.out.alloc (.cells #[.int .i64 21, .string text, .slice A' m c', .bool z] 48))
  have zT := HT1.out.blkT
  have zS := HT1.out.blkS
  have gT : W1.heap.size ≠ T := by omega
  have gS : W1.heap.size ≠ Sb := by omega
  have zW : W1.heap.size < (W1.alloc (.cells #[.int .i64 21, .string text, .slice A' m c', .bool z] 48)).heap.size := by simp
  clear hb t0 tz hcw hfw hz1 HT1 P1 x0 x1 x2 x3 hblt
  have hbd := HL.out.seg.1
  replace HL := Lib.hid HL.out.seg.2
  have HM := Lib.hid (fun W h => specWord_any T Sb (some ⟨b, off, none⟩) n c w0 W _ ⟨#[99, 108, 97, 115, 115]⟩ h (run1_len (tellF_mono ps f) hbd))
  go_wp2_with fail
  refine (HM.out _ ht.out).mono ?_
  rintro e w1 ⟨rfl, ht2, hk2⟩
  have K' := K.kp hk2 gT gS (by decide)
  have P' := P.trans hk2
  clear K P
  have K := K'
  have P := P'
  clear K' P' HM ht zT zS zW
  have ht := Lib.hid (show TL 46 T Sb (some ⟨b, off, none⟩) n c w0 (runE (tellF ps f) S0 [Ev.sg 1 ⟨#[99, 108, 97, 115, 115]⟩]) w1 from ht2)
  have zT := ht2.blkT
  have zS := ht2.blkS
  have zW := K.lt
  clear ht2 hk2 hbd
  generalize runE (tellF ps f) S0 [Ev.sg 1 ⟨#[99, 108, 97, 115, 115]⟩] = S1 at HL ht
  have hbd := HL.out.seg.1
  replace HL := Lib.hid HL.out.seg.2
  have k0 := K.cell 0
  have k1 := K.cell 1
  have k2 := K.cell 2
  have k3 := K.cell 3
  have kz := K.lt
  simp only [List.getElem?_toArray, List.getElem?_cons_zero, List.getElem?_cons_succ] at k0 k1 k2 k3
  have HM := Lib.hid (fun W h => specWord_any T Sb (some ⟨b, off, none⟩) n c w0 W _ text h (run1_len (tellF_mono ps f) hbd))
  go_wp2_with fail
  refine (HM.out _ ht.out).mono ?_
  rintro e w2 ⟨rfl, ht2, hk2⟩
  have K' := K.kp hk2 gT gS (by decide)
  have P' := P.trans hk2
  clear K P k0 k1 k2 k3 kz
  have K := K'
  have P := P'
  clear K' P' HM ht zT zS zW
  have ht := Lib.hid (show TL 46 T Sb (some ⟨b, off, none⟩) n c w0 (runE (tellF ps f) S1 [Ev.sg 1 text]) w2 from ht2)
  have zT := ht2.blkT
  have zS := ht2.blkS
  have zW := K.lt
  clear ht2 hk2 hbd
  generalize runE (tellF ps f) S1 [Ev.sg 1 text] = S2 at HL ht
  have hbd := HL.out.seg.1
  replace HL := Lib.hid HL.out.seg.2
  have k0 := K.cell 0
  have k1 := K.cell 1
  have k2 := K.cell 2
  have k3 := K.cell 3
  have kz := K.lt
  simp only [List.getElem?_toArray, List.getElem?_cons_zero, List.getElem?_cons_succ] at k0 k1 k2 k3
  have HM := Lib.hid (fun W h => specMark_any T Sb (some ⟨b, off, none⟩) n c w0 W _ ⟨#[123]⟩ h (run1_len (tellF_mono ps f) hbd))
  go_wp2_with fail
  refine (HM.out _ ht.out).mono ?_
  rintro e w3 ⟨rfl, ht2, hk2⟩
  have K' := K.kp hk2 gT gS (by decide)
  have P' := P.trans hk2
  clear K P k0 k1 k2 k3 kz
  have K := K'
  have P := P'
  clear K' P' HM ht zT zS zW
  have ht := Lib.hid (show TL 46 T Sb (some ⟨b, off, none⟩) n c w0 (runE (tellF ps f) S2 [mkE ⟨#[123]⟩]) w3 from ht2)
  have zT := ht2.blkT
  have zS := ht2.blkS
  have zW := K.lt
  clear ht2 hk2 hbd
  generalize runE (tellF ps f) S2 [mkE ⟨#[123]⟩] = S3 at HL ht
  have hbd := HL.out.seg.1
  replace HL := Lib.hid HL.out.seg.2
  have k0 := K.cell 0
  have k1 := K.cell 1
  have k2 := K.cell 2
  have k3 := K.cell 3
  have kz := K.lt
  simp only [List.getElem?_toArray, List.getElem?_cons_zero, List.getElem?_cons_succ] at k0 k1 k2 k3
  have HM := Lib.hid (fun W h => specAll_any T Sb (some ⟨b, off, none⟩) n c w0 W ps f _ m c' l _ HN.out hl (by omega) HR.out HV h hbd)
  go_wp2_with fail
  refine (HM.out _ ht.out).mono ?_
  rintro e w4 ⟨rfl, ht2, hk2⟩
  have K' := K.kp hk2 gT gS (by decide)
  have P' := P.trans hk2
  clear K P k0 k1 k2 k3 kz
  have K := K'
  have P := P'
  clear K' P' HM ht zT zS zW
  have ht := Lib.hid (show TL 46 T Sb (some ⟨b, off, none⟩) n c w0 (runE (tellF ps f) S3 (allE l)) w4 from ht2)
  have zT := ht2.blkT
  have zS := ht2.blkS
  have zW := K.lt
  clear ht2 hk2 hbd
  generalize runE (tellF ps f) S3 (allE l) = S4 at HL ht
  have hbd := HL.out.seg.1
  replace HL := Lib.hid HL.out.seg.2
  have k0 := K.cell 0
  have k1 := K.cell 1
  have k2 := K.cell 2
  have k3 := K.cell 3
  have kz := K.lt
  simp only [List.getElem?_toArray, List.getElem?_cons_zero, List.getElem?_cons_succ] at k0 k1 k2 k3
  have HM := Lib.hid (fun W h => specMark_any T Sb (some ⟨b, off, none⟩) n c w0 W _ ⟨#[125]⟩ h (run1_len (tellF_mono ps f) hbd))
  go_wp2_with fail
  refine (HM.out _ ht.out).mono ?_
  rintro e w5 ⟨rfl, ht2, hk2⟩
  have K' := K.kp hk2 gT gS (by decide)
  have P' := P.trans hk2
  clear K P k0 k1 k2 k3 kz
  have K := K'
  have P := P'
  clear K' P' HM ht zT zS zW
  have ht := Lib.hid (show TL 46 T Sb (some ⟨b, off, none⟩) n c w0 (runE (tellF ps f) S4 [mkE ⟨#[125]⟩]) w5 from ht2)
  have zT := ht2.blkT
  have zS := ht2.blkS
  have zW := K.lt
  clear ht2 hk2 hbd
  generalize runE (tellF ps f) S4 [mkE ⟨#[125]⟩] = S5 at HL ht
  have k0 := K.cell 0
  have k1 := K.cell 1
  have k2 := K.cell 2
  have k3 := K.cell 3
  simp only [List.getElem?_toArray, List.getElem?_cons_zero, List.getElem?_cons_succ] at k0 k1 k2 k3
  have hfin := HL.out.done
  subst hfin
  clear HL HN
  go_wp2
  go_end0
  exact ⟨rfl, ht.out, P⟩
set_option maxRecDepth 100000 in
set_option maxHeartbeats 3200000 in
theorem so_22 (T Sb : Nat) (A : Option Addr) (n c : Nat) (w0 w : World) (ps : List PN) (f : Nat) (text : ByteArray) (z : Bool) (j : Nat) (s fin : TS) (m : Nat) (l : List Int) (hl : Hid (l.length = m)) (hlo : 0 ≤ m) (hm : m ≤ 12) (hN : NodeC 21 46 T Sb A n c w0 ps f) (h : TL 46 T Sb A n c w0 s w) (hps : Nps w0 A n ps) (hjn : j < n) (hx : Hid (ps[j]? = some ⟨22, text, l, z⟩)) (hv : Hid (∀ v ∈ l, 0 ≤ v ∧ v < (f : Int) ∧ v < (n : Int))) (hL : LeftE (tellF ps f) (s.1, s.2.set j (s.1.length : Int)) ((allE l) ++ []) fin) :
    Calls Tryz.prog 21 #[.pointer (some ⟨T, 0, none⟩), .int .i64 j] w (Puts 46 T Sb A n c w0 w fin) := by
  obtain ⟨b, off, A', c', rfl, hblt, x0, x1, x2, x3, hcap, hr⟩ := hps.atc hjn hx.out
  dsimp only at x0 x1 x2 x3 hcap hr
  rw [hl.out] at x2 hcap hr
  clear hps hx
  unfold Puts
  have HN := Lib.hid hN
  have HV := hv
  have HR := Lib.hid hr
  have HL := Lib.hid hL
  have HTT := Lib.hid h
  obtain ⟨AS, cS, hb, hmi, ho, h1, h2, h3, h4, h5, hbw⟩ := h
  have t1 := hb.cell 1
  have t2 := hb.cell 2
  have tz := hb.lt
  simp only [List.getElem?_toArray, List.getElem?_cons_zero, List.getElem?_cons_succ] at t1 t2
  have hoz := ho.lt
  obtain ⟨o0, e0⟩ := ho.there (i := j) hjn
  have hof := ho.frozen
  have gj : (j : Int) < n := by omega
  have gj0 : (0 : Int) ≤ (j : Int) := by omega
  clear hb hmi ho h1 h2 h3 h4 h5 hbw hL hN hv hr
  go_enter Tryz.func21, Tryz.ntmps21
  go_upto_region 1 with fail
  go_still_tail 11, (by kernel_rfl)
  change wpList _ _ _ _ _ w.drew
  go_upto_region 2 with fail
  have HT1 := Lib.hid (TL.start HTT.out hjn).drew
  have P1 : Kp T Sb w (w.setCell ⟨Sb, j, none⟩ (.int .i64 s.1.length)).drew := ((Kp.refl T Sb w).setS j _).drew
  clear t1 t2 tz hoz e0 hof HTT
  generalize (w.setCell ⟨Sb, j, none⟩ (.int .i64 s.1.length)).drew = W1 at HT1 P1 ⊢
  generalize hs0 : (s.1, s.2.set j (s.1.length : Int)) = S0 at HT1 HL
  clear hs0
  have hT1 := HT1.out
  obtain ⟨AS', cS', hb, _⟩ := hT1
  have t0 := hb.cell 0
  simp only [List.getElem?_toArray, List.getElem?_cons_zero, List.getElem?_cons_succ] at t0
  have tz := hb.lt
  obtain ⟨hcw, hfw⟩ := bcell HT1.out.below
  have hz1 := HT1.out.below.size
  go_upto_region 3 with fail
  have K := Blk.new W1 48 #[.int .i64 22, .string text, .slice A' m c', .bool z]
  have P : Kp T Sb w (W1.alloc (.cells #[.int .i64 22, .string text, .slice A' m c', .bool z] 48)) := P1.alloc _
  have ht := Lib.hid (HT1.out.alloc (.cells #[.int .i64 22, .string text, .slice A' m c', .bool z] 48))
  have zT := HT1.out.blkT
  have zS := HT1.out.blkS
  have gT : W1.heap.size ≠ T := by omega
  have gS : W1.heap.size ≠ Sb := by omega
  have zW : W1.heap.size < (W1.alloc (.cells #[.int .i64 22, .string text, .slice A' m c', .bool z] 48)).heap.size := by simp
  clear hb t0 tz hcw hfw hz1 HT1 P1 x0 x1 x2 x3 hblt
  have hbd := HL.out.seg.1
  replace HL := Lib.hid HL.out.seg.2
  have HM := Lib.hid (fun W h => specAll_any T Sb (some ⟨b, off, none⟩) n c w0 W ps f _ m c' l _ HN.out hl (by omega) HR.out HV h hbd)
  go_wp2_with fail
  refine (HM.out _ ht.out).mono ?_
  rintro e w1 ⟨rfl, ht2, hk2⟩
  have K' := K.kp hk2 gT gS (by decide)
  have P' := P.trans hk2
  clear K P
  have K := K'
  have P := P'
  clear K' P' HM ht zT zS zW
  have ht := Lib.hid (show TL 46 T Sb (some ⟨b, off, none⟩) n c w0 (runE (tellF ps f) S0 (allE l)) w1 from ht2)
  have zT := ht2.blkT
  have zS := ht2.blkS
  have zW := K.lt
  clear ht2 hk2 hbd
  generalize runE (tellF ps f) S0 (allE l) = S1 at HL ht
  have k0 := K.cell 0
  have k1 := K.cell 1
  have k2 := K.cell 2
  have k3 := K.cell 3
  simp only [List.getElem?_toArray, List.getElem?_cons_zero, List.getElem?_cons_succ] at k0 k1 k2 k3
  have hfin := HL.out.done
  subst hfin
  clear HL HN
  go_wp2
  go_end0
  exact ⟨rfl, ht.out, P⟩
end Go.Proofs.YtpfanhheodiamaaGreatDoor

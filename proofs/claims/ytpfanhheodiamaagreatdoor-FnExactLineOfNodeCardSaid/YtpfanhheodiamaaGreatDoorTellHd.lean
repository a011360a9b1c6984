
/-
  Contracts: a word and a value in brackets (spec.l07Flat.held). Written by program (gen_tellh.py).
-/
import Derived.Test.YtpfanhheodiamaaGreatDoorTellG
namespace Go.Proofs.YtpfanhheodiamaaGreatDoor
open Go.RowKit
set_option linter.unusedVariables false
set_option linter.unusedSimpArgs false

def heldE (t : ByteArray) (q : Nat) : List Ev := [Ev.sg 1 t, mkE ⟨#[40]⟩, Ev.kid (q : Int), mkE ⟨#[41]⟩]
set_option maxRecDepth 100000 in
set_option maxHeartbeats 1600000 in
theorem specHeld_any (T Sb : Nat) (A : Option Addr) (n c : Nat) (w0 w : World) (ps : List PN) (f : Nat) (t : ByteArray) (q : Nat) (s : TS) (hN : NodeC 21 46 T Sb A n c w0 ps f) (hqf : q < f) (hqn : q < n) (h : TL 46 T Sb A n c w0 s w) (hS : (runE (tellF ps f) s (heldE t q)).1.length ≤ 1000000) :
    Calls Tryz.prog 48 #[.pointer (some ⟨T, 0, none⟩), .string t, .int .i64 q] w (Puts 46 T Sb A n c w0 w (runE (tellF ps f) s (heldE t q))) := by
  have hL : LeftE (tellF ps f) s ([Ev.sg 1 t] ++ ([mkE ⟨#[40]⟩] ++ ([Ev.kid (q : Int)] ++ ([mkE ⟨#[41]⟩] ++ [])))) (runE (tellF ps f) s (heldE t q)) := ⟨tellF_mono ps f, rfl, hS⟩
  generalize runE (tellF ps f) s (heldE t q) = fin at hL ⊢
  unfold Puts
  have HL := Lib.hid hL
  have HN := Lib.hid hN
  have ht := Lib.hid h
  clear hL hN h hS
  go_enter Tryz.func48, Tryz.ntmps48
  have hbd := HL.out.seg.1
  replace HL := Lib.hid HL.out.seg.2
  have HM := Lib.hid (fun W h => specWord_any T Sb A n c w0 W _ t h (run1_len (tellF_mono ps f) hbd))
  go_wp2_with fail
  refine (HM.out _ ht.out).mono ?_
  rintro e w1 ⟨rfl, ht2, hk1⟩
  clear HM ht
  have ht := Lib.hid (show TL 46 T Sb A n c w0 (runE (tellF ps f) s [Ev.sg 1 t]) w1 from ht2)
  clear ht2 hbd
  generalize runE (tellF ps f) s [Ev.sg 1 t] = S1 at HL ht
  have hbd := HL.out.seg.1
  replace HL := Lib.hid HL.out.seg.2
  have HM := Lib.hid (fun W h => specMark_any T Sb A n c w0 W _ ⟨#[40]⟩ h (run1_len (tellF_mono ps f) hbd))
  go_wp2_with fail
  refine (HM.out _ ht.out).mono ?_
  rintro e w2 ⟨rfl, ht2, hk2⟩
  clear HM ht
  have ht := Lib.hid (show TL 46 T Sb A n c w0 (runE (tellF ps f) S1 [mkE ⟨#[40]⟩]) w2 from ht2)
  clear ht2 hbd
  generalize runE (tellF ps f) S1 [mkE ⟨#[40]⟩] = S2 at HL ht
  have hbd := HL.out.seg.1
  replace HL := Lib.hid HL.out.seg.2
  have HM := Lib.hid (fun W h => HN.out q _ W hqf hqn h hbd)
  go_wp2_with fail
  refine (HM.out _ ht.out).mono ?_
  rintro e w3 ⟨rfl, ht2, hk3⟩
  clear HM ht
  have ht := Lib.hid (show TL 46 T Sb A n c w0 (runE (tellF ps f) S2 [Ev.kid (q : Int)]) w3 from ht2)
  clear ht2 hbd
  generalize runE (tellF ps f) S2 [Ev.kid (q : Int)] = S3 at HL ht
  have hbd := HL.out.seg.1
  replace HL := Lib.hid HL.out.seg.2
  have HM := Lib.hid (fun W h => specMark_any T Sb A n c w0 W _ ⟨#[41]⟩ h (run1_len (tellF_mono ps f) hbd))
  go_wp2_with fail
  refine (HM.out _ ht.out).mono ?_
  rintro e w4 ⟨rfl, ht2, hk4⟩
  clear HM ht
  have ht := Lib.hid (show TL 46 T Sb A n c w0 (runE (tellF ps f) S3 [mkE ⟨#[41]⟩]) w4 from ht2)
  clear ht2 hbd
  generalize runE (tellF ps f) S3 [mkE ⟨#[41]⟩] = S4 at HL ht
  have hfin := HL.out.done
  subst hfin
  clear HL HN
  go_wp2
  go_end0
  exact ⟨rfl, ht.out, ((hk1.trans hk2).trans hk3).trans hk4⟩
end Go.Proofs.YtpfanhheodiamaaGreatDoor

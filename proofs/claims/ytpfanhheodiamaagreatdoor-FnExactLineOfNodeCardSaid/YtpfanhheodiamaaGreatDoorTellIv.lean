
/-
  TellIv put together (merge.py): TellIv1, TellIv4, TellIv5, TellIv5n, TellIv6, TellIv8, TellIv9, TellIv11, TellIv7, TellIv10.
-/
import Derived.Test.YtpfanhheodiamaaGreatDoorTellL
namespace Go.Proofs.YtpfanhheodiamaaGreatDoor
open Go.RowKit
set_option linter.unusedVariables false
set_option linter.unusedSimpArgs false

set_option maxRecDepth 100000 in
set_option maxHeartbeats 3200000 in
theorem iv_1 (T Sb : Nat) (A : Option Addr) (n c : Nat) (w0 w : World) (ps : List PN) (f : Nat) (text : ByteArray) (A' : Option Addr) (c' : Nat) (z : Bool) (s fin : TS) (m : Nat) (l : List Int) (hl : Hid (l.length = m)) (hlo : 0 ≤ m) (hm : m ≤ 12) (hN : NodeC 54 52 T Sb A n c w0 ps f) (h : TL 52 T Sb A n c w0 s w) (hr : Rd w0 1 A' m (intCells l)) (hcap : m ≤ c') (hv : Hid (∀ v ∈ l, 0 ≤ v ∧ v < (f : Int) ∧ v < (n : Int))) (hL : LeftE (tellF ps f) s ([Ev.sg 1 text] ++ []) fin) :
    Calls Tryz.prog 77 #[.pointer (some ⟨T, 0, none⟩), .agg #[.int .i64 1, .string text, .slice A' m c', .bool z]] w (Puts 52 T Sb A n c w0 w fin) := by
  unfold Puts
  have HN := Lib.hid hN
  have HV := hv
  have HR := Lib.hid hr
  have K := Blk.new w 48 #[.int .i64 1, .string text, .slice A' m c', .bool z]
  have P : Kp T Sb w (w.alloc (.cells #[.int .i64 1, .string text, .slice A' m c', .bool z] 48)) := (Kp.refl T Sb w).alloc _
  have ht := Lib.hid (h.alloc (.cells #[.int .i64 1, .string text, .slice A' m c', .bool z] 48))
  have zT := h.blkT
  have zS := h.blkS
  have gT : w.heap.size ≠ T := by omega
  have gS : w.heap.size ≠ Sb := by omega
  have zW : w.heap.size < (w.alloc (.cells #[.int .i64 1, .string text, .slice A' m c', .bool z] 48)).heap.size := by simp
  have HL := Lib.hid hL
  have hS0 : s = s := rfl
  clear hN hv hr h hL hS0
  go_enter Tryz.func77, Tryz.ntmps77
  have hbd := HL.out.seg.1
  replace HL := Lib.hid HL.out.seg.2
  have HM := Lib.hid (fun W h => implWord_any T Sb A n c w0 W _ text h (run1_len (tellF_mono ps f) hbd))
  go_wp2_with fail
  refine (HM.out _ ht.out).mono ?_
  rintro e w1 ⟨rfl, ht2, hk2⟩
  have K' := K.kp hk2 gT gS (by decide)
  have P' := P.trans hk2
  clear K P
  have K := K'
  have P := P'
  clear K' P' HM ht zT zS zW
  have ht := Lib.hid (show TL 52 T Sb A n c w0 (runE (tellF ps f) s [Ev.sg 1 text]) w1 from ht2)
  have zT := ht2.blkT
  have zS := ht2.blkS
  have zW := K.lt
  clear ht2 hk2 hbd
  generalize runE (tellF ps f) s [Ev.sg 1 text] = S1 at HL ht
  have k0 := K.cell 0
  have k1 := K.cell 1
  have k2 := K.cell 2
  have k3 := K.cell 3
  simp only [List.getElem?_toArray, List.getElem?_cons_zero, List.getElem?_cons_succ] at k0 k1 k2 k3
  have hfin := HL.out.done
  subst hfin
  clear HL HN
  go_wp2
  go_end0
  exact ⟨rfl, ht.out, P⟩
set_option maxRecDepth 100000 in
set_option maxHeartbeats 3200000 in
theorem iv_4 (T Sb : Nat) (A : Option Addr) (n c : Nat) (w0 w : World) (ps : List PN) (f : Nat) (text : ByteArray) (A' : Option Addr) (c' : Nat) (z : Bool) (s fin : TS) (m : Nat) (l : List Int) (hl : Hid (l.length = m)) (hlo : 0 ≤ m) (hm : m ≤ 12) (hN : NodeC 54 52 T Sb A n c w0 ps f) (h : TL 52 T Sb A n c w0 s w) (hr : Rd w0 1 A' m (intCells l)) (hcap : m ≤ c') (hv : Hid (∀ v ∈ l, 0 ≤ v ∧ v < (f : Int) ∧ v < (n : Int))) (hL : LeftE (tellF ps f) s ([mkE ⟨#[91]⟩] ++ ((sepE ⟨#[44]⟩ l) ++ ([mkE ⟨#[93]⟩] ++ []))) fin) :
    Calls Tryz.prog 77 #[.pointer (some ⟨T, 0, none⟩), .agg #[.int .i64 4, .string text, .slice A' m c', .bool z]] w (Puts 52 T Sb A n c w0 w fin) := by
  unfold Puts
  have HN := Lib.hid hN
  have HV := hv
  have HR := Lib.hid hr
  have K := Blk.new w 48 #[.int .i64 4, .string text, .slice A' m c', .bool z]
  have P : Kp T Sb w (w.alloc (.cells #[.int .i64 4, .string text, .slice A' m c', .bool z] 48)) := (Kp.refl T Sb w).alloc _
  have ht := Lib.hid (h.alloc (.cells #[.int .i64 4, .string text, .slice A' m c', .bool z] 48))
  have zT := h.blkT
  have zS := h.blkS
  have gT : w.heap.size ≠ T := by omega
  have gS : w.heap.size ≠ Sb := by omega
  have zW : w.heap.size < (w.alloc (.cells #[.int .i64 4, .string text, .slice A' m c', .bool z] 48)).heap.size := by simp
  have HL := Lib.hid hL
  have hS0 : s = s := rfl
  clear hN hv hr h hL hS0
  go_enter Tryz.func77, Tryz.ntmps77
  have hbd := HL.out.seg.1
  replace HL := Lib.hid HL.out.seg.2
  have HM := Lib.hid (fun W g h hg h1 h2 => implMark_one T Sb A n c w0 W _ ⟨#[91]⟩ g h (run1_len1 hbd) hg h1 h2)
  have hG : Blk ((w.alloc (.cells #[.int .i64 4, .string text, .slice A' m c', .bool z] 48)).alloc (.cells #[.string ⟨#[91]⟩] 9)) (w.heap.size + 1) 9 #[.string ⟨#[91]⟩] := by
    have := Blk.new (w.alloc (.cells #[.int .i64 4, .string text, .slice A' m c', .bool z] 48)) 9 #[.string ⟨#[91]⟩]
    rwa [World.size_alloc] at this
  go_wp2_with fail
  refine (HM.out _ _ (ht.out.alloc _) hG (by omega) (by omega)).mono ?_
  rintro e w1 ⟨rfl, ht2, hk2⟩
  replace hk2 := hk2.of_alloc
  have K' := K.kp hk2 gT gS (by decide)
  have P' := P.trans hk2
  clear K P
  have K := K'
  have P := P'
  clear K' P' HM ht zT zS zW
  have ht := Lib.hid (show TL 52 T Sb A n c w0 (runE (tellF ps f) s [mkE ⟨#[91]⟩]) w1 from ht2)
  have zT := ht2.blkT
  have zS := ht2.blkS
  have zW := K.lt
  clear ht2 hk2 hbd
  generalize runE (tellF ps f) s [mkE ⟨#[91]⟩] = S1 at HL ht
  have hbd := HL.out.seg.1
  replace HL := Lib.hid HL.out.seg.2
  have k0 := K.cell 0
  have k1 := K.cell 1
  have k2 := K.cell 2
  have k3 := K.cell 3
  have kz := K.lt
  simp only [List.getElem?_toArray, List.getElem?_cons_zero, List.getElem?_cons_succ] at k0 k1 k2 k3
  have HM := Lib.hid (fun W h => implList_any T Sb A n c w0 W ps f _ m c' l ⟨#[44]⟩ _ HN.out hl (by omega) HR.out HV h hbd)
  go_wp2_with fail
  refine (HM.out _ ht.out).mono ?_
  rintro e w2 ⟨rfl, ht2, hk2⟩
  have K' := K.kp hk2 gT gS (by decide)
  have P' := P.trans hk2
  clear K P k0 k1 k2 k3 kz
  have K := K'
  have P := P'
  clear K' P' HM ht zT zS zW
  have ht := Lib.hid (show TL 52 T Sb A n c w0 (runE (tellF ps f) S1 (sepE ⟨#[44]⟩ l)) w2 from ht2)
  have zT := ht2.blkT
  have zS := ht2.blkS
  have zW := K.lt
  clear ht2 hk2 hbd
  generalize runE (tellF ps f) S1 (sepE ⟨#[44]⟩ l) = S2 at HL ht
  have hbd := HL.out.seg.1
  replace HL := Lib.hid HL.out.seg.2
  have k0 := K.cell 0
  have k1 := K.cell 1
  have k2 := K.cell 2
  have k3 := K.cell 3
  have kz := K.lt
  simp only [List.getElem?_toArray, List.getElem?_cons_zero, List.getElem?_cons_succ] at k0 k1 k2 k3
  have HM := Lib.hid (fun W g h hg h1 h2 => implMark_one T Sb A n c w0 W _ ⟨#[93]⟩ g h (run1_len1 hbd) hg h1 h2)
  go_wp2_with fail
  refine (HM.out _ _ (ht.out.alloc _) (Blk.new _ _ _) (by omega) (by omega)).mono ?_
  rintro e w3 ⟨rfl, ht2, hk2⟩
  replace hk2 := hk2.of_alloc
  have K' := K.kp hk2 gT gS (by decide)
  have P' := P.trans hk2
  clear K P k0 k1 k2 k3 kz
  have K := K'
  have P := P'
  clear K' P' HM ht zT zS zW
  have ht := Lib.hid (show TL 52 T Sb A n c w0 (runE (tellF ps f) S2 [mkE ⟨#[93]⟩]) w3 from ht2)
  have zT := ht2.blkT
  have zS := ht2.blkS
  have zW := K.lt
  clear ht2 hk2 hbd
  generalize runE (tellF ps f) S2 [mkE ⟨#[93]⟩] = S3 at HL ht
  have k0 := K.cell 0
  have k1 := K.cell 1
  have k2 := K.cell 2
  have k3 := K.cell 3
  simp only [List.getElem?_toArray, List.getElem?_cons_zero, List.getElem?_cons_succ] at k0 k1 k2 k3
  have hfin := HL.out.done
  subst hfin
  clear HL HN
  go_wp2
  go_end0
  exact ⟨rfl, ht.out, P⟩
set_option maxRecDepth 100000 in
set_option maxHeartbeats 3200000 in
theorem iv_5 (T Sb : Nat) (A : Option Addr) (n c : Nat) (w0 w : World) (ps : List PN) (f : Nat) (text : ByteArray) (A' : Option Addr) (c' : Nat) (z : Bool) (s fin : TS) (m : Nat) (l : List Int) (hl : Hid (l.length = m)) (hlo : 2 ≤ m) (hm : m ≤ 12) (hN : NodeC 54 52 T Sb A n c w0 ps f) (h : TL 52 T Sb A n c w0 s w) (hr : Rd w0 1 A' m (intCells l)) (hcap : m ≤ c') (hv : Hid (∀ v ∈ l, 0 ≤ v ∧ v < (f : Int) ∧ v < (n : Int))) (hL : LeftE (tellF ps f) s ([Ev.kid (l.getD 0 0)] ++ ([mkE ⟨#[40]⟩] ++ ((sepE ⟨#[44]⟩ (l.drop 1)) ++ ([mkE ⟨#[41]⟩] ++ [])))) fin) :
    Calls Tryz.prog 77 #[.pointer (some ⟨T, 0, none⟩), .agg #[.int .i64 5, .string text, .slice A' m c', .bool z]] w (Puts 52 T Sb A n c w0 w fin) := by
  unfold Puts
  have HN := Lib.hid hN
  have HV := hv
  obtain ⟨x0, hx0⟩ : ∃ x, l[0]? = some x := ⟨_, List.getElem?_eq_getElem (by have := hl.out; omega)⟩
  obtain ⟨b5, off5, rfl, hb5, _⟩ := int_at hr (by omega) hx0
  have HCK := Lib.hid (fun (W : World) (hW : Below w0.heap.size w0 W) (j : Nat) (v : Int) (hj : j < m) (hd : l[j]? = some v) => cell_kid (hr.below hW) hj hd)
  have hvx0 := hv.out x0 (List.mem_of_getElem? hx0)
  obtain ⟨q0, rfl⟩ := Int.eq_ofNat_of_zero_le hvx0.1
  have hq0f : q0 < f := by omega
  have hq0n : q0 < n := by omega
  have hg0 : l.getD 0 0 = (q0 : Int) := by rw [List.getD_eq_getElem?_getD, hx0]; rfl
  have HX0 := Lib.hid hx0
  clear hx0 hvx0
  have HR := Lib.hid hr
  have K := Blk.new w 48 #[.int .i64 5, .string text, .slice (some ⟨b5, off5, none⟩) m c', .bool z]
  have P : Kp T Sb w (w.alloc (.cells #[.int .i64 5, .string text, .slice (some ⟨b5, off5, none⟩) m c', .bool z] 48)) := (Kp.refl T Sb w).alloc _
  have ht := Lib.hid (h.alloc (.cells #[.int .i64 5, .string text, .slice (some ⟨b5, off5, none⟩) m c', .bool z] 48))
  have zT := h.blkT
  have zS := h.blkS
  have gT : w.heap.size ≠ T := by omega
  have gS : w.heap.size ≠ Sb := by omega
  have zW : w.heap.size < (w.alloc (.cells #[.int .i64 5, .string text, .slice (some ⟨b5, off5, none⟩) m c', .bool z] 48)).heap.size := by simp
  have HL := Lib.hid hL
  have hS0 : s = s := rfl
  clear hN hv hr h hL hS0
  go_enter Tryz.func77, Tryz.ntmps77
  have hbd := HL.out.seg.1
  replace HL := Lib.hid HL.out.seg.2
  have cv := HCK.out _ ht.out.below 0 (q0 : Int) (by omega) HX0.out
  simp only [Nat.add_zero] at cv
  rw [hg0] at hbd HL
  have HM := Lib.hid (fun W h => HN.out q0 _ W hq0f hq0n h hbd)
  go_wp2_with fail
  refine (HM.out _ ht.out).mono ?_
  rintro e w1 ⟨rfl, ht2, hk2⟩
  have K' := K.kp hk2 gT gS (by decide)
  have P' := P.trans hk2
  clear K P
  have K := K'
  have P := P'
  clear K' P' HM ht zT zS zW cv
  have ht := Lib.hid (show TL 52 T Sb A n c w0 (runE (tellF ps f) s [Ev.kid (q0 : Int)]) w1 from ht2)
  have zT := ht2.blkT
  have zS := ht2.blkS
  have zW := K.lt
  clear ht2 hk2 hbd
  generalize runE (tellF ps f) s [Ev.kid (q0 : Int)] = S1 at HL ht
  have hbd := HL.out.seg.1
  replace HL := Lib.hid HL.out.seg.2
  have k0 := K.cell 0
  have k1 := K.cell 1
  have k2 := K.cell 2
  have k3 := K.cell 3
  have kz := K.lt
  simp only [List.getElem?_toArray, List.getElem?_cons_zero, List.getElem?_cons_succ] at k0 k1 k2 k3
  have HM := Lib.hid (fun W g h hg h1 h2 => implMark_one T Sb A n c w0 W _ ⟨#[40]⟩ g h (run1_len1 hbd) hg h1 h2)
  go_wp2_with fail
  refine (HM.out _ _ (ht.out.alloc _) (Blk.new _ _ _) (by omega) (by omega)).mono ?_
  rintro e w2 ⟨rfl, ht2, hk2⟩
  replace hk2 := hk2.of_alloc
  have K' := K.kp hk2 gT gS (by decide)
  have P' := P.trans hk2
  clear K P k0 k1 k2 k3 kz
  have K := K'
  have P := P'
  clear K' P' HM ht zT zS zW
  have ht := Lib.hid (show TL 52 T Sb A n c w0 (runE (tellF ps f) S1 [mkE ⟨#[40]⟩]) w2 from ht2)
  have zT := ht2.blkT
  have zS := ht2.blkS
  have zW := K.lt
  clear ht2 hk2 hbd
  generalize runE (tellF ps f) S1 [mkE ⟨#[40]⟩] = S2 at HL ht
  have hbd := HL.out.seg.1
  replace HL := Lib.hid HL.out.seg.2
  have k0 := K.cell 0
  have k1 := K.cell 1
  have k2 := K.cell 2
  have k3 := K.cell 3
  have kz := K.lt
  simp only [List.getElem?_toArray, List.getElem?_cons_zero, List.getElem?_cons_succ] at k0 k1 k2 k3
  have HM := Lib.hid (fun W c2 h => implList_any T Sb A n c w0 W ps f (some ⟨b5, off5 + 1, none⟩) (m - 1) c2 (l.drop 1) ⟨#[44]⟩ _ HN.out (Lib.hid (by rw [List.length_drop, hl.out])) (by omega) (rd1_drop HR.out hl.out (by omega)) (Lib.hid (fun v hv => HV.out v (List.mem_of_mem_drop hv))) h hbd)
  have em : (m : Int) - 1 = ((m - 1 : Nat) : Int) := by omega
  have gm : (1 : Int) ≤ m := by omega
  have gc : ¬ c' = 1 := by omega
  have gc2 : 1 < c' := by omega
  go_wp2_with fail
  refine (HM.out _ _ ht.out).mono ?_
  rintro e w3 ⟨rfl, ht2, hk2⟩
  have K' := K.kp hk2 gT gS (by decide)
  have P' := P.trans hk2
  clear K P k0 k1 k2 k3 kz
  have K := K'
  have P := P'
  clear K' P' HM ht zT zS zW
  have ht := Lib.hid (show TL 52 T Sb A n c w0 (runE (tellF ps f) S2 (sepE ⟨#[44]⟩ (l.drop 1))) w3 from ht2)
  have zT := ht2.blkT
  have zS := ht2.blkS
  have zW := K.lt
  clear ht2 hk2 hbd em gm gc gc2
  generalize runE (tellF ps f) S2 (sepE ⟨#[44]⟩ (l.drop 1)) = S3 at HL ht
  have hbd := HL.out.seg.1
  replace HL := Lib.hid HL.out.seg.2
  have k0 := K.cell 0
  have k1 := K.cell 1
  have k2 := K.cell 2
  have k3 := K.cell 3
  have kz := K.lt
  simp only [List.getElem?_toArray, List.getElem?_cons_zero, List.getElem?_cons_succ] at k0 k1 k2 k3
  have HM := Lib.hid (fun W g h hg h1 h2 => implMark_one T Sb A n c w0 W _ ⟨#[41]⟩ g h (run1_len1 hbd) hg h1 h2)
  go_wp2_with fail
  refine (HM.out _ _ (ht.out.alloc _) (Blk.new _ _ _) (by omega) (by omega)).mono ?_
  rintro e w4 ⟨rfl, ht2, hk2⟩
  replace hk2 := hk2.of_alloc
  have K' := K.kp hk2 gT gS (by decide)
  have P' := P.trans hk2
  clear K P k0 k1 k2 k3 kz
  have K := K'
  have P := P'
  clear K' P' HM ht zT zS zW
  have ht := Lib.hid (show TL 52 T Sb A n c w0 (runE (tellF ps f) S3 [mkE ⟨#[41]⟩]) w4 from ht2)
  have zT := ht2.blkT
  have zS := ht2.blkS
  have zW := K.lt
  clear ht2 hk2 hbd
  generalize runE (tellF ps f) S3 [mkE ⟨#[41]⟩] = S4 at HL ht
  have k0 := K.cell 0
  have k1 := K.cell 1
  have k2 := K.cell 2
  have k3 := K.cell 3
  simp only [List.getElem?_toArray, List.getElem?_cons_zero, List.getElem?_cons_succ] at k0 k1 k2 k3
  have hfin := HL.out.done
  subst hfin
  clear HL HN
  go_wp2
  go_end0
  exact ⟨rfl, ht.out, P⟩
set_option maxRecDepth 100000 in
set_option maxHeartbeats 3200000 in
theorem iv_5n (T Sb : Nat) (A : Option Addr) (n c : Nat) (w0 w : World) (ps : List PN) (f : Nat) (text : ByteArray) (A' : Option Addr) (c' : Nat) (z : Bool) (s fin : TS) (v0 : Nat) (hN : NodeC 54 52 T Sb A n c w0 ps f) (h : TL 52 T Sb A n c w0 s w) (hr : Rd w0 1 A' 1 (intCells [(v0 : Int)])) (hcap : 1 ≤ c') (hv : Hid (∀ v ∈ [(v0 : Int)], 0 ≤ v ∧ v < (f : Int) ∧ v < (n : Int))) (hL : LeftE (tellF ps f) s ([Ev.kid (v0 : Int)] ++ ([mkE ⟨#[40]⟩] ++ ((sepE ⟨#[44]⟩ []) ++ ([mkE ⟨#[41]⟩] ++ [])))) fin) :
    Calls Tryz.prog 77 #[.pointer (some ⟨T, 0, none⟩), .agg #[.int .i64 5, .string text, .slice A' 1 c', .bool z]] w (Puts 52 T Sb A n c w0 w fin) := by
  unfold Puts
  have HN := Lib.hid hN
  have hw0 := hv.out (v0 : Int) (by simp)
  have hv0f : v0 < f := by omega
  have hv0n : v0 < n := by omega
  clear hw0
  obtain ⟨b5, off5, rfl, hb5, _⟩ := int_at (k := 0) (x := (v0 : Int)) hr (by omega) rfl
  have HCK := Lib.hid (fun (W : World) (hW : Below w0.heap.size w0 W) (j : Nat) (v : Int) (hj : j < 1) (hd : ([(v0 : Int)] : List Int)[j]? = some v) => cell_kid (hr.below hW) hj hd)
  have HR := Lib.hid hr
  have K := Blk.new w 48 #[.int .i64 5, .string text, .slice (some ⟨b5, off5, none⟩) 1 c', .bool z]
  have P : Kp T Sb w (w.alloc (.cells #[.int .i64 5, .string text, .slice (some ⟨b5, off5, none⟩) 1 c', .bool z] 48)) := (Kp.refl T Sb w).alloc _
  have ht := Lib.hid (h.alloc (.cells #[.int .i64 5, .string text, .slice (some ⟨b5, off5, none⟩) 1 c', .bool z] 48))
  have zT := h.blkT
  have zS := h.blkS
  have gT : w.heap.size ≠ T := by omega
  have gS : w.heap.size ≠ Sb := by omega
  have zW : w.heap.size < (w.alloc (.cells #[.int .i64 5, .string text, .slice (some ⟨b5, off5, none⟩) 1 c', .bool z] 48)).heap.size := by simp
  have HL := Lib.hid hL
  have hS0 : s = s := rfl
  clear hN hv hr h hL hS0
  by_cases hc1 : c' = 1
  · subst hc1
    go_enter Tryz.func77, Tryz.ntmps77
    have hbd := HL.out.seg.1
    replace HL := Lib.hid HL.out.seg.2
    have cv := HCK.out _ ht.out.below 0 (v0 : Int) (by omega) rfl
    simp only [Nat.add_zero] at cv
    have HM := Lib.hid (fun W h => HN.out v0 _ W hv0f hv0n h hbd)
    go_wp2_with fail
    refine (HM.out _ ht.out).mono ?_
    rintro e w1 ⟨rfl, ht2, hk2⟩
    have K' := K.kp hk2 gT gS (by decide)
    have P' := P.trans hk2
    clear K P
    have K := K'
    have P := P'
    clear K' P' HM ht zT zS zW cv
    have ht := Lib.hid (show TL 52 T Sb A n c w0 (runE (tellF ps f) s [Ev.kid (v0 : Int)]) w1 from ht2)
    have zT := ht2.blkT
    have zS := ht2.blkS
    have zW := K.lt
    clear ht2 hk2 hbd
    generalize runE (tellF ps f) s [Ev.kid (v0 : Int)] = S1 at HL ht
    have hbd := HL.out.seg.1
    replace HL := Lib.hid HL.out.seg.2
    have k0 := K.cell 0
    have k1 := K.cell 1
    have k2 := K.cell 2
    have k3 := K.cell 3
    have kz := K.lt
    simp only [List.getElem?_toArray, List.getElem?_cons_zero, List.getElem?_cons_succ] at k0 k1 k2 k3
    have HM := Lib.hid (fun W g h hg h1 h2 => implMark_one T Sb A n c w0 W _ ⟨#[40]⟩ g h (run1_len1 hbd) hg h1 h2)
    go_wp2_with fail
    refine (HM.out _ _ (ht.out.alloc _) (Blk.new _ _ _) (by omega) (by omega)).mono ?_
    rintro e w2 ⟨rfl, ht2, hk2⟩
    replace hk2 := hk2.of_alloc
    have K' := K.kp hk2 gT gS (by decide)
    have P' := P.trans hk2
    clear K P k0 k1 k2 k3 kz
    have K := K'
    have P := P'
    clear K' P' HM ht zT zS zW
    have ht := Lib.hid (show TL 52 T Sb A n c w0 (runE (tellF ps f) S1 [mkE ⟨#[40]⟩]) w2 from ht2)
    have zT := ht2.blkT
    have zS := ht2.blkS
    have zW := K.lt
    clear ht2 hk2 hbd
    generalize runE (tellF ps f) S1 [mkE ⟨#[40]⟩] = S2 at HL ht
    have hbd := HL.out.seg.1
    replace HL := Lib.hid HL.out.seg.2
    have k0 := K.cell 0
    have k1 := K.cell 1
    have k2 := K.cell 2
    have k3 := K.cell 3
    have kz := K.lt
    simp only [List.getElem?_toArray, List.getElem?_cons_zero, List.getElem?_cons_succ] at k0 k1 k2 k3
    have HM := Lib.hid (fun W A2 c2 h => implList_any T Sb A n c w0 W ps f A2 0 c2 [] ⟨#[44]⟩ _ HN.out (Lib.hid rfl) (by omega) (Rd.none_ _ _ _) (Lib.hid (by intro v hv; cases hv)) h hbd)
    go_wp2_with fail
    refine (HM.out _ _ _ ht.out).mono ?_
    rintro e w3 ⟨rfl, ht2, hk2⟩
    have K' := K.kp hk2 gT gS (by decide)
    have P' := P.trans hk2
    clear K P k0 k1 k2 k3 kz
    have K := K'
    have P := P'
    clear K' P' HM ht zT zS zW
    have ht := Lib.hid (show TL 52 T Sb A n c w0 (runE (tellF ps f) S2 (sepE ⟨#[44]⟩ [])) w3 from ht2)
    have zT := ht2.blkT
    have zS := ht2.blkS
    have zW := K.lt
    clear ht2 hk2 hbd
    generalize runE (tellF ps f) S2 (sepE ⟨#[44]⟩ []) = S3 at HL ht
    have hbd := HL.out.seg.1
    replace HL := Lib.hid HL.out.seg.2
    have k0 := K.cell 0
    have k1 := K.cell 1
    have k2 := K.cell 2
    have k3 := K.cell 3
    have kz := K.lt
    simp only [List.getElem?_toArray, List.getElem?_cons_zero, List.getElem?_cons_succ] at k0 k1 k2 k3
    have HM := Lib.hid (fun W g h hg h1 h2 => implMark_one T Sb A n c w0 W _ ⟨#[41]⟩ g h (run1_len1 hbd) hg h1 h2)
    go_wp2_with fail
    refine (HM.out _ _ (ht.out.alloc _) (Blk.new _ _ _) (by omega) (by omega)).mono ?_
    rintro e w4 ⟨rfl, ht2, hk2⟩
    replace hk2 := hk2.of_alloc
    have K' := K.kp hk2 gT gS (by decide)
    have P' := P.trans hk2
    clear K P k0 k1 k2 k3 kz
    have K := K'
    have P := P'
    clear K' P' HM ht zT zS zW
    have ht := Lib.hid (show TL 52 T Sb A n c w0 (runE (tellF ps f) S3 [mkE ⟨#[41]⟩]) w4 from ht2)
    have zT := ht2.blkT
    have zS := ht2.blkS
    have zW := K.lt
    clear ht2 hk2 hbd
    generalize runE (tellF ps f) S3 [mkE ⟨#[41]⟩] = S4 at HL ht
    have k0 := K.cell 0
    have k1 := K.cell 1
    have k2 := K.cell 2
    have k3 := K.cell 3
    simp only [List.getElem?_toArray, List.getElem?_cons_zero, List.getElem?_cons_succ] at k0 k1 k2 k3
    have hfin := HL.out.done
    subst hfin
    clear HL HN
    go_wp2
    go_end0
    exact ⟨rfl, ht.out, P⟩
  · have hc2 : 1 < c' := by omega
    go_enter Tryz.func77, Tryz.ntmps77
    have hbd := HL.out.seg.1
    replace HL := Lib.hid HL.out.seg.2
    have cv := HCK.out _ ht.out.below 0 (v0 : Int) (by omega) rfl
    simp only [Nat.add_zero] at cv
    have HM := Lib.hid (fun W h => HN.out v0 _ W hv0f hv0n h hbd)
    go_wp2_with fail
    refine (HM.out _ ht.out).mono ?_
    rintro e w1 ⟨rfl, ht2, hk2⟩
    have K' := K.kp hk2 gT gS (by decide)
    have P' := P.trans hk2
    clear K P
    have K := K'
    have P := P'
    clear K' P' HM ht zT zS zW cv
    have ht := Lib.hid (show TL 52 T Sb A n c w0 (runE (tellF ps f) s [Ev.kid (v0 : Int)]) w1 from ht2)
    have zT := ht2.blkT
    have zS := ht2.blkS
    have zW := K.lt
    clear ht2 hk2 hbd
    generalize runE (tellF ps f) s [Ev.kid (v0 : Int)] = S1 at HL ht
    have hbd := HL.out.seg.1
    replace HL := Lib.hid HL.out.seg.2
    have k0 := K.cell 0
    have k1 := K.cell 1
    have k2 := K.cell 2
    have k3 := K.cell 3
    have kz := K.lt
    simp only [List.getElem?_toArray, List.getElem?_cons_zero, List.getElem?_cons_succ] at k0 k1 k2 k3
    have HM := Lib.hid (fun W g h hg h1 h2 => implMark_one T Sb A n c w0 W _ ⟨#[40]⟩ g h (run1_len1 hbd) hg h1 h2)
    go_wp2_with fail
    refine (HM.out _ _ (ht.out.alloc _) (Blk.new _ _ _) (by omega) (by omega)).mono ?_
    rintro e w2 ⟨rfl, ht2, hk2⟩
    replace hk2 := hk2.of_alloc
    have K' := K.kp hk2 gT gS (by decide)
    have P' := P.trans hk2
    clear K P k0 k1 k2 k3 kz
    have K := K'
    have P := P'
    clear K' P' HM ht zT zS zW
    have ht := Lib.hid (show TL 52 T Sb A n c w0 (runE (tellF ps f) S1 [mkE ⟨#[40]⟩]) w2 from ht2)
    have zT := ht2.blkT
    have zS := ht2.blkS
    have zW := K.lt
    clear ht2 hk2 hbd
    generalize runE (tellF ps f) S1 [mkE ⟨#[40]⟩] = S2 at HL ht
    have hbd := HL.out.seg.1
    replace HL := Lib.hid HL.out.seg.2
    have k0 := K.cell 0
    have k1 := K.cell 1
    have k2 := K.cell 2
    have k3 := K.cell 3
    have kz := K.lt
    simp only [List.getElem?_toArray, List.getElem?_cons_zero, List.getElem?_cons_succ] at k0 k1 k2 k3
    have HM := Lib.hid (fun W A2 c2 h => implList_any T Sb A n c w0 W ps f A2 0 c2 [] ⟨#[44]⟩ _ HN.out (Lib.hid rfl) (by omega) (Rd.none_ _ _ _) (Lib.hid (by intro v hv; cases hv)) h hbd)
    go_wp2_with fail
    refine (HM.out _ _ _ ht.out).mono ?_
    rintro e w3 ⟨rfl, ht2, hk2⟩
    have K' := K.kp hk2 gT gS (by decide)
    have P' := P.trans hk2
    clear K P k0 k1 k2 k3 kz
    have K := K'
    have P := P'
    clear K' P' HM ht zT zS zW
    have ht := Lib.hid (show TL 52 T Sb A n c w0 (runE (tellF ps f) S2 (sepE ⟨#[44]⟩ [])) w3 from ht2)
    have zT := ht2.blkT
    have zS := ht2.blkS
    have zW := K.lt
    clear ht2 hk2 hbd
    generalize runE (tellF ps f) S2 (sepE ⟨#[44]⟩ []) = S3 at HL ht
    have hbd := HL.out.seg.1
    replace HL := Lib.hid HL.out.seg.2
    have k0 := K.cell 0
    have k1 := K.cell 1
    have k2 := K.cell 2
    have k3 := K.cell 3
    have kz := K.lt
    simp only [List.getElem?_toArray, List.getElem?_cons_zero, List.getElem?_cons_succ] at k0 k1 k2 k3
    have HM := Lib.hid (fun W g h hg h1 h2 => implMark_one T Sb A n c w0 W _ ⟨#[41]⟩ g h (run1_len1 hbd) hg h1 h2)
    go_wp2_with fail
    refine (HM.out _ _ (ht.out.alloc _) (Blk.new _ _ _) (by omega) (by omega)).mono ?_
    rintro e w4 ⟨rfl, ht2, hk2⟩
    replace hk2 := hk2.of_alloc
    have K' := K.kp hk2 gT gS (by decide)
    have P' := P.trans hk2
    clear K P k0 k1 k2 k3 kz
    have K := K'
    have P := P'
    clear K' P' HM ht zT zS zW
    have ht := Lib.hid (show TL 52 T Sb A n c w0 (runE (tellF ps f) S3 [mkE ⟨#[41]⟩]) w4 from ht2)
    have zT := ht2.blkT
    have zS := ht2.blkS
    have zW := K.lt
    clear ht2 hk2 hbd
    generalize runE (tellF ps f) S3 [mkE ⟨#[41]⟩] = S4 at HL ht
    have k0 := K.cell 0
    have k1 := K.cell 1
    have k2 := K.cell 2
    have k3 := K.cell 3
    simp only [List.getElem?_toArray, List.getElem?_cons_zero, List.getElem?_cons_succ] at k0 k1 k2 k3
    have hfin := HL.out.done
    subst hfin
    clear HL HN
    go_wp2
    go_end0
    exact ⟨rfl, ht.out, P⟩
set_option maxRecDepth 100000 in
set_option maxHeartbeats 3200000 in
theorem iv_6 (T Sb : Nat) (A : Option Addr) (n c : Nat) (w0 w : World) (ps : List PN) (f : Nat) (text : ByteArray) (A' : Option Addr) (c' : Nat) (z : Bool) (s fin : TS) (v0 : Nat) (hN : NodeC 54 52 T Sb A n c w0 ps f) (h : TL 52 T Sb A n c w0 s w) (hr : Rd w0 1 A' 1 (intCells [(v0 : Int)])) (hcap : 1 ≤ c') (hv : Hid (∀ v ∈ [(v0 : Int)], 0 ≤ v ∧ v < (f : Int) ∧ v < (n : Int))) (hL : LeftE (tellF ps f) s ([Ev.kid (v0 : Int)] ++ ([mkE ⟨#[46]⟩] ++ ([Ev.sg 1 text] ++ []))) fin) :
    Calls Tryz.prog 77 #[.pointer (some ⟨T, 0, none⟩), .agg #[.int .i64 6, .string text, .slice A' 1 c', .bool z]] w (Puts 52 T Sb A n c w0 w fin) := by
  unfold Puts
  have HN := Lib.hid hN
  have hw0 := hv.out (v0 : Int) (by simp)
  have hv0f : v0 < f := by omega
  have hv0n : v0 < n := by omega
  clear hw0
  obtain ⟨b5, off5, rfl, hb5, _⟩ := int_at (k := 0) (x := (v0 : Int)) hr (by omega) rfl
  have HCK := Lib.hid (fun (W : World) (hW : Below w0.heap.size w0 W) (j : Nat) (v : Int) (hj : j < 1) (hd : ([(v0 : Int)] : List Int)[j]? = some v) => cell_kid (hr.below hW) hj hd)
  have HR := Lib.hid hr
  have K := Blk.new w 48 #[.int .i64 6, .string text, .slice (some ⟨b5, off5, none⟩) 1 c', .bool z]
  have P : Kp T Sb w (w.alloc (.cells #[.int .i64 6, .string text, .slice (some ⟨b5, off5, none⟩) 1 c', .bool z] 48)) := (Kp.refl T Sb w).alloc _
  have ht := Lib.hid (h.alloc (.cells #[.int .i64 6, .string text, .slice (some ⟨b5, off5, none⟩) 1 c', .bool z] 48))
  have zT := h.blkT
  have zS := h.blkS
  have gT : w.heap.size ≠ T := by omega
  have gS : w.heap.size ≠ Sb := by omega
  have zW : w.heap.size < (w.alloc (.cells #[.int .i64 6, .string text, .slice (some ⟨b5, off5, none⟩) 1 c', .bool z] 48)).heap.size := by simp
  have HL := Lib.hid hL
  have hS0 : s = s := rfl
  clear hN hv hr h hL hS0
  go_enter Tryz.func77, Tryz.ntmps77
  have hbd := HL.out.seg.1
  replace HL := Lib.hid HL.out.seg.2
  have cv := HCK.out _ ht.out.below 0 (v0 : Int) (by omega) rfl
  simp only [Nat.add_zero] at cv
  have HM := Lib.hid (fun W h => HN.out v0 _ W hv0f hv0n h hbd)
  go_wp2_with fail
  refine (HM.out _ ht.out).mono ?_
  rintro e w1 ⟨rfl, ht2, hk2⟩
  have K' := K.kp hk2 gT gS (by decide)
  have P' := P.trans hk2
  clear K P
  have K := K'
  have P := P'
  clear K' P' HM ht zT zS zW cv
  have ht := Lib.hid (show TL 52 T Sb A n c w0 (runE (tellF ps f) s [Ev.kid (v0 : Int)]) w1 from ht2)
  have zT := ht2.blkT
  have zS := ht2.blkS
  have zW := K.lt
  clear ht2 hk2 hbd
  generalize runE (tellF ps f) s [Ev.kid (v0 : Int)] = S1 at HL ht
  have hbd := HL.out.seg.1
  replace HL := Lib.hid HL.out.seg.2
  have k0 := K.cell 0
  have k1 := K.cell 1
  have k2 := K.cell 2
  have k3 := K.cell 3
  have kz := K.lt
  simp only [List.getElem?_toArray, List.getElem?_cons_zero, List.getElem?_cons_succ] at k0 k1 k2 k3
  have HM := Lib.hid (fun W g h hg h1 h2 => implMark_one T Sb A n c w0 W _ ⟨#[46]⟩ g h (run1_len1 hbd) hg h1 h2)
  go_wp2_with fail
  refine (HM.out _ _ (ht.out.alloc _) (Blk.new _ _ _) (by omega) (by omega)).mono ?_
  rintro e w2 ⟨rfl, ht2, hk2⟩
  replace hk2 := hk2.of_alloc
  have K' := K.kp hk2 gT gS (by decide)
  have P' := P.trans hk2
  clear K P k0 k1 k2 k3 kz
  have K := K'
  have P := P'
  clear K' P' HM ht zT zS zW
  have ht := Lib.hid (show TL 52 T Sb A n c w0 (runE (tellF ps f) S1 [mkE ⟨#[46]⟩]) w2 from ht2)
  have zT := ht2.blkT
  have zS := ht2.blkS
  have zW := K.lt
  clear ht2 hk2 hbd
  generalize runE (tellF ps f) S1 [mkE ⟨#[46]⟩] = S2 at HL ht
  have hbd := HL.out.seg.1
  replace HL := Lib.hid HL.out.seg.2
  have k0 := K.cell 0
  have k1 := K.cell 1
  have k2 := K.cell 2
  have k3 := K.cell 3
  have kz := K.lt
  simp only [List.getElem?_toArray, List.getElem?_cons_zero, List.getElem?_cons_succ] at k0 k1 k2 k3
  have HM := Lib.hid (fun W h => implWord_any T Sb A n c w0 W _ text h (run1_len (tellF_mono ps f) hbd))
  go_wp2_with fail
  refine (HM.out _ ht.out).mono ?_
  rintro e w3 ⟨rfl, ht2, hk2⟩
  have K' := K.kp hk2 gT gS (by decide)
  have P' := P.trans hk2
  clear K P k0 k1 k2 k3 kz
  have K := K'
  have P := P'
  clear K' P' HM ht zT zS zW
  have ht := Lib.hid (show TL 52 T Sb A n c w0 (runE (tellF ps f) S2 [Ev.sg 1 text]) w3 from ht2)
  have zT := ht2.blkT
  have zS := ht2.blkS
  have zW := K.lt
  clear ht2 hk2 hbd
  generalize runE (tellF ps f) S2 [Ev.sg 1 text] = S3 at HL ht
  have k0 := K.cell 0
  have k1 := K.cell 1
  have k2 := K.cell 2
  have k3 := K.cell 3
  simp only [List.getElem?_toArray, List.getElem?_cons_zero, List.getElem?_cons_succ] at k0 k1 k2 k3
  have hfin := HL.out.done
  subst hfin
  clear HL HN
  go_wp2
  go_end0
  exact ⟨rfl, ht.out, P⟩
set_option maxRecDepth 100000 in
set_option maxHeartbeats 3200000 in
theorem iv_8 (T Sb : Nat) (A : Option Addr) (n c : Nat) (w0 w : World) (ps : List PN) (f : Nat) (text : ByteArray) (A' : Option Addr) (c' : Nat) (z : Bool) (s fin : TS) (v0 : Nat) (v1 : Nat) (v2 : Nat) (hN : NodeC 54 52 T Sb A n c w0 ps f) (h : TL 52 T Sb A n c w0 s w) (hr : Rd w0 1 A' 3 (intCells [(v0 : Int), (v1 : Int), (v2 : Int)])) (hcap : 3 ≤ c') (hv : Hid (∀ v ∈ [(v0 : Int), (v1 : Int), (v2 : Int)], 0 ≤ v ∧ v < (f : Int) ∧ v < (n : Int))) (hL : LeftE (tellF ps f) s ([Ev.kid (v0 : Int)] ++ ([mkE ⟨#[63]⟩] ++ ([Ev.kid (v1 : Int)] ++ ([mkE ⟨#[58]⟩] ++ ([Ev.kid (v2 : Int)] ++ []))))) fin) :
    Calls Tryz.prog 77 #[.pointer (some ⟨T, 0, none⟩), .agg #[.int .i64 8, .string text, .slice A' 3 c', .bool z]] w (Puts 52 T Sb A n c w0 w fin) := by
  unfold Puts
  have HN := Lib.hid hN
  have hw0 := hv.out (v0 : Int) (by simp)
  have hv0f : v0 < f := by omega
  have hv0n : v0 < n := by omega
  clear hw0
  have hw1 := hv.out (v1 : Int) (by simp)
  have hv1f : v1 < f := by omega
  have hv1n : v1 < n := by omega
  clear hw1
  have hw2 := hv.out (v2 : Int) (by simp)
  have hv2f : v2 < f := by omega
  have hv2n : v2 < n := by omega
  clear hw2
  obtain ⟨b5, off5, rfl, hb5, _⟩ := int_at (k := 0) (x := (v0 : Int)) hr (by omega) rfl
  have HCK := Lib.hid (fun (W : World) (hW : Below w0.heap.size w0 W) (j : Nat) (v : Int) (hj : j < 3) (hd : ([(v0 : Int), (v1 : Int), (v2 : Int)] : List Int)[j]? = some v) => cell_kid (hr.below hW) hj hd)
  have HR := Lib.hid hr
  have K := Blk.new w 48 #[.int .i64 8, .string text, .slice (some ⟨b5, off5, none⟩) 3 c', .bool z]
  have P : Kp T Sb w (w.alloc (.cells #[.int .i64 8, .string text, .slice (some ⟨b5, off5, none⟩) 3 c', .bool z] 48)) := (Kp.refl T Sb w).alloc _
  have ht := Lib.hid (h.alloc (.cells #[.int .i64 8, .string text, .slice (some ⟨b5, off5, none⟩) 3 c', .bool z] 48))
  have zT := h.blkT
  have zS := h.blkS
  have gT : w.heap.size ≠ T := by omega
  have gS : w.heap.size ≠ Sb := by omega
  have zW : w.heap.size < (w.alloc (.cells #[.int .i64 8, .string text, .slice (some ⟨b5, off5, none⟩) 3 c', .bool z] 48)).heap.size := by simp
  have HL := Lib.hid hL
  have hS0 : s = s := rfl
  clear hN hv hr h hL hS0
  go_enter Tryz.func77, Tryz.ntmps77
  have hbd := HL.out.seg.1
  replace HL := Lib.hid HL.out.seg.2
  have cv := HCK.out _ ht.out.below 0 (v0 : Int) (by omega) rfl
  simp only [Nat.add_zero] at cv
  have HM := Lib.hid (fun W h => HN.out v0 _ W hv0f hv0n h hbd)
  go_wp2_with fail
  refine (HM.out _ ht.out).mono ?_
  rintro e w1 ⟨rfl, ht2, hk2⟩
  have K' := K.kp hk2 gT gS (by decide)
  have P' := P.trans hk2
  clear K P
  have K := K'
  have P := P'
  clear K' P' HM ht zT zS zW cv
  have ht := Lib.hid (show TL 52 T Sb A n c w0 (runE (tellF ps f) s [Ev.kid (v0 : Int)]) w1 from ht2)
  have zT := ht2.blkT
  have zS := ht2.blkS
  have zW := K.lt
  clear ht2 hk2 hbd
  generalize runE (tellF ps f) s [Ev.kid (v0 : Int)] = S1 at HL ht
  have hbd := HL.out.seg.1
  replace HL := Lib.hid HL.out.seg.2
  have k0 := K.cell 0
  have k1 := K.cell 1
  have k2 := K.cell 2
  have k3 := K.cell 3
  have kz := K.lt
  simp only [List.getElem?_toArray, List.getElem?_cons_zero, List.getElem?_cons_succ] at k0 k1 k2 k3
  have HM := Lib.hid (fun W g h hg h1 h2 => implMark_one T Sb A n c w0 W _ ⟨#[63]⟩ g h (run1_len1 hbd) hg h1 h2)
  go_wp2_with fail
  refine (HM.out _ _ (ht.out.alloc _) (Blk.new _ _ _) (by omega) (by omega)).mono ?_
  rintro e w2 ⟨rfl, ht2, hk2⟩
  replace hk2 := hk2.of_alloc
  have K' := K.kp hk2 gT gS (by decide)
  have P' := P.trans hk2
  clear K P k0 k1 k2 k3 kz
  have K := K'
  have P := P'
  clear K' P' HM ht zT zS zW
  have ht := Lib.hid (show TL 52 T Sb A n c w0 (runE (tellF ps f) S1 [mkE ⟨#[63]⟩]) w2 from ht2)
  have zT := ht2.blkT
  have zS := ht2.blkS
  have zW := K.lt
  clear ht2 hk2 hbd
  generalize runE (tellF ps f) S1 [mkE ⟨#[63]⟩] = S2 at HL ht
  have hbd := HL.out.seg.1
  replace HL := Lib.hid HL.out.seg.2
  have k0 := K.cell 0
  have k1 := K.cell 1
  have k2 := K.cell 2
  have k3 := K.cell 3
  have kz := K.lt
  simp only [List.getElem?_toArray, List.getElem?_cons_zero, List.getElem?_cons_succ] at k0 k1 k2 k3
  have cv := HCK.out _ ht.out.below 1 (v1 : Int) (by omega) rfl
  have HM := Lib.hid (fun W h => HN.out v1 _ W hv1f hv1n h hbd)
  go_wp2_with fail
  refine (HM.out _ ht.out).mono ?_
  rintro e w3 ⟨rfl, ht2, hk2⟩
  have K' := K.kp hk2 gT gS (by decide)
  have P' := P.trans hk2
  clear K P k0 k1 k2 k3 kz
  have K := K'
  have P := P'
  clear K' P' HM ht zT zS zW cv
  have ht := Lib.hid (show TL 52 T Sb A n c w0 (runE (tellF ps f) S2 [Ev.kid (v1 : Int)]) w3 from ht2)
  have zT := ht2.blkT
  have zS := ht2.blkS
  have zW := K.lt
  clear ht2 hk2 hbd
  generalize runE (tellF ps f) S2 [Ev.kid (v1 : Int)] = S3 at HL ht
  have hbd := HL.out.seg.1
  replace HL := Lib.hid HL.out.seg.2
  have k0 := K.cell 0
  have k1 := K.cell 1
  have k2 := K.cell 2
  have k3 := K.cell 3
  have kz := K.lt
  simp only [List.getElem?_toArray, List.getElem?_cons_zero, List.getElem?_cons_succ] at k0 k1 k2 k3
  have HM := Lib.hid (fun W g h hg h1 h2 => implMark_one T Sb A n c w0 W _ ⟨#[58]⟩ g h (run1_len1 hbd) hg h1 h2)
  go_wp2_with fail
  refine (HM.out _ _ (ht.out.alloc _) (Blk.new _ _ _) (by omega) (by omega)).mono ?_
  rintro e w4 ⟨rfl, ht2, hk2⟩
  replace hk2 := hk2.of_alloc
  have K' := K.kp hk2 gT gS (by decide)
  have P' := P.trans hk2
  clear K P k0 k1 k2 k3 kz
  have K := K'
  have P := P'
  clear K' P' HM ht zT zS zW
  have ht := Lib.hid (show TL 52 T Sb A n c w0 (runE (tellF ps f) S3 [mkE ⟨#[58]⟩]) w4 from ht2)
  have zT := ht2.blkT
  have zS := ht2.blkS
  have zW := K.lt
  clear ht2 hk2 hbd
  generalize runE (tellF ps f) S3 [mkE ⟨#[58]⟩] = S4 at HL ht
  have hbd := HL.out.seg.1
  replace HL := Lib.hid HL.out.seg.2
  have k0 := K.cell 0
  have k1 := K.cell 1
  have k2 := K.cell 2
  have k3 := K.cell 3
  have kz := K.lt
  simp only [List.getElem?_toArray, List.getElem?_cons_zero, List.getElem?_cons_succ] at k0 k1 k2 k3
  have cv := HCK.out _ ht.out.below 2 (v2 : Int) (by omega) rfl
  have HM := Lib.hid (fun W h => HN.out v2 _ W hv2f hv2n h hbd)
  go_wp2_with fail
  refine (HM.out _ ht.out).mono ?_
  rintro e w5 ⟨rfl, ht2, hk2⟩
  have K' := K.kp hk2 gT gS (by decide)
  have P' := P.trans hk2
  clear K P k0 k1 k2 k3 kz
  have K := K'
  have P := P'
  clear K' P' HM ht zT zS zW cv
  have ht := Lib.hid (show TL 52 T Sb A n c w0 (runE (tellF ps f) S4 [Ev.kid (v2 : Int)]) w5 from ht2)
  have zT := ht2.blkT
  have zS := ht2.blkS
  have zW := K.lt
  clear ht2 hk2 hbd
  generalize runE (tellF ps f) S4 [Ev.kid (v2 : Int)] = S5 at HL ht
  have k0 := K.cell 0
  have k1 := K.cell 1
  have k2 := K.cell 2
  have k3 := K.cell 3
  simp only [List.getElem?_toArray, List.getElem?_cons_zero, List.getElem?_cons_succ] at k0 k1 k2 k3
  have hfin := HL.out.done
  subst hfin
  clear HL HN
  go_wp2
  go_end0
  exact ⟨rfl, ht.out, P⟩
set_option maxRecDepth 100000 in
set_option maxHeartbeats 3200000 in
theorem iv_9 (T Sb : Nat) (A : Option Addr) (n c : Nat) (w0 w : World) (ps : List PN) (f : Nat) (text : ByteArray) (A' : Option Addr) (c' : Nat) (z : Bool) (s fin : TS) (m : Nat) (l : List Int) (hl : Hid (l.length = m)) (hlo : 1 ≤ m) (hm : m ≤ 12) (hN : NodeC 54 52 T Sb A n c w0 ps f) (h : TL 52 T Sb A n c w0 s w) (hr : Rd w0 1 A' m (intCells l)) (hcap : m ≤ c') (hv : Hid (∀ v ∈ l, 0 ≤ v ∧ v < (f : Int) ∧ v < (n : Int))) (hL : LeftE (tellF ps f) s ([mkE ⟨#[40]⟩] ++ ((sepE ⟨#[44]⟩ (l.take (m - 1))) ++ ([mkE ⟨#[41]⟩, mkE ⟨#[61, 62]⟩] ++ ([Ev.kid (l.getD (m - 1) 0)] ++ [])))) fin) :
    Calls Tryz.prog 77 #[.pointer (some ⟨T, 0, none⟩), .agg #[.int .i64 9, .string text, .slice A' m c', .bool z]] w (Puts 52 T Sb A n c w0 w fin) := by
  unfold Puts
  have HN := Lib.hid hN
  have HV := hv
  obtain ⟨x0, hx0⟩ : ∃ x, l[0]? = some x := ⟨_, List.getElem?_eq_getElem (by have := hl.out; omega)⟩
  obtain ⟨b5, off5, rfl, hb5, _⟩ := int_at hr (by omega) hx0
  have HCK := Lib.hid (fun (W : World) (hW : Below w0.heap.size w0 W) (j : Nat) (v : Int) (hj : j < m) (hd : l[j]? = some v) => cell_kid (hr.below hW) hj hd)
  have hvx0 := hv.out x0 (List.mem_of_getElem? hx0)
  obtain ⟨q0, rfl⟩ := Int.eq_ofNat_of_zero_le hvx0.1
  have hq0f : q0 < f := by omega
  have hq0n : q0 < n := by omega
  have hg0 : l.getD 0 0 = (q0 : Int) := by rw [List.getD_eq_getElem?_getD, hx0]; rfl
  obtain ⟨m', rfl⟩ : ∃ m', m = m' + 1 := ⟨m - 1, by omega⟩
  obtain ⟨xl, hxl⟩ : ∃ x, l[m']? = some x := ⟨_, List.getElem?_eq_getElem (by have := hl.out; omega)⟩
  have hvxl := hv.out xl (List.mem_of_getElem? hxl)
  obtain ⟨ql, rfl⟩ := Int.eq_ofNat_of_zero_le hvxl.1
  have hqlf : ql < f := by omega
  have hqln : ql < n := by omega
  have hgl : l.getD (m' + 1 - 1) 0 = (ql : Int) := by rw [Nat.add_sub_cancel, List.getD_eq_getElem?_getD, hxl]; rfl
  have em : ((m' + 1 : Nat) : Int) - 1 = (m' : Int) := by omega
  have HX0 := Lib.hid hx0
  clear hx0 hvx0
  have HXL := Lib.hid hxl
  clear hxl hvxl
  have HR := Lib.hid hr
  have K := Blk.new w 48 #[.int .i64 9, .string text, .slice (some ⟨b5, off5, none⟩) (m' + 1) c', .bool z]
  have P : Kp T Sb w (w.alloc (.cells #[.int .i64 9, .string text, .slice (some ⟨b5, off5, none⟩) (m' + 1) c', .bool z] 48)) := (Kp.refl T Sb w).alloc _
  have ht := Lib.hid (h.alloc (.cells #[.int .i64 9, .string text, .slice (some ⟨b5, off5, none⟩) (m' + 1) c', .bool z] 48))
  have zT := h.blkT
  have zS := h.blkS
  have gT : w.heap.size ≠ T := by omega
  have gS : w.heap.size ≠ Sb := by omega
  have zW : w.heap.size < (w.alloc (.cells #[.int .i64 9, .string text, .slice (some ⟨b5, off5, none⟩) (m' + 1) c', .bool z] 48)).heap.size := by simp
  have HL := Lib.hid hL
  have hS0 : s = s := rfl
  clear hN hv hr h hL hS0
  go_enter Tryz.func77, Tryz.ntmps77
  have hbd := HL.out.seg.1
  replace HL := Lib.hid HL.out.seg.2
  have HM := Lib.hid (fun W g h hg h1 h2 => implMark_one T Sb A n c w0 W _ ⟨#[40]⟩ g h (run1_len1 hbd) hg h1 h2)
  have hG : Blk ((w.alloc (.cells #[.int .i64 9, .string text, .slice (some ⟨b5, off5, none⟩) (m' + 1) c', .bool z] 48)).alloc (.cells #[.string ⟨#[40]⟩] 9)) (w.heap.size + 1) 9 #[.string ⟨#[40]⟩] := by
    have := Blk.new (w.alloc (.cells #[.int .i64 9, .string text, .slice (some ⟨b5, off5, none⟩) (m' + 1) c', .bool z] 48)) 9 #[.string ⟨#[40]⟩]
    rwa [World.size_alloc] at this
  go_wp2_with fail
  refine (HM.out _ _ (ht.out.alloc _) hG (by omega) (by omega)).mono ?_
  rintro e w1 ⟨rfl, ht2, hk2⟩
  replace hk2 := hk2.of_alloc
  have K' := K.kp hk2 gT gS (by decide)
  have P' := P.trans hk2
  clear K P
  have K := K'
  have P := P'
  clear K' P' HM ht zT zS zW
  have ht := Lib.hid (show TL 52 T Sb A n c w0 (runE (tellF ps f) s [mkE ⟨#[40]⟩]) w1 from ht2)
  have zT := ht2.blkT
  have zS := ht2.blkS
  have zW := K.lt
  clear ht2 hk2 hbd
  generalize runE (tellF ps f) s [mkE ⟨#[40]⟩] = S1 at HL ht
  have hbd := HL.out.seg.1
  replace HL := Lib.hid HL.out.seg.2
  have k0 := K.cell 0
  have k1 := K.cell 1
  have k2 := K.cell 2
  have k3 := K.cell 3
  have kz := K.lt
  simp only [List.getElem?_toArray, List.getElem?_cons_zero, List.getElem?_cons_succ] at k0 k1 k2 k3
  have HM := Lib.hid (fun W c2 h => implList_any T Sb A n c w0 W ps f (some ⟨b5, off5, none⟩) m' c2 (l.take m') ⟨#[44]⟩ _ HN.out (Lib.hid (by rw [List.length_take, hl.out]; omega)) (by omega) (rd1_take HR.out hl.out (by omega)) (Lib.hid (fun v hv => HV.out v (List.mem_of_mem_take hv))) h hbd)
  go_wp2_with fail
  refine (HM.out _ _ ht.out).mono ?_
  rintro e w2 ⟨rfl, ht2, hk2⟩
  have K' := K.kp hk2 gT gS (by decide)
  have P' := P.trans hk2
  clear K P k0 k1 k2 k3 kz
  have K := K'
  have P := P'
  clear K' P' HM ht zT zS zW
  have ht := Lib.hid (show TL 52 T Sb A n c w0 (runE (tellF ps f) S1 (sepE ⟨#[44]⟩ (l.take (m' + 1 - 1)))) w2 from ht2)
  have zT := ht2.blkT
  have zS := ht2.blkS
  have zW := K.lt
  clear ht2 hk2 hbd
  generalize runE (tellF ps f) S1 (sepE ⟨#[44]⟩ (l.take (m' + 1 - 1))) = S2 at HL ht
  have hbd := HL.out.seg.1
  replace HL := Lib.hid HL.out.seg.2
  have k0 := K.cell 0
  have k1 := K.cell 1
  have k2 := K.cell 2
  have k3 := K.cell 3
  have kz := K.lt
  simp only [List.getElem?_toArray, List.getElem?_cons_zero, List.getElem?_cons_succ] at k0 k1 k2 k3
  have HM := Lib.hid (fun W g h hg h1 h2 => implMark_two T Sb A n c w0 W _ ⟨#[41]⟩ ⟨#[61, 62]⟩ g h (run1_len2 hbd) hg h1 h2)
  go_wp2_with fail
  refine (HM.out _ _ (ht.out.alloc _) (Blk.new _ _ _) (by omega) (by omega)).mono ?_
  rintro e w3 ⟨rfl, ht2, hk2⟩
  replace hk2 := hk2.of_alloc
  have K' := K.kp hk2 gT gS (by decide)
  have P' := P.trans hk2
  clear K P k0 k1 k2 k3 kz
  have K := K'
  have P := P'
  clear K' P' HM ht zT zS zW
  have ht := Lib.hid (show TL 52 T Sb A n c w0 (runE (tellF ps f) S2 [mkE ⟨#[41]⟩, mkE ⟨#[61, 62]⟩]) w3 from ht2)
  have zT := ht2.blkT
  have zS := ht2.blkS
  have zW := K.lt
  clear ht2 hk2 hbd
  generalize runE (tellF ps f) S2 [mkE ⟨#[41]⟩, mkE ⟨#[61, 62]⟩] = S3 at HL ht
  have hbd := HL.out.seg.1
  replace HL := Lib.hid HL.out.seg.2
  have k0 := K.cell 0
  have k1 := K.cell 1
  have k2 := K.cell 2
  have k3 := K.cell 3
  have kz := K.lt
  simp only [List.getElem?_toArray, List.getElem?_cons_zero, List.getElem?_cons_succ] at k0 k1 k2 k3
  have cv := HCK.out _ ht.out.below m' (ql : Int) (by omega) HXL.out
  rw [hgl] at hbd HL
  have HM := Lib.hid (fun W h => HN.out ql _ W hqlf hqln h hbd)
  go_wp2_with fail
  refine (HM.out _ ht.out).mono ?_
  rintro e w4 ⟨rfl, ht2, hk2⟩
  have K' := K.kp hk2 gT gS (by decide)
  have P' := P.trans hk2
  clear K P k0 k1 k2 k3 kz
  have K := K'
  have P := P'
  clear K' P' HM ht zT zS zW cv
  have ht := Lib.hid (show TL 52 T Sb A n c w0 (runE (tellF ps f) S3 [Ev.kid (ql : Int)]) w4 from ht2)
  have zT := ht2.blkT
  have zS := ht2.blkS
  have zW := K.lt
  clear ht2 hk2 hbd
  generalize runE (tellF ps f) S3 [Ev.kid (ql : Int)] = S4 at HL ht
  have k0 := K.cell 0
  have k1 := K.cell 1
  have k2 := K.cell 2
  have k3 := K.cell 3
  simp only [List.getElem?_toArray, List.getElem?_cons_zero, List.getElem?_cons_succ] at k0 k1 k2 k3
  have hfin := HL.out.done
  subst hfin
  clear HL HN
  go_wp2
  go_end0
  exact ⟨rfl, ht.out, P⟩
set_option maxRecDepth 100000 in
set_option maxHeartbeats 3200000 in
theorem iv_11 (T Sb : Nat) (A : Option Addr) (n c : Nat) (w0 w : World) (ps : List PN) (f : Nat) (text : ByteArray) (A' : Option Addr) (c' : Nat) (z : Bool) (s fin : TS) (v0 : Nat) (hN : NodeC 54 52 T Sb A n c w0 ps f) (h : TL 52 T Sb A n c w0 s w) (hr : Rd w0 1 A' 1 (intCells [(v0 : Int)])) (hcap : 1 ≤ c') (hv : Hid (∀ v ∈ [(v0 : Int)], 0 ≤ v ∧ v < (f : Int) ∧ v < (n : Int))) (hL : LeftE (tellF ps f) s ([mkE ⟨#[40]⟩] ++ ([Ev.kid (v0 : Int)] ++ ([mkE ⟨#[41]⟩] ++ []))) fin) :
    Calls Tryz.prog 77 #[.pointer (some ⟨T, 0, none⟩), .agg #[.int .i64 11, .string text, .slice A' 1 c', .bool z]] w (Puts 52 T Sb A n c w0 w fin) := by
  unfold Puts
  have HN := Lib.hid hN
  have hw0 := hv.out (v0 : Int) (by simp)
  have hv0f : v0 < f := by omega
  have hv0n : v0 < n := by omega
  clear hw0
  obtain ⟨b5, off5, rfl, hb5, _⟩ := int_at (k := 0) (x := (v0 : Int)) hr (by omega) rfl
  have HCK := Lib.hid (fun (W : World) (hW : Below w0.heap.size w0 W) (j : Nat) (v : Int) (hj : j < 1) (hd : ([(v0 : Int)] : List Int)[j]? = some v) => cell_kid (hr.below hW) hj hd)
  have HR := Lib.hid hr
  have K := Blk.new w 48 #[.int .i64 11, .string text, .slice (some ⟨b5, off5, none⟩) 1 c', .bool z]
  have P : Kp T Sb w (w.alloc (.cells #[.int .i64 11, .string text, .slice (some ⟨b5, off5, none⟩) 1 c', .bool z] 48)) := (Kp.refl T Sb w).alloc _
  have ht := Lib.hid (h.alloc (.cells #[.int .i64 11, .string text, .slice (some ⟨b5, off5, none⟩) 1 c', .bool z] 48))
  have zT := h.blkT
  have zS := h.blkS
  have gT : w.heap.size ≠ T := by omega
  have gS : w.heap.size ≠ Sb := by omega
  have zW : w.heap.size < (w.alloc (.cells #[.int .i64 11, .string text, .slice (some ⟨b5, off5, none⟩) 1 c', .bool z] 48)).heap.size := by simp
  have HL := Lib.hid hL
  have hS0 : s = s := rfl
  clear hN hv hr h hL hS0
  go_enter Tryz.func77, Tryz.ntmps77
  have hbd := HL.out.seg.1
  replace HL := Lib.hid HL.out.seg.2
  have HM := Lib.hid (fun W g h hg h1 h2 => implMark_one T Sb A n c w0 W _ ⟨#[40]⟩ g h (run1_len1 hbd) hg h1 h2)
  have hG : Blk ((w.alloc (.cells #[.int .i64 11, .string text, .slice (some ⟨b5, off5, none⟩) 1 c', .bool z] 48)).alloc (.cells #[.string ⟨#[40]⟩] 9)) (w.heap.size + 1) 9 #[.string ⟨#[40]⟩] := by
    have := Blk.new (w.alloc (.cells #[.int .i64 11, .string text, .slice (some ⟨b5, off5, none⟩) 1 c', .bool z] 48)) 9 #[.string ⟨#[40]⟩]
    rwa [World.size_alloc] at this
  go_wp2_with fail
  refine (HM.out _ _ (ht.out.alloc _) hG (by omega) (by omega)).mono ?_
  rintro e w1 ⟨rfl, ht2, hk2⟩
  replace hk2 := hk2.of_alloc
  have K' := K.kp hk2 gT gS (by decide)
  have P' := P.trans hk2
  clear K P
  have K := K'
  have P := P'
  clear K' P' HM ht zT zS zW
  have ht := Lib.hid (show TL 52 T Sb A n c w0 (runE (tellF ps f) s [mkE ⟨#[40]⟩]) w1 from ht2)
  have zT := ht2.blkT
  have zS := ht2.blkS
  have zW := K.lt
  clear ht2 hk2 hbd
  generalize runE (tellF ps f) s [mkE ⟨#[40]⟩] = S1 at HL ht
  have hbd := HL.out.seg.1
  replace HL := Lib.hid HL.out.seg.2
  have k0 := K.cell 0
  have k1 := K.cell 1
  have k2 := K.cell 2
  have k3 := K.cell 3
  have kz := K.lt
  simp only [List.getElem?_toArray, List.getElem?_cons_zero, List.getElem?_cons_succ] at k0 k1 k2 k3
  have cv := HCK.out _ ht.out.below 0 (v0 : Int) (by omega) rfl
  simp only [Nat.add_zero] at cv
  have HM := Lib.hid (fun W h => HN.out v0 _ W hv0f hv0n h hbd)
  go_wp2_with fail
  refine (HM.out _ ht.out).mono ?_
  rintro e w2 ⟨rfl, ht2, hk2⟩
  have K' := K.kp hk2 gT gS (by decide)
  have P' := P.trans hk2
  clear K P k0 k1 k2 k3 kz
  have K := K'
  have P := P'
  clear K' P' HM ht zT zS zW cv
  have ht := Lib.hid (show TL 52 T Sb A n c w0 (runE (tellF ps f) S1 [Ev.kid (v0 : Int)]) w2 from ht2)
  have zT := ht2.blkT
  have zS := ht2.blkS
  have zW := K.lt
  clear ht2 hk2 hbd
  generalize runE (tellF ps f) S1 [Ev.kid (v0 : Int)] = S2 at HL ht
  have hbd := HL.out.seg.1
  replace HL := Lib.hid HL.out.seg.2
  have k0 := K.cell 0
  have k1 := K.cell 1
  have k2 := K.cell 2
  have k3 := K.cell 3
  have kz := K.lt
  simp only [List.getElem?_toArray, List.getElem?_cons_zero, List.getElem?_cons_succ] at k0 k1 k2 k3
  have HM := Lib.hid (fun W g h hg h1 h2 => implMark_one T Sb A n c w0 W _ ⟨#[41]⟩ g h (run1_len1 hbd) hg h1 h2)
  go_wp2_with fail
  refine (HM.out _ _ (ht.out.alloc _) (Blk.new _ _ _) (by omega) (by omega)).mono ?_
  rintro e w3 ⟨rfl, ht2, hk2⟩
  replace hk2 := hk2.of_alloc
  have K' := K.kp hk2 gT gS (by decide)
  have P' := P.trans hk2
  clear K P k0 k1 k2 k3 kz
  have K := K'
  have P := P'
  clear K' P' HM ht zT zS zW
  have ht := Lib.hid (show TL 52 T Sb A n c w0 (runE (tellF ps f) S2 [mkE ⟨#[41]⟩]) w3 from ht2)
  have zT := ht2.blkT
  have zS := ht2.blkS
  have zW := K.lt
  clear ht2 hk2 hbd
  generalize runE (tellF ps f) S2 [mkE ⟨#[41]⟩] = S3 at HL ht
  have k0 := K.cell 0
  have k1 := K.cell 1
  have k2 := K.cell 2
  have k3 := K.cell 3
  simp only [List.getElem?_toArray, List.getElem?_cons_zero, List.getElem?_cons_succ] at k0 k1 k2 k3
  have hfin := HL.out.done
  subst hfin
  clear HL HN
  go_wp2
  go_end0
  exact ⟨rfl, ht.out, P⟩
set_option maxRecDepth 100000 in
set_option maxHeartbeats 3200000 in
theorem iv_7 (T Sb : Nat) (A : Option Addr) (n c : Nat) (w0 w : World) (ps : List PN) (f : Nat) (text : ByteArray) (A' : Option Addr) (c' : Nat) (z : Bool) (s fin : TS) (m : Nat) (l : List Int) (hl : Hid (l.length = m)) (hlo : 0 ≤ m) (hm : m ≤ 12) (hN : NodeC 54 52 T Sb A n c w0 ps f) (h : TL 52 T Sb A n c w0 s w) (hr : Rd w0 1 A' m (intCells l)) (hcap : m ≤ c') (hv : Hid (∀ v ∈ l, 0 ≤ v ∧ v < (f : Int) ∧ v < (n : Int))) (hL : LeftE (tellF ps f) s ((sepE text l) ++ []) fin) :
    Calls Tryz.prog 77 #[.pointer (some ⟨T, 0, none⟩), .agg #[.int .i64 7, .string text, .slice A' m c', .bool z]] w (Puts 52 T Sb A n c w0 w fin) := by
  unfold Puts
  have HN := Lib.hid hN
  have HV := hv
  have HR := Lib.hid hr
  have K := Blk.new w 48 #[.int .i64 7, .string text, .slice A' m c', .bool z]
  have P : Kp T Sb w (w.alloc (.cells #[.int .i64 7, .string text, .slice A' m c', .bool z] 48)) := (Kp.refl T Sb w).alloc _
  have ht := Lib.hid (h.alloc (.cells #[.int .i64 7, .string text, .slice A' m c', .bool z] 48))
  have zT := h.blkT
  have zS := h.blkS
  have gT : w.heap.size ≠ T := by omega
  have gS : w.heap.size ≠ Sb := by omega
  have zW : w.heap.size < (w.alloc (.cells #[.int .i64 7, .string text, .slice A' m c', .bool z] 48)).heap.size := by simp
  have HL := Lib.hid hL
  have hS0 : s = s := rfl
  clear hN hv hr h hL hS0
  go_enter Tryz.func77, Tryz.ntmps77
  have hbd := HL.out.seg.1
  replace HL := Lib.hid HL.out.seg.2
  have HM := Lib.hid (fun W h => implList_any T Sb A n c w0 W ps f _ m c' l text _ HN.out hl (by omega) HR.out HV h hbd)
  go_wp2_with fail
  refine (HM.out _ ht.out).mono ?_
  rintro e w1 ⟨rfl, ht2, hk2⟩
  have K' := K.kp hk2 gT gS (by decide)
  have P' := P.trans hk2
  clear K P
  have K := K'
  have P := P'
  clear K' P' HM ht zT zS zW
  have ht := Lib.hid (show TL 52 T Sb A n c w0 (runE (tellF ps f) s (sepE text l)) w1 from ht2)
  have zT := ht2.blkT
  have zS := ht2.blkS
  have zW := K.lt
  clear ht2 hk2 hbd
  generalize runE (tellF ps f) s (sepE text l) = S1 at HL ht
  have k0 := K.cell 0
  have k1 := K.cell 1
  have k2 := K.cell 2
  have k3 := K.cell 3
  simp only [List.getElem?_toArray, List.getElem?_cons_zero, List.getElem?_cons_succ] at k0 k1 k2 k3
  have hfin := HL.out.done
  subst hfin
  clear HL HN
  go_wp2
  go_end0
  exact ⟨rfl, ht.out, P⟩
set_option maxRecDepth 100000 in
set_option maxHeartbeats 3200000 in
theorem iv_10 (T Sb : Nat) (A : Option Addr) (n c : Nat) (w0 w : World) (ps : List PN) (f : Nat) (text : ByteArray) (A' : Option Addr) (c' : Nat) (z : Bool) (s fin : TS) (m : Nat) (l : List Int) (hl : Hid (l.length = m)) (hlo : 0 ≤ m) (hm : m ≤ 12) (hN : NodeC 54 52 T Sb A n c w0 ps f) (h : TL 52 T Sb A n c w0 s w) (hr : Rd w0 1 A' m (intCells l)) (hcap : m ≤ c') (hv : Hid (∀ v ∈ l, 0 ≤ v ∧ v < (f : Int) ∧ v < (n : Int))) (hL : LeftE (tellF ps f) s ((sepE ⟨#[46, 46]⟩ l) ++ []) fin) :
    Calls Tryz.prog 77 #[.pointer (some ⟨T, 0, none⟩), .agg #[.int .i64 10, .string text, .slice A' m c', .bool z]] w (Puts 52 T Sb A n c w0 w fin) := by
  unfold Puts
  have HN := Lib.hid hN
  have HV := hv
  have HR := Lib.hid hr
  have K := Blk.new w 48 #[.int .i64 10, .string text, .slice A' m c', .bool z]
  have P : Kp T Sb w (w.alloc (.cells #[.int .i64 10, .string text, .slice A' m c', .bool z] 48)) := (Kp.refl T Sb w).alloc _
  have ht := Lib.hid (h.alloc (.cells #[.int .i64 10, .string text, .slice A' m c', .bool z] 48))
  have zT := h.blkT
  have zS := h.blkS
  have gT : w.heap.size ≠ T := by omega
  have gS : w.heap.size ≠ Sb := by omega
  have zW : w.heap.size < (w.alloc (.cells #[.int .i64 10, .string text, .slice A' m c', .bool z] 48)).heap.size := by simp
  have HL := Lib.hid hL
  have hS0 : s = s := rfl
  clear hN hv hr h hL hS0
  go_enter Tryz.func77, Tryz.ntmps77
  have hbd := HL.out.seg.1
  replace HL := Lib.hid HL.out.seg.2
  have HM := Lib.hid (fun W h => implList_any T Sb A n c w0 W ps f _ m c' l ⟨#[46, 46]⟩ _ HN.out hl (by omega) HR.out HV h hbd)
  go_wp2_with fail
  refine (HM.out _ ht.out).mono ?_
  rintro e w1 ⟨rfl, ht2, hk2⟩
  have K' := K.kp hk2 gT gS (by decide)
  have P' := P.trans hk2
  clear K P
  have K := K'
  have P := P'
  clear K' P' HM ht zT zS zW
  have ht := Lib.hid (show TL 52 T Sb A n c w0 (runE (tellF ps f) s (sepE ⟨#[46, 46]⟩ l)) w1 from ht2)
  have zT := ht2.blkT
  have zS := ht2.blkS
  have zW := K.lt
  clear ht2 hk2 hbd
  generalize runE (tellF ps f) s (sepE ⟨#[46, 46]⟩ l) = S1 at HL ht
  have k0 := K.cell 0
  have k1 := K.cell 1
  have k2 := K.cell 2
  have k3 := K.cell 3
  simp only [List.getElem?_toArray, List.getElem?_cons_zero, List.getElem?_cons_succ] at k0 k1 k2 k3
  have hfin := HL.out.done
  subst hfin
  clear HL HN
  go_wp2
  go_end0
  exact ⟨rfl, ht.out, P⟩
end Go.Proofs.YtpfanhheodiamaaGreatDoor

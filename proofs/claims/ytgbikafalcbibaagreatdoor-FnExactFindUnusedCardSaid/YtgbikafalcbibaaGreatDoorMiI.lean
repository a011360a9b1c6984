/-
  Put together by program (shake.py): TellNb, TellQ, TellNc.
-/
import Derived.Test.YtgbikafalcbibaaGreatDoorMiH
set_option maxRecDepth 100000
set_option maxHeartbeats 25600000
set_option linter.unusedVariables false
set_option linter.unusedSimpArgs false
open Go.Lib (hid)
open Go.Proofs.Tryz
namespace Go.Proofs.YtgbikafalcbibaaGreatDoor
open Go.RowKit
theorem io_any (T Sb : Nat) (A : Option Addr) (n c : Nat) (w0 w : World) (ps : List PN) (f : Nat) (kd : Int) (text : ByteArray) (A' : Option Addr) (m c' : Nat) (z : Bool) (l : List Int) (es : List Ev) (s fin : TS) (hN : NodeC 85 76 T Sb A n c w0 ps f) (h : TL 76 T Sb A n c w0 s w) (hr : Rd w0 1 A' m (intCells l)) (hl : l.length = m) (hm : m ≤ 12) (hcap : m ≤ c') (hv : Hid (∀ v ∈ l, 0 ≤ v ∧ v < (f : Int) ∧ v < (n : Int))) (hk : 12 ≤ kd ∧ kd ≤ 22) (hF : EvF text kd l m es) (hL : LeftE (tellF ps f) s es fin) :
  Calls prog 121 #[.pointer (some ⟨T, 0, none⟩), .agg #[.int .i64 kd, .string text, .slice A' m c', .bool z]] w (Puts 76 T Sb A n c w0 w fin) := by
 have H := At.new (kd := kd) (text := text) (c' := c') (z := z) (A' := A') h (Kp.refl T Sb w) hL hN hv.out hr hl hm
 have zT := h.blkT
 have zS := h.blkS
 cases hF
 all_goals first | (exfalso; omega) | skip
 case k19 => exact io_19 T Sb A n c w0 w ps f text A' 0 c' z s fin h hL
 all_goals
  first | (have ha := rd_addr hr hl (by omega); obtain ⟨b5, off5, rfl⟩ := ha) | skip
  clear h hL hN hv hr hl
  unfold Puts
  first | obtain ⟨cv0, cv1, cv2⟩ := At.kc3 H | obtain ⟨cv0, cv1, cv2⟩ := At.kc2 H | obtain ⟨cv0, cv1, cv2⟩ := At.kc1 H | obtain ⟨cv0, cv1, cv2⟩ := At.kcl H | skip
  go_enter func121, ntmps121
  repeat
   go_wp2_with fail
   first
   | (go_at_call 85; refine At.one H ?_)
   | (go_at_call 151; refine At.iword H ?_)
   | (go_at_call 152; refine At.imark H ?_)
   | (go_at_call 154; refine At.ieach H ?_)
   | (go_at_call 153; refine At.ilist H H.out.hl H.out.hm H.out.hr (fun v h => h) ?_)
   | (go_at_call 153; refine At.ilist H (Nat.succ.inj H.out.hl) (Nat.le_of_succ_le H.out.hm) (rd1_drop H.out.hr H.out.hl (by omega)) (fun v h => List.mem_cons_of_mem _ h) ?_)
   | (go_at_call 153; refine At.ilist (l2 := []) H rfl (by decide) (Rd.none_ _ _ _) (fun v h => absurd h (by simp)) ?_)
   | (go_at_call 153; refine At.ilist H (len_snoc H.out.hl) (Nat.le_of_succ_le H.out.hm) (rd1_snoc H.out.hr H.out.hl) (fun v h => List.mem_append_left _ h) ?_)
   try clear k0 k1 k2 k3 kz zT zS
   try clear cv0 cv1 cv2
   intro W1 s1 H1
   clear H
   have H := H1
   clear H1
   obtain ⟨k0, k1, k2, k3, kz, zT, zS⟩ := At.facts H
   first | obtain ⟨cv0, cv1, cv2⟩ := At.kc3 H | obtain ⟨cv0, cv1, cv2⟩ := At.kc2 H | obtain ⟨cv0, cv1, cv2⟩ := At.kc1 H | obtain ⟨cv0, cv1, cv2⟩ := At.kcl H | skip
  go_wp2
  go_end0
  exact ⟨rfl, (At.fin_ H).1, (At.fin_ H).2⟩
theorem sv_7 (T Sb : Nat) (A : Option Addr) (n c : Nat) (w0 w : World) (ps : List PN) (f : Nat) (text : ByteArray) (A' : Option Addr) (c' : Nat) (z : Bool) (s fin : TS) (m : Nat) (l : List Int) (hl : Hid (l.length = m)) (hlo : 2 ≤ m) (hm : m ≤ 12) (hN : NodeC 80 97 T Sb A n c w0 ps f) (h : TL 97 T Sb A n c w0 s w) (hr : Rd w0 1 A' m (intCells l)) (hcap : m ≤ c') (hv : Hid (∀ v ∈ l, 0 ≤ v ∧ v < (f : Int) ∧ v < (n : Int))) (hL : LeftE (tellF ps f) s (sepE text l) fin) :
  Calls prog 114 #[.pointer (some ⟨T, 0, none⟩), .agg #[.int .i64 7, .string text, .slice A' m c', .bool z]] w (Puts 97 T Sb A n c w0 w fin) := by
 unfold Puts
 obtain ⟨x0, hx0⟩ : ∃ x, l[0]? = some x := ⟨_, gE (by have := hl.out; omega)⟩
 obtain ⟨b5, off5, rfl, hb5, _⟩ := int_at hr (by omega) hx0
 have HCK := hid (fun (W : World) (hW : Below w0.heap.size w0 W) (j : Nat) (v : Int) (hj : j < m) (hd : l[j]? = some v) => cell_kid (hr.below hW) hj hd)
 obtain ⟨m', rfl⟩ : ∃ m', m = m' + 1 := ⟨m - 1, by omega⟩
 have em : ((m' + 1 : Nat) : Int) - 1 = (m' : Int) := by omega
 have HN := hid hN
 have hfin : runE (tellF ps f) s (sepE text l) = fin := hL.2.1
 have hmax := hL.2.2
 have HS := hid (fun i => (show (runE (tellF ps f) s (sepE text (l.take i))).1.length ≤ 1000000 by
  obtain ⟨fs, hfs⟩ := sepE_pre text l i
  rw [← hfin, hfs] at hmax
  exact runE_head (tellF_mono ps f) hmax))
 have HF := hid hfin
 have K := Blk.new w 36 #[.int .i64 7, .string text, .slice (some ⟨b5, off5, none⟩) (m' + 1) c', .bool z]
 have P : Kp T Sb w (w.alloc (.cells #[.int .i64 7, .string text, .slice (some ⟨b5, off5, none⟩) (m' + 1) c', .bool z] 36)) := (Kp.refl T Sb w).alloc _
 have ht := hid (h.alloc (.cells #[.int .i64 7, .string text, .slice (some ⟨b5, off5, none⟩) (m' + 1) c', .bool z] 36))
 have zT := h.blkT
 have zS := h.blkS
 have gT : w.heap.size ≠ T := by omega
 have gS : w.heap.size ≠ Sb := by omega
 have HX0 := hid hx0
 clear hN h hr hL hfin hmax hx0
 go_enter func114, ntmps114
 go_wp2
 go_loopw [5] (fun j wr => ∃ i : Nat, i ≤ m' + 1 ∧ j = .int .i64 i ∧ TL 97 T Sb A n c w0 (runE (tellF ps f) s (sepE text (l.take i))) wr ∧ Kp T Sb w wr ∧ Blk wr w.heap.size 36 #[.int .i64 7, .string text, .slice (some ⟨b5, off5, none⟩) (m' + 1) c', .bool z]) (fun j _ => m' + 1 - (intOf j).toNat)
 case atStart => exact ⟨0, Nat.zero_le _, rfl, by simpa [runE, sepE] using ht.out, P, K⟩
 case round =>
  clear K P ht HX0
  obtain ⟨i, hi, rfl, htl, hkp, hK⟩ := hrel
  have k0 := hK.q0
  have k1 := hK.q1
  have k2 := hK.q2
  have kz := hK.lt
  by_cases hlt : i < m' + 1
  ·have gle : (i : Int) ≤ (m' : Int) := by omega
   obtain ⟨v, hd⟩ : ∃ d, l[i]? = some d := ⟨_, gE (by have := hl.out; omega)⟩
   have hvv := hv.out v (List.mem_of_getElem? hd)
   obtain ⟨q, rfl⟩ := Int.eq_ofNat_of_zero_le hvv.1
   have hqf : q < f := by omega
   have hqn : q < n := by omega
   have gi : (i : Int) < (m' : Int) + 1 := by omega
   have HD := hid hd
   have HT1 := hid htl
   have HKP := hid hkp
   have HKK := hid hK
   have hnext := HS.out (i + 1)
   have hst := hid (sepE_step (mk := text) hd)
   clear hvv hd htl hkp hK
   by_cases hi0 : 0 < i
   ·have hi0' : (0 : Int) < i := by omega
    have hrun := hid (show runE (tellF ps f) s (sepE text (l.take (i + 1))) = tellF ps f q (putS (runE (tellF ps f) s (sepE text (l.take i))) (4, text)) by
     rw [hst.out, if_pos hi0, runE_app]; rfl)
    rw [hrun.out] at hnext
    have hlen1 : (runE (tellF ps f) s (sepE text (l.take i))).1.length ≤ 1000000 := HS.out i
    generalize runE (tellF ps f) s (sepE text (l.take i)) = SI at HT1 hrun hnext hlen1
    clear hst
    have HM := hid (fun (W : World) (ht : TL 97 T Sb A n c w0 SI W) => specMark_any T Sb A n c w0 W SI text ht hlen1)
    go_wp2_with fail
    refine (HM.out _ HT1.out).mono ?_
    rintro e w2 ⟨rfl, ht2, hk2⟩
    have K2 := HKK.out.kp hk2 gT gS (by decide)
    have cv := HCK.out _ ht2.below i (q : Int) (by omega) HD.out
    have hk3 := HKP.out.trans hk2
    clear k0 k1 k2 kz
    have k2 := K2.q2
    have kz := K2.lt
    go_wp2_with fail
    refine (HN.out q _ _ hqf hqn ht2 hnext).mono ?_
    rintro e w3 ⟨rfl, ht3, hk4⟩
    have K3 := K2.kp hk4 gT gS (by decide)
    go_wp2
    go_roundw
    case rel => exact ⟨i + 1, by omega, by go_num, (by rw [hrun.out]; exact ht3), hk3.trans hk4, K3⟩
    case measure => simp [intOf]; omega
   ·have hi0' : ¬ (0 : Int) < i := by omega
    have hrun := hid (show runE (tellF ps f) s (sepE text (l.take (i + 1))) = tellF ps f q (runE (tellF ps f) s (sepE text (l.take i))) by
     rw [hst.out, if_neg hi0, runE_app]; rfl)
    rw [hrun.out] at hnext
    have cv := HCK.out _ HT1.out.below i (q : Int) (by omega) HD.out
    generalize runE (tellF ps f) s (sepE text (l.take i)) = SI at HT1 hrun hnext
    clear hst
    go_wp2_with fail
    refine (HN.out q _ _ hqf hqn HT1.out hnext).mono ?_
    rintro e w3 ⟨rfl, ht3, hk4⟩
    have K3 := HKK.out.kp hk4 gT gS (by decide)
    go_wp2
    go_roundw
    case rel => exact ⟨i + 1, by omega, by go_num, (by rw [hrun.out]; exact ht3), HKP.out.trans hk4, K3⟩
    case measure => simp [intOf]; omega
  ·obtain rfl : i = m' + 1 := by omega
   rw [show l.take (m' + 1) = l by rw [List.take_of_length_le (by have := hl.out; omega)], HF.out] at htl
   have gle : ¬ (((m' + 1 : Nat) : Int) ≤ (m' : Int)) := by omega
   have HT1 := hid htl
   have HKP := hid hkp
   clear htl hkp
   go_wp2
   go_end0
   exact ⟨rfl, HT1.out, HKP.out⟩
theorem sv_10 (T Sb : Nat) (A : Option Addr) (n c : Nat) (w0 w : World) (ps : List PN) (f : Nat) (text : ByteArray) (A' : Option Addr) (c' : Nat) (z : Bool) (s fin : TS) (m : Nat) (l : List Int) (hl : Hid (l.length = m)) (hlo : 2 ≤ m) (hm : m ≤ 12) (hN : NodeC 80 97 T Sb A n c w0 ps f) (h : TL 97 T Sb A n c w0 s w) (hr : Rd w0 1 A' m (intCells l)) (hcap : m ≤ c') (hv : Hid (∀ v ∈ l, 0 ≤ v ∧ v < (f : Int) ∧ v < (n : Int))) (hL : LeftE (tellF ps f) s (sepE ⟨#[46, 46]⟩ l) fin) :
  Calls prog 114 #[.pointer (some ⟨T, 0, none⟩), .agg #[.int .i64 10, .string text, .slice A' m c', .bool z]] w (Puts 97 T Sb A n c w0 w fin) := by
 unfold Puts
 obtain ⟨x0, hx0⟩ : ∃ x, l[0]? = some x := ⟨_, gE (by have := hl.out; omega)⟩
 obtain ⟨b5, off5, rfl, hb5, _⟩ := int_at hr (by omega) hx0
 have HCK := hid (fun (W : World) (hW : Below w0.heap.size w0 W) (j : Nat) (v : Int) (hj : j < m) (hd : l[j]? = some v) => cell_kid (hr.below hW) hj hd)
 obtain ⟨m', rfl⟩ : ∃ m', m = m' + 1 := ⟨m - 1, by omega⟩
 have em : ((m' + 1 : Nat) : Int) - 1 = (m' : Int) := by omega
 have HN := hid hN
 have hfin : runE (tellF ps f) s (sepE ⟨#[46, 46]⟩ l) = fin := hL.2.1
 have hmax := hL.2.2
 have HS := hid (fun i => (show (runE (tellF ps f) s (sepE ⟨#[46, 46]⟩ (l.take i))).1.length ≤ 1000000 by
  obtain ⟨fs, hfs⟩ := sepE_pre ⟨#[46, 46]⟩ l i
  rw [← hfin, hfs] at hmax
  exact runE_head (tellF_mono ps f) hmax))
 have HF := hid hfin
 have K := Blk.new w 36 #[.int .i64 10, .string text, .slice (some ⟨b5, off5, none⟩) (m' + 1) c', .bool z]
 have P : Kp T Sb w (w.alloc (.cells #[.int .i64 10, .string text, .slice (some ⟨b5, off5, none⟩) (m' + 1) c', .bool z] 36)) := (Kp.refl T Sb w).alloc _
 have ht := hid (h.alloc (.cells #[.int .i64 10, .string text, .slice (some ⟨b5, off5, none⟩) (m' + 1) c', .bool z] 36))
 have zT := h.blkT
 have zS := h.blkS
 have gT : w.heap.size ≠ T := by omega
 have gS : w.heap.size ≠ Sb := by omega
 have HX0 := hid hx0
 clear hN h hr hL hfin hmax hx0
 have hv0 := hv.out x0 (List.mem_of_getElem? HX0.out)
 obtain ⟨q0, rfl⟩ := Int.eq_ofNat_of_zero_le hv0.1
 have hq0f : q0 < f := by omega
 have hq0n : q0 < n := by omega
 have cv0 := HCK.out _ ht.out.below 0 (q0 : Int) (by omega) HX0.out
 simp only [Nat.add_zero] at cv0
 have hone : l.take 1 = [(q0 : Int)] := by rw [List.take_add_one, HX0.out]; rfl
 have hb1 := HS.out 1
 rw [hone] at hb1
 have HM0 := hid (fun W h => HN.out q0 s W hq0f hq0n h (show (runE (tellF ps f) s (sepE ⟨#[46, 46]⟩ [(q0 : Int)])).1.length ≤ 1000000 from hb1))
 clear hv0 hb1
 go_enter func114, ntmps114
 go_wp2_with fail
 refine (HM0.out _ ht.out).mono ?_
 rintro e w1 ⟨rfl, ht2, hk2⟩
 have K1 := K.kp hk2 gT gS (by decide)
 have P1 := P.trans hk2
 have HT1 := hid ht2
 have k0 := K1.q0
 have k1 := K1.q1
 have k2 := K1.q2
 have kz := K1.lt
 clear HM0 cv0 K P ht ht2 hk2
 go_wp2
 clear k0 k1 k2 kz
 go_loopw [6] (fun j wr => ∃ i : Nat, 1 ≤ i ∧ i ≤ m' + 1 ∧ j = .int .i64 i ∧ TL 97 T Sb A n c w0 (runE (tellF ps f) s (sepE ⟨#[46, 46]⟩ (l.take i))) wr ∧ Kp T Sb w wr ∧ Blk wr w.heap.size 36 #[.int .i64 10, .string text, .slice (some ⟨b5, off5, none⟩) (m' + 1) c', .bool z]) (fun j _ => m' + 1 - (intOf j).toNat)
 case atStart => exact ⟨1, by omega, by omega, rfl, by rw [hone]; exact HT1.out, P1, K1⟩
 case round =>
  clear K1 P1 HT1 HX0 hone
  obtain ⟨i, hi1, hi, rfl, htl, hkp, hK⟩ := hrel
  have k0 := hK.q0
  have k1 := hK.q1
  have k2 := hK.q2
  have kz := hK.lt
  by_cases hlt : i < m' + 1
  ·have gle : (i : Int) ≤ (m' : Int) := by omega
   obtain ⟨v, hd⟩ : ∃ d, l[i]? = some d := ⟨_, gE (by have := hl.out; omega)⟩
   have hvv := hv.out v (List.mem_of_getElem? hd)
   obtain ⟨q, rfl⟩ := Int.eq_ofNat_of_zero_le hvv.1
   have hqf : q < f := by omega
   have hqn : q < n := by omega
   have gi : (i : Int) < (m' : Int) + 1 := by omega
   have HD := hid hd
   have HT1 := hid htl
   have HKP := hid hkp
   have HKK := hid hK
   have hnext := HS.out (i + 1)
   have hst := hid (sepE_step (mk := ⟨#[46, 46]⟩) hd)
   clear hvv hd htl hkp hK
   have hi0 : 0 < i := hi1
   have hrun := hid (show runE (tellF ps f) s (sepE ⟨#[46, 46]⟩ (l.take (i + 1))) = tellF ps f q (putS (runE (tellF ps f) s (sepE ⟨#[46, 46]⟩ (l.take i))) (4, ⟨#[46, 46]⟩)) by
    rw [hst.out, if_pos hi0, runE_app]; rfl)
   rw [hrun.out] at hnext
   have hlen1 : (runE (tellF ps f) s (sepE ⟨#[46, 46]⟩ (l.take i))).1.length ≤ 1000000 := HS.out i
   generalize runE (tellF ps f) s (sepE ⟨#[46, 46]⟩ (l.take i)) = SI at HT1 hrun hnext hlen1
   clear hst
   have HM := hid (fun (W : World) (ht : TL 97 T Sb A n c w0 SI W) => specMark_any T Sb A n c w0 W SI ⟨#[46, 46]⟩ ht hlen1)
   go_wp2_with fail
   refine (HM.out _ HT1.out).mono ?_
   rintro e w2 ⟨rfl, ht2, hk2⟩
   have K2 := HKK.out.kp hk2 gT gS (by decide)
   have cv := HCK.out _ ht2.below i (q : Int) (by omega) HD.out
   have hk3 := HKP.out.trans hk2
   clear k0 k1 k2 kz
   have k2 := K2.q2
   have kz := K2.lt
   go_wp2_with fail
   refine (HN.out q _ _ hqf hqn ht2 hnext).mono ?_
   rintro e w3 ⟨rfl, ht3, hk4⟩
   have K3 := K2.kp hk4 gT gS (by decide)
   go_wp2
   go_roundw
   case rel => exact ⟨i + 1, by omega, by omega, by go_num, (by rw [hrun.out]; exact ht3), hk3.trans hk4, K3⟩
   case measure => simp [intOf]; omega
  ·obtain rfl : i = m' + 1 := by omega
   rw [show l.take (m' + 1) = l by rw [List.take_of_length_le (by have := hl.out; omega)], HF.out] at htl
   have gle : ¬ (((m' + 1 : Nat) : Int) ≤ (m' : Int)) := by omega
   have HT1 := hid htl
   have HKP := hid hkp
   clear htl hkp
   go_wp2
   go_end0
   exact ⟨rfl, HT1.out, HKP.out⟩
theorem sv_any (T Sb : Nat) (A : Option Addr) (n c : Nat) (w0 w : World) (ps : List PN) (f : Nat) (kd : Int) (text : ByteArray) (A' : Option Addr) (m c' : Nat) (z : Bool) (l : List Int) (es : List Ev) (s fin : TS) (hN : NodeC 80 97 T Sb A n c w0 ps f) (h : TL 97 T Sb A n c w0 s w) (hr : Rd w0 1 A' m (intCells l)) (hl : l.length = m) (hm : m ≤ 12) (hcap : m ≤ c') (hv : Hid (∀ v ∈ l, 0 ≤ v ∧ v < (f : Int) ∧ v < (n : Int))) (hk : 1 ≤ kd ∧ kd ≤ 11) (hF : EvF text kd l m es) (hL : LeftE (tellF ps f) s es fin) :
  Calls prog 114 #[.pointer (some ⟨T, 0, none⟩), .agg #[.int .i64 kd, .string text, .slice A' m c', .bool z]] w (Puts 97 T Sb A n c w0 w fin) := by
 have H := At.new (kd := kd) (text := text) (c' := c') (z := z) (A' := A') h (Kp.refl T Sb w) hL hN hv.out hr hl hm
 have zT := h.blkT
 have zS := h.blkS
 cases hF
 all_goals first | (exfalso; omega) | skip
 case k7 => exact sv_7 T Sb A n c w0 w ps f text A' c' z s fin m l (hid hl) (by omega) (by omega) hN h hr hcap hv (by rw [List.append_nil] at hL; exact hL)
 case k10 => exact sv_10 T Sb A n c w0 w ps f text A' c' z s fin m l (hid hl) (by omega) (by omega) hN h hr hcap hv (by rw [List.append_nil] at hL; exact hL)
 case' k5n => rcases (show c' = 1 ∨ 1 < c' by omega) with rfl | hc1
 all_goals
  first | (have ha := rd_addr hr hl (by omega); obtain ⟨b5, off5, rfl⟩ := ha) | skip
  clear h hL hN hv hr hl
  unfold Puts
  first | obtain ⟨cv0, cv1, cv2⟩ := At.kc3 H | obtain ⟨cv0, cv1, cv2⟩ := At.kc2 H | obtain ⟨cv0, cv1, cv2⟩ := At.kc1 H | obtain ⟨cv0, cv1, cv2⟩ := At.kcl H | skip
  go_enter func114, ntmps114
  repeat
   go_wp2_with fail
   first
   | (go_at_call 80; refine At.one H ?_)
   | (go_at_call 111; refine At.sheld H ?_)
   | (go_at_call 108; refine At.sword H ?_)
   | (go_at_call 109; refine At.smark H ?_)
   | (go_at_call 112; refine At.sput H ?_)
   | (go_at_call 110; refine At.sall H ?_)
   | (go_at_call 113; refine At.ssome H H.out.hl H.out.hm H.out.hr (fun v h => h) ?_)
   | (go_at_call 113; refine At.ssome H (Nat.succ.inj H.out.hl) (Nat.le_of_succ_le H.out.hm) (rd1_drop H.out.hr H.out.hl (by omega)) (fun v h => List.mem_cons_of_mem _ h) ?_)
   | (go_at_call 113; refine At.ssome (l2 := []) H rfl (by decide) (Rd.none_ _ _ _) (fun v h => absurd h (by simp)) ?_)
   | (go_at_call 113; refine At.ssome H (len_snoc H.out.hl) (Nat.le_of_succ_le H.out.hm) (rd1_snoc H.out.hr H.out.hl) (fun v h => List.mem_append_left _ h) ?_)
   try clear k0 k1 k2 k3 kz zT zS
   try clear cv0 cv1 cv2
   intro W1 s1 H1
   clear H
   have H := H1
   clear H1
   obtain ⟨k0, k1, k2, k3, kz, zT, zS⟩ := At.facts H
   first | obtain ⟨cv0, cv1, cv2⟩ := At.kc3 H | obtain ⟨cv0, cv1, cv2⟩ := At.kc2 H | obtain ⟨cv0, cv1, cv2⟩ := At.kc1 H | obtain ⟨cv0, cv1, cv2⟩ := At.kcl H | skip
  go_wp2
  go_end0
  exact ⟨rfl, (At.fin_ H).1, (At.fin_ H).2⟩
end Go.Proofs.YtgbikafalcbibaaGreatDoor

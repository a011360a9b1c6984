/-
  Put together by program (shake.py): TellN, TellG, TellI, LawFirst, LawLine.
-/
import Derived.Test.YtgbikafalcbibaaGreatDoorMiH
import Derived.Test.YtgbikafalcbibaaGreatDoorMiI
import Derived.Outline
import Derived.Deep.Cut
import Derived.Test.YtgbikafalcbibaaGreatDoorMiD
import Derived.Test.YtgbikafalcbibaaGreatDoorMiB
set_option maxRecDepth 100000
set_option maxHeartbeats 25600000
set_option linter.unusedVariables false
set_option linter.unusedSimpArgs false
open Go.Lib (hid)
open Go.Proofs.Tryz
namespace Go.Proofs.YtgbikafalcbibaaGreatDoor
open Go.RowKit
theorem implValue_any (T Sb : Nat) (A : Option Addr) (n c : Nat) (w0 w : World) (ps : List PN) (f : Nat) (x : PN) (A' : Option Addr) (c' : Nat) (s fin : TS) (hN : NodeC 85 76 T Sb A n c w0 ps f) (h : TL 76 T Sb A n c w0 s w) (hr : Rd w0 1 A' x.kids.length (intCells x.kids)) (hcap : x.kids.length ≤ c') (hv : Hid (∀ v ∈ x.kids, 0 ≤ v ∧ v < (f : Int) ∧ v < (n : Int))) (hk : 1 ≤ x.kind ∧ x.kind ≤ 11) (hlo : cntLo x.kind ≤ (x.kids.length : Int)) (hhi : (x.kids.length : Int) ≤ cntHi x.kind) (hL : LeftE (tellF ps f) s (evs x) fin) :
  Calls prog 120 #[.pointer (some ⟨T, 0, none⟩), .agg #[.int .i64 x.kind, .string x.text, .slice A' x.kids.length c', .bool x.blank]] w (Puts 76 T Sb A n c w0 w fin) := by
 obtain ⟨hm, hF⟩ := evF_of (t := x.text) (z := x.blank) (by omega) hlo hhi (fun v h => (hv.out v h).1)
 exact iv_any T Sb A n c w0 w ps f _ _ A' _ c' _ _ _ s fin hN h hr rfl hm hcap hv hk hF hL
theorem implOther_any (T Sb : Nat) (A : Option Addr) (n c : Nat) (w0 w : World) (ps : List PN) (f : Nat) (x : PN) (A' : Option Addr) (c' : Nat) (s fin : TS) (hN : NodeC 85 76 T Sb A n c w0 ps f) (h : TL 76 T Sb A n c w0 s w) (hr : Rd w0 1 A' x.kids.length (intCells x.kids)) (hcap : x.kids.length ≤ c') (hv : Hid (∀ v ∈ x.kids, 0 ≤ v ∧ v < (f : Int) ∧ v < (n : Int))) (hk : 12 ≤ x.kind ∧ x.kind ≤ 22) (hlo : cntLo x.kind ≤ (x.kids.length : Int)) (hhi : (x.kids.length : Int) ≤ cntHi x.kind) (hL : LeftE (tellF ps f) s (evs x) fin) :
  Calls prog 121 #[.pointer (some ⟨T, 0, none⟩), .agg #[.int .i64 x.kind, .string x.text, .slice A' x.kids.length c', .bool x.blank]] w (Puts 76 T Sb A n c w0 w fin) := by
 obtain ⟨hm, hF⟩ := evF_of (t := x.text) (z := x.blank) (by omega) hlo hhi (fun v h => (hv.out v h).1)
 exact io_any T Sb A n c w0 w ps f _ _ A' _ c' _ _ _ s fin hN h hr rfl hm hcap hv hk hF hL
theorem specValue_node (T Sb : Nat) (A : Option Addr) (n c : Nat) (w0 w : World) (ps : List PN) (f : Nat) (x : PN) (A' : Option Addr) (c' : Nat) (s fin : TS) (hN : NodeC 80 97 T Sb A n c w0 ps f) (h : TL 97 T Sb A n c w0 s w) (hr : Rd w0 1 A' x.kids.length (intCells x.kids)) (hcap : x.kids.length ≤ c') (hv : Hid (∀ v ∈ x.kids, 0 ≤ v ∧ v < (f : Int) ∧ v < (n : Int))) (hk : 1 ≤ x.kind ∧ x.kind ≤ 11) (hlo : cntLo x.kind ≤ (x.kids.length : Int)) (hhi : (x.kids.length : Int) ≤ cntHi x.kind) (hL : LeftE (tellF ps f) s (evs x) fin) :
  Calls prog 114 #[.pointer (some ⟨T, 0, none⟩), .agg #[.int .i64 x.kind, .string x.text, .slice A' x.kids.length c', .bool x.blank]] w (Puts 97 T Sb A n c w0 w fin) := by
 obtain ⟨hm, hF⟩ := evF_of (t := x.text) (z := x.blank) (by omega) hlo hhi (fun v h => (hv.out v h).1)
 exact sv_any T Sb A n c w0 w ps f _ _ A' _ c' _ _ _ s fin hN h hr rfl hm hcap hv hk hF hL
section
variable {ty : TypeId} {T Sb : Nat} {A : Option Addr} {n c : Nat} {w0 w w' : World} {s : TS}
theorem TL.drew (h : TL ty T Sb A n c w0 s w) : TL ty T Sb A n c w0 s w.drew := by
 obtain ⟨AS, cS, hb, hm, ho, h1, h2, h3, h4, h5, hbw⟩ := h
 exact ⟨AS, cS, hb.drew, hm.drew, ho.drew, h1, h2, h3, h4, h5, hbw.drew⟩
theorem Kp.drew (h : Kp T Sb w w') : Kp T Sb w w'.drew := ⟨h.1, fun g t cs hb h1 h2 h3 => (h.2 g t cs hb h1 h2 h3).drew⟩
theorem Kp.setS (h : Kp T Sb w w') (i : Nat) (u : Value) : Kp T Sb w (w'.setCell ⟨Sb, i, none⟩ u) := ⟨Nat.le_trans h.1 (by simp [World.setCell]), fun g t cs hb h1 h2 h3 => (h.2 g t cs hb h1 h2 h3).far h2 u⟩
theorem TL.start (h : TL ty T Sb A n c w0 s w) {k : Nat} (hk : k < n) : TL ty T Sb A n c w0 (s.1, s.2.set k (s.1.length : Int)) (w.setCell ⟨Sb, k, none⟩ (.int .i64 s.1.length)) := by
 obtain ⟨AS, cS, hb, hm, ho, h1, h2, h3, h4, h5, hbw⟩ := h
 refine ⟨AS, cS, hb.far h2 _, ?_, ?_, by simp [h1], h2, h3, h4, h5, hbw.setCell h4 _⟩
 ·rcases hm.own with ⟨e1, e2, e3⟩ | ⟨g, rfl, hB, hn', hc', ho'⟩
  ·have hnil : s.1 = [] := List.eq_nil_of_length_eq_zero e2
   subst e1
   subst e3
   rw [hnil]
   exact Mine.mk_nil _ _ _ _
  ·exact Mine.mk_own (ho'.far (h5 g rfl).2 _) hm.len hB hn' hc'
 ·have := ho.put (i := k) (by simp [intCells, h1]; exact hk) (.int .i64 (s.1.length : Int))
  unfold intCells at this ⊢
  rw [List.map_set]
  exact this
end
theorem node_shape {ps : List PN} {k : Nat} {x : PN} (hb : nodeB ps k = true) (hx : ps[k]? = some x) : (1 ≤ x.kind ∧ x.kind ≤ 22) ∧ cntLo x.kind ≤ (x.kids.length : Int) ∧ (x.kids.length : Int) ≤ cntHi x.kind := by
 rw [← nodes_agree] at hb
 unfold specNB at hb
 rw [hx] at hb
 simp only [Bool.and_eq_true] at hb
 exact ⟨of_decide_eq_true hb.1, of_decide_eq_true hb.2.1⟩
theorem implNode_step (T Sb : Nat) (A : Option Addr) (n c : Nat) (w0 w : World) (ps : List PN) (f j : Nat) (s : TS) (hN : NodeC 85 76 T Sb A n c w0 ps f) (hjf : j < f + 1) (hjn : j < n) (h : TL 76 T Sb A n c w0 s w) (hps : Nps w0 A n ps) (hnb : nodeB ps j = true) (hS : (tellF ps (f + 1) j s).1.length ≤ 1000000) :
  Calls prog 85 #[.pointer (some ⟨T, 0, none⟩), .int .i64 j] w (Puts 76 T Sb A n c w0 w (tellF ps (f + 1) j s)) := by
 obtain ⟨x, hx⟩ := hps.get hjn
 have hL := hid (show LeftE (tellF ps f) (s.1, s.2.set j (s.1.length : Int)) (evs x) (tellF ps (f + 1) j s) from ⟨tellF_mono ps f, (tellF_step hx s).symm, hS⟩)
 obtain ⟨hkd, hlo, hhi⟩ := node_shape hnb hx
 have hv : Hid (∀ v ∈ x.kids, 0 ≤ v ∧ v < (f : Int) ∧ v < (n : Int)) := (show ∀ v ∈ x.kids, _ from fun v hv => by have := nodeB_kid hnb hx hv; omega)
 obtain ⟨b, off, A2, c2, rfl, hblt, x0, x1, x2, x3, hcap, hxr⟩ := hps.atc hjn hx
 have hlen := h.len
 obtain ⟨hcw, hfw⟩ := bcell h.below
 have HVal := hid (fun (W : World) hT (hk : 1 ≤ x.kind ∧ x.kind ≤ 11) => implValue_any T Sb (some ⟨b, off, none⟩) n c w0 W ps f x A2 c2 _ _ hN hT hxr hcap hv hk hlo hhi hL.out)
 have HOth := hid (fun (W : World) hT (hk : 12 ≤ x.kind ∧ x.kind ≤ 22) => implOther_any T Sb (some ⟨b, off, none⟩) n c w0 W ps f x A2 c2 _ _ hN hT hxr hcap hv hk hlo hhi hL.out)
 have hT0 := h
 generalize tellF ps (f + 1) j s = fin at HVal HOth hS ⊢
 obtain ⟨AS, cS, hb, hm, ho, h1, h2, h3, h4, h5, hbw⟩ := h
 have t0 := hb.q0
 have t1 := hb.q1
 have t2 := hb.q2
 have tz := hb.lt
 have hz0 := hbw.size
 have hoz := ho.lt
 obtain ⟨o0, e0⟩ := ho.there (i := j) hjn
 have hof := ho.frozen
 have gj : (j : Int) < n := by omega
 have gj0 : (0 : Int) ≤ (j : Int) := by omega
 have HTT := hid hT0
 clear hL hS hps hx hnb hm ho h5 hbw hb hT0 hxr hN hlen
 unfold Puts
 go_enter func85, ntmps85
 go_upto_region 1 with fail
 have HTA := hid (HTT.out.alloc (.cells #[.int .i64 x.kind, .string x.text, .slice A2 x.kids.length c2, .bool x.blank] 36))
 have KA := hid (Blk.new w 36 #[.int .i64 x.kind, .string x.text, .slice A2 x.kids.length c2, .bool x.blank])
 have PA : Kp T Sb w (w.alloc (.cells #[.int .i64 x.kind, .string x.text, .slice A2 x.kids.length c2, .bool x.blank] 36)) := (Kp.refl T Sb w).alloc _
 have gS : w.heap.size ≠ Sb := by omega
 clear t0 t1 t2 tz hcw hfw hblt x0 x1 x2 x3 e0 hof hoz hz0
 generalize (w.alloc (.cells #[.int .i64 x.kind, .string x.text, .slice A2 x.kids.length c2, .bool x.blank] 36)) = W at HTA KA PA ⊢
 have HTA2 := HTA.out
 obtain ⟨AS', cS', hb, hm, ho, h1', h2', h3', h4', h5', hbw⟩ := HTA2
 have t1 := hb.q1
 have t2 := hb.q2
 have tz := hb.lt
 have hoz := ho.lt
 obtain ⟨o0, e0⟩ := ho.there (i := j) hjn
 have hof := ho.frozen
 have kA0 := KA.out.cell 0
 clear hb hm ho h1' h2' h3' h4' h5' hbw
 go_still_tail 11, (by kernel_rfl)
 change wpList _ _ _ _ _ W.drew
 have HST := hid (TL.start HTA.out hjn).drew
 have HKP : Kp T Sb w (W.setCell ⟨Sb, j, none⟩ (.int .i64 s.1.length)).drew := (PA.setS j _).drew
 have K1 : Blk (W.setCell ⟨Sb, j, none⟩ (.int .i64 s.1.length)).drew w.heap.size 36 #[.int .i64 x.kind, .string x.text, .slice A2 x.kids.length c2, .bool x.blank] := (KA.out.far gS _).drew
 have q0 := K1.q0
 have q1 := K1.q1
 have q2 := K1.q2
 have q3 := K1.q3
 have qz := K1.lt
 cases hvk : valueK x.kind with
 | true =>
  have hk : 1 ≤ x.kind ∧ x.kind ≤ 11 := of_decide_eq_true hvk
  have HV := hid (fun W => show Calls prog 119 #[.int .i64 x.kind] W fun e w' => e = .returned (.bool true) ∧ W = w' by rw [← hvk]; exact isValue_any x.kind W)
  have HF := hid (HVal.out _ HST.out hk)
  clear HVal HOth hvk HST
  go_wp2_with fail
  refine (HV.out _).mono ?_
  rintro e w1 ⟨rfl, rfl⟩
  go_wp2_with fail
  refine HF.out.mono ?_
  rintro e w2 ⟨rfl, ht2, hk2⟩
  go_wp2
  go_end0
  exact ⟨rfl, ht2, HKP.trans hk2⟩
 | false =>
  have hk0 : ¬ (1 ≤ x.kind ∧ x.kind ≤ 11) := of_decide_eq_false hvk
  have hk : 12 ≤ x.kind ∧ x.kind ≤ 22 := by omega
  have HV := hid (fun W => show Calls prog 119 #[.int .i64 x.kind] W fun e w' => e = .returned (.bool false) ∧ W = w' by rw [← hvk]; exact isValue_any x.kind W)
  have HF := hid (HOth.out _ HST.out hk)
  clear HVal HOth hvk HST
  go_wp2_with fail
  refine (HV.out _).mono ?_
  rintro e w1 ⟨rfl, rfl⟩
  go_wp2_with fail
  refine HF.out.mono ?_
  rintro e w2 ⟨rfl, ht2, hk2⟩
  go_wp2
  go_end0
  exact ⟨rfl, ht2, HKP.trans hk2⟩
theorem implNode_all (T Sb : Nat) (A : Option Addr) (n c : Nat) (w0 : World) (ps : List PN) (hps : Nps w0 A n ps) (hnb : ∀ j, j < n → nodeB ps j = true) : ∀ f, NodeC 85 76 T Sb A n c w0 ps f := by
 intro f
 induction f with
 | zero => intro j s w hj; omega
 | succ f ih => intro j s w hj hjn hT hS; exact implNode_step T Sb A n c w0 w ps f j s ih hj hjn hT hps (hnb j hjn) hS
theorem so_any (T Sb : Nat) (A : Option Addr) (n c : Nat) (w0 w : World) (ps : List PN) (f j : Nat) (x : PN) (s fin : TS) (hN : NodeC 80 97 T Sb A n c w0 ps f) (h : TL 97 T Sb A n c w0 s w) (hps : Nps w0 A n ps) (hjn : j < n) (hx : Hid (ps[j]? = some x)) (hv : Hid (∀ v ∈ x.kids, 0 ≤ v ∧ v < (f : Int) ∧ v < (n : Int))) (hk : 1 ≤ x.kind ∧ x.kind ≤ 22) (hlo : cntLo x.kind ≤ (x.kids.length : Int)) (hhi : (x.kids.length : Int) ≤ cntHi x.kind) (hL : LeftE (tellF ps f) (s.1, s.2.set j (s.1.length : Int)) (evs x) fin) :
  Calls prog 80 #[.pointer (some ⟨T, 0, none⟩), .int .i64 j] w (Puts 97 T Sb A n c w0 w fin) := by
 obtain ⟨b, off, A', c', rfl, hblt, x0, x1, x2, x3, hcap, hr⟩ := hps.atc hjn hx.out
 have HVal := hid (fun (W : World) hT hk => specValue_node T Sb (some ⟨b, off, none⟩) n c w0 W ps f x A' c' _ _ hN hT hr hcap hv hk hlo hhi hL)
 obtain ⟨hm12, hF⟩ := evF_of (t := x.text) (z := x.blank) hk hlo hhi (fun v h => (hv.out v h).1)
 have HNew := hid (fun (W : World) hT hP => At.new (W := W) (w := w) (kd := x.kind) (text := x.text) (c' := c') (z := x.blank) hT hP hL hN hv.out hr rfl hm12)
 replace hF : Hid (EvF x.text x.kind x.kids x.kids.length (evs x)) := hF
 have HR := hid hr
 clear hps hx hN hr hv hlo hhi hL
 unfold Puts
 have HTT := hid h
 obtain ⟨AS, cS, hb, hmi, ho, h1, h2, h3, h4, h5, hbw⟩ := h
 have t1 := hb.q1
 have t2 := hb.q2
 have tz := hb.lt
 have hoz := ho.lt
 obtain ⟨o0, e0⟩ := ho.there (i := j) hjn
 have hof := ho.frozen
 have gj : (j : Int) < n := by omega
 have gj0 : (0 : Int) ≤ (j : Int) := by omega
 clear hb hmi ho h1 h2 h3 h4 h5 hbw
 go_enter func80, ntmps80
 go_upto_region 1 with fail
 go_still_tail 11, (by kernel_rfl)
 change wpList _ _ _ _ _ w.drew
 go_upto_region 2 with fail
 have HT1 := hid (TL.start HTT.out hjn).drew
 have P1 : Kp T Sb w (w.setCell ⟨Sb, j, none⟩ (.int .i64 s.1.length)).drew := ((Kp.refl T Sb w).setS j _).drew
 clear t1 t2 tz hoz e0 hof HTT
 generalize (w.setCell ⟨Sb, j, none⟩ (.int .i64 s.1.length)).drew = W1 at HT1 P1 ⊢
 generalize hs0 : (s.1, s.2.set j (s.1.length : Int)) = S0 at HT1 HVal HNew
 clear hs0
 have hT1 := HT1.out
 obtain ⟨AS', cS', hb, _⟩ := hT1
 have t0 := hb.q0
 have tz := hb.lt
 obtain ⟨hcw, hfw⟩ := bcell HT1.out.below
 have hz1 := HT1.out.below.size
 go_upto_region 3 with fail
 have H := HNew.out _ HT1.out P1
 have zT := HT1.out.blkT
 have zS := HT1.out.blkS
 have P := P1
 have HT := HT1
 clear hb t0 tz hcw hfw hz1 HNew HT1 P1 x0 x1 x2 x3 hblt
 by_cases hk2 : x.kind ≤ 11
 ·have d12 : ∀ i : Int, 12 ≤ i → (x.kind == i) = false := fun i hi => by rw [beq_eq_false_iff_ne]; omega
  have d12' := d12 12 (by decide)
  have d13 := d12 13 (by decide)
  have d14 := d12 14 (by decide)
  have d15 := d12 15 (by decide)
  have d16 := d12 16 (by decide)
  have d17 := d12 17 (by decide)
  have d18 := d12 18 (by decide)
  have d19 := d12 19 (by decide)
  have d20 := d12 20 (by decide)
  have d21 := d12 21 (by decide)
  have d22 := d12 22 (by decide)
  clear d12 hF HR
  have hv2 : 1 ≤ x.kind ∧ x.kind ≤ 11 := ⟨hk.1, hk2⟩
  go_wp2_with fail
  refine (HVal.out _ H.out.ht hv2).mono ?_
  rintro e w1 ⟨rfl, ht2, hk2⟩
  go_wp2
  go_end0
  exact ⟨rfl, ht2, H.out.P.trans hk2⟩
 ·clear HVal
  have hF := hF.out
  have hr := HR.out
  clear HR
  obtain ⟨kd, text, l, z⟩ := x
  dsimp only at *
  generalize evs ⟨kd, text, l, z⟩ = es at hF H
  generalize hl : l.length = m at *
  cases hF
  all_goals first | (exfalso; omega) | skip
  all_goals
   first | (have ha := rd_addr hr hl (by omega); obtain ⟨b5, off5, rfl⟩ := ha) | skip
   clear hr hl hk hk2
   first | obtain ⟨cv0, cv1, cv2⟩ := At.kc3 H | obtain ⟨cv0, cv1, cv2⟩ := At.kc2 H | obtain ⟨cv0, cv1, cv2⟩ := At.kc1 H | obtain ⟨cv0, cv1, cv2⟩ := At.kcl H | skip
   repeat
    go_wp2_with fail
    first
    | (go_at_call 80; refine At.one H ?_)
    | (go_at_call 111; refine At.sheld H ?_)
    | (go_at_call 108; refine At.sword H ?_)
    | (go_at_call 109; refine At.smark H ?_)
    | (go_at_call 112; refine At.sput H ?_)
    | (go_at_call 110; refine At.sall H ?_)
    | (go_at_call 113; refine At.ssome H H.out.hl H.out.hm H.out.hr (fun v h => h) ?_)
    | (go_at_call 113; refine At.ssome H (len_snoc H.out.hl) (Nat.le_of_succ_le H.out.hm) (rd1_snoc H.out.hr H.out.hl) (fun v h => List.mem_append_left _ h) ?_)
    try clear k0 k1 k2 k3 kz zT zS
    try clear cv0 cv1 cv2
    intro W1 s1 H1
    clear H
    have H := H1
    clear H1
    obtain ⟨k0, k1, k2, k3, kz, zT, zS⟩ := At.facts H
    first | obtain ⟨cv0, cv1, cv2⟩ := At.kc3 H | obtain ⟨cv0, cv1, cv2⟩ := At.kc2 H | obtain ⟨cv0, cv1, cv2⟩ := At.kc1 H | obtain ⟨cv0, cv1, cv2⟩ := At.kcl H | skip
   go_wp2
   go_end0
   exact ⟨rfl, (At.fin_ H).1, (At.fin_ H).2⟩
theorem specOne_all (T Sb : Nat) (A : Option Addr) (n c : Nat) (w0 : World) (ps : List PN) (hps : Nps w0 A n ps) (hnb : ∀ j, j < n → nodeB ps j = true) : ∀ f, NodeC 80 97 T Sb A n c w0 ps f := by
 intro f
 induction f with
 | zero => intro j s w hj; omega
 | succ f ih =>
  intro j s w hj hjn hT hS
  obtain ⟨x, hx⟩ := hps.get hjn
  have hL : LeftE (tellF ps f) (s.1, s.2.set j (s.1.length : Int)) (evs x) (tellF ps (f + 1) j s) := ⟨tellF_mono ps f, (tellF_step hx s).symm, hS⟩
  obtain ⟨hkd, hlo, hhi⟩ := node_shape (hnb j hjn) hx
  have hv : Hid (∀ v ∈ x.kids, 0 ≤ v ∧ v < (f : Int) ∧ v < (n : Int)) := (show ∀ v ∈ x.kids, _ from fun v hv => by have := nodeB_kid (hnb j hjn) hx hv; omega)
  exact so_any T Sb A n c w0 w ps f j x s _ ih hT hps hjn (hid hx) hv hkd hlo hhi hL
def kidsOf : List Ev → List Int
 | [] => []
 | .sg _ _ :: es => kidsOf es
 | .kid j :: es => j :: kidsOf es
def sgCount : List Ev → Nat
 | [] => 0
 | .sg _ _ :: es => sgCount es + 1
 | .kid _ :: es => sgCount es
theorem kidsOf_app (a b : List Ev) : kidsOf (a ++ b) = kidsOf a ++ kidsOf b := by
 induction a with
 | nil => rfl
 | cons e a ih => cases e <;> simp [kidsOf, ih]
theorem sgCount_app (a b : List Ev) : sgCount (a ++ b) = sgCount a + sgCount b := by
 induction a with
 | nil => simp [sgCount]
 | cons e a ih => cases e <;> simp [sgCount, ih] <;> omega
theorem kidsOf_sepE (mk : ByteArray) (l : List Int) : kidsOf (sepE mk l) = l := by
 cases l with
 | nil => rfl
 | cons x r =>
  simp only [sepE, kidsOf]
  congr 1
  induction r with
  | nil => rfl
  | cons y r ih => rw [List.flatMap_cons, kidsOf_app, ih]; rfl
theorem sgCount_sepE (mk : ByteArray) (l : List Int) : sgCount (sepE mk l) ≤ l.length := by
 cases l with
 | nil => simp [sepE, sgCount]
 | cons x r =>
  simp only [sepE, sgCount, List.length_cons]
  have : ∀ r : List Int, sgCount (r.flatMap (fun v => [mkE mk, .kid v])) = r.length := by
   intro r
   induction r with
   | nil => rfl
   | cons y r ih =>
    rw [List.flatMap_cons, sgCount_app, ih, List.length_cons]
    show 1 + r.length = r.length + 1
    omega
  rw [this]; omega
theorem kidsOf_allE (l : List Int) : kidsOf (allE l) = l := by
 unfold allE
 induction l with
 | nil => rfl
 | cons x r ih => simp [kidsOf, ih]
theorem sgCount_allE (l : List Int) : sgCount (allE l) = 0 := by
 unfold allE
 induction l with
 | nil => rfl
 | cons x r ih => simp [sgCount, ih]
def costK (g : Nat → Nat) (l : List Int) : Nat := (l.map (fun j => g j.toNat)).sum
theorem costK_app (g : Nat → Nat) (a b : List Int) : costK g (a ++ b) = costK g a + costK g b := by simp [costK]
theorem runE_len {f : Nat → TS → TS} {g : Nat → Nat} (hf : ∀ k s, (f k s).1.length ≤ s.1.length + g k) : ∀ (es : List Ev) (s : TS), (runE f s es).1.length ≤ s.1.length + sgCount es + costK g (kidsOf es) := by
 intro es
 induction es with
 | nil =>
  intro s
  show s.1.length ≤ s.1.length + 0 + 0
  omega
 | cons e es ih =>
  intro s
  rw [runE_cons]
  have h := ih (stepE f s e)
  cases e with
  | sg k t =>
   have : (stepE f s (.sg k t)).1.length = s.1.length + 1 := by simp [stepE, putS]
   rw [this] at h
   simp only [sgCount, kidsOf]
   omega
  | kid j =>
   have h2 : (stepE f s (.kid j)).1.length ≤ s.1.length + g j.toNat := hf _ _
   simp only [sgCount, kidsOf]
   have h3 : costK g (j :: kidsOf es) = g j.toNat + costK g (kidsOf es) := by simp [costK]
   omega
def visF (ps : List PN) : Nat → Nat → Nat
 | 0, _ => 0
 | f + 1, k => match ps[k]? with | none => 0 | some p => 1 + costK (visF ps f) p.kids
def Shaped (p : PN) : Prop := kidsOf (evs p) = p.kids ∧ sgCount (evs p) ≤ 40
theorem getD_lit (l : List Int) (i : Nat) (x : Int) (h : l[i]? = some x) : l.getD i 0 = x := by rw [List.getD_eq_getElem?_getD, h]; rfl
theorem take_last {l : List Int} (h : 1 ≤ l.length) : l.take (l.length - 1) ++ [l.getD (l.length - 1) 0] = l := by
 obtain ⟨x, hx⟩ : ∃ x, l[l.length - 1]? = some x := ⟨_, gE (by omega)⟩
 rw [getD_lit _ _ _ hx]
 have := List.take_add_one (l := l) (i := l.length - 1)
 rw [show l.length - 1 + 1 = l.length by omega, List.take_length, hx] at this
 exact this.symm
theorem head_drop {l : List Int} (h : 1 ≤ l.length) : l.getD 0 0 :: l.drop 1 = l := by
 match l, h with
 | x :: r, _ => rfl
theorem shaped_of {p : PN} (hk : 1 ≤ p.kind ∧ p.kind ≤ 22) (hlo : cntLo p.kind ≤ (p.kids.length : Int)) (hhi : (p.kids.length : Int) ≤ cntHi p.kind) : Shaped p := by
 obtain ⟨kind, text, l, z⟩ := p
 dsimp only at hk hlo hhi
 have h2 : kind = 1 ∨ kind = 2 ∨ kind = 3 ∨ kind = 4 ∨ kind = 5 ∨ kind = 6 ∨ kind = 7 ∨ kind = 8 ∨ kind = 9 ∨ kind = 10 ∨ kind = 11 ∨ kind = 12 ∨ kind = 13 ∨ kind = 14 ∨ kind = 15 ∨ kind = 16 ∨ kind = 17 ∨ kind = 18 ∨ kind = 19 ∨ kind = 20 ∨ kind = 21 ∨ kind = 22 := by omega
 have nil : ∀ {m : Nat}, (l.length : Int) ≤ 0 → l = [] := fun h => List.eq_nil_of_length_eq_zero (by omega)
 have sep := fun mk => sgCount_sepE mk l
 have sepD := fun mk => sgCount_sepE mk (l.drop 1)
 have sepT := fun mk => sgCount_sepE mk (l.take (l.length - 1))
 have hT : (l.take (l.length - 1)).length ≤ l.length := by rw [List.length_take]; omega
 have hD : (l.drop 1).length ≤ l.length := by rw [List.length_drop]; omega
 rcases h2 with rfl | rfl | rfl | rfl | rfl | rfl | rfl | rfl | rfl | rfl | rfl | rfl | rfl | rfl | rfl | rfl | rfl | rfl | rfl | rfl | rfl | rfl
 ·have h : (l.length : Int) ≤ 0 := hhi
  rw [nil (m := 0) h]; exact ⟨rfl, show 1 ≤ 40 by decide⟩
 ·have h : (l.length : Int) ≤ 0 := hhi
  rw [nil (m := 0) h]; exact ⟨rfl, show 1 ≤ 40 by decide⟩
 ·have h : (l.length : Int) ≤ 0 := hhi
  rw [nil (m := 0) h]; exact ⟨rfl, show 1 ≤ 40 by decide⟩
 ·have h : (l.length : Int) ≤ 12 := hhi
  have e : evs ⟨4, text, l, z⟩ = mkE ⟨#[91]⟩ :: (sepE ⟨#[44]⟩ l ++ [mkE ⟨#[93]⟩]) := rfl
  unfold Shaped
  rw [e]
  simp only [kidsOf, mkE, sgCount, kidsOf_app, sgCount_app, kidsOf_sepE, List.append_nil]
  have := sep ⟨#[44]⟩
  exact ⟨trivial, by omega⟩
 ·have h : (l.length : Int) ≤ 12 := hhi
  have h1 : (1 : Int) ≤ (l.length : Int) := hlo
  have e : evs ⟨5, text, l, z⟩ = Ev.kid (l.getD 0 0) :: mkE ⟨#[40]⟩ :: (sepE ⟨#[44]⟩ (l.drop 1) ++ [mkE ⟨#[41]⟩]) := rfl
  unfold Shaped
  rw [e]
  simp only [kidsOf, mkE, sgCount, kidsOf_app, sgCount_app, kidsOf_sepE, List.append_nil]
  have := sepD ⟨#[44]⟩
  exact ⟨head_drop (by omega), by omega⟩
 ·have h : (l.length : Int) ≤ 1 := hhi
  have h1 : (1 : Int) ≤ (l.length : Int) := hlo
  match l, (show l.length = 1 by omega) with
  | [a], _ => exact ⟨rfl, show 2 ≤ 40 by decide⟩
 ·have h : (l.length : Int) ≤ 12 := hhi
  have e : evs ⟨7, text, l, z⟩ = sepE text l := rfl
  unfold Shaped
  rw [e, kidsOf_sepE]
  have := sep text
  exact ⟨rfl, by omega⟩
 ·have h : (l.length : Int) ≤ 3 := hhi
  have h1 : (3 : Int) ≤ (l.length : Int) := hlo
  match l, (show l.length = 3 by omega) with
  | [a, b, c], _ => exact ⟨rfl, show 2 ≤ 40 by decide⟩
 ·have h : (l.length : Int) ≤ 12 := hhi
  have h1 : (1 : Int) ≤ (l.length : Int) := hlo
  have e : evs ⟨9, text, l, z⟩ = mkE ⟨#[40]⟩ :: (sepE ⟨#[44]⟩ (l.take (l.length - 1)) ++ [mkE ⟨#[41]⟩, mkE ⟨#[61, 62]⟩, Ev.kid (l.getD (l.length - 1) 0)]) := rfl
  unfold Shaped
  rw [e]
  simp only [kidsOf, mkE, sgCount, kidsOf_app, sgCount_app, kidsOf_sepE]
  have := sepT ⟨#[44]⟩
  exact ⟨take_last (by omega), by omega⟩
 ·have h : (l.length : Int) ≤ 12 := hhi
  have e : evs ⟨10, text, l, z⟩ = sepE ⟨#[46, 46]⟩ l := rfl
  unfold Shaped
  rw [e, kidsOf_sepE]
  have := sep ⟨#[46, 46]⟩
  exact ⟨rfl, by omega⟩
 ·have h : (l.length : Int) ≤ 1 := hhi
  have h1 : (1 : Int) ≤ (l.length : Int) := hlo
  match l, (show l.length = 1 by omega) with
  | [a], _ => exact ⟨rfl, show 2 ≤ 40 by decide⟩
 ·have h : (l.length : Int) ≤ 1 := hhi
  by_cases h0 : l.length = 0
  ·have : l = [] := List.eq_nil_of_length_eq_zero h0
   subst this; exact ⟨rfl, show 3 ≤ 40 by decide⟩
  ·match l, (show l.length = 1 by omega) with
   | [a], _ => exact ⟨rfl, show 4 ≤ 40 by decide⟩
 ·have h : (l.length : Int) ≤ 1 := hhi
  have h1 : (1 : Int) ≤ (l.length : Int) := hlo
  match l, (show l.length = 1 by omega) with
  | [a], _ => exact ⟨rfl, show 3 ≤ 40 by decide⟩
 ·have e : evs ⟨14, text, l, z⟩ = allE l ++ [mkE ⟨#[59]⟩] := rfl
  unfold Shaped
  rw [e]
  simp only [kidsOf, mkE, sgCount, kidsOf_app, sgCount_app, kidsOf_allE, sgCount_allE, List.append_nil]
  exact ⟨trivial, by omega⟩
 ·have e : evs ⟨15, text, l, z⟩ = Ev.sg 1 ⟨#[114, 101, 116, 117, 114, 110]⟩ :: (allE l ++ [mkE ⟨#[59]⟩]) := rfl
  unfold Shaped
  rw [e]
  simp only [kidsOf, mkE, sgCount, kidsOf_app, sgCount_app, kidsOf_allE, sgCount_allE, List.append_nil]
  exact ⟨trivial, by omega⟩
 ·have h : (l.length : Int) ≤ 3 := hhi
  have h1 : (2 : Int) ≤ (l.length : Int) := hlo
  by_cases h2 : l.length = 2
  ·match l, h2 with
   | [a, b], _ => exact ⟨rfl, show 3 ≤ 40 by decide⟩
  ·match l, (show l.length = 3 by omega) with
   | [a, b, c], _ => exact ⟨rfl, show 4 ≤ 40 by decide⟩
 ·have h : (l.length : Int) ≤ 2 := hhi
  have h1 : (2 : Int) ≤ (l.length : Int) := hlo
  match l, (show l.length = 2 by omega) with
  | [a, b], _ => exact ⟨rfl, show 3 ≤ 40 by decide⟩
 ·have e : evs ⟨18, text, l, z⟩ = mkE ⟨#[123]⟩ :: (allE l ++ [mkE ⟨#[125]⟩]) := rfl
  unfold Shaped
  rw [e]
  simp only [kidsOf, mkE, sgCount, kidsOf_app, sgCount_app, kidsOf_allE, sgCount_allE, List.append_nil]
  exact ⟨trivial, by omega⟩
 ·have h : (l.length : Int) ≤ 0 := hhi
  rw [nil (m := 0) h]; exact ⟨rfl, show 1 ≤ 40 by decide⟩
 ·have h : (l.length : Int) ≤ 12 := hhi
  have h1 : (1 : Int) ≤ (l.length : Int) := hlo
  have e : evs ⟨20, text, l, z⟩ = Ev.sg 1 text :: mkE ⟨#[40]⟩ :: (sepE ⟨#[44]⟩ (l.take (l.length - 1)) ++ [mkE ⟨#[41]⟩, Ev.kid (l.getD (l.length - 1) 0)]) := rfl
  unfold Shaped
  rw [e]
  simp only [kidsOf, mkE, sgCount, kidsOf_app, sgCount_app, kidsOf_sepE]
  have := sepT ⟨#[44]⟩
  exact ⟨take_last (by omega), by omega⟩
 ·have e : evs ⟨21, text, l, z⟩ = Ev.sg 1 ⟨#[99, 108, 97, 115, 115]⟩ :: Ev.sg 1 text :: mkE ⟨#[123]⟩ :: (allE l ++ [mkE ⟨#[125]⟩]) := rfl
  unfold Shaped
  rw [e]
  simp only [kidsOf, mkE, sgCount, kidsOf_app, sgCount_app, kidsOf_allE, sgCount_allE, List.append_nil]
  exact ⟨trivial, by omega⟩
 ·have e : evs ⟨22, text, l, z⟩ = allE l := rfl
  unfold Shaped
  rw [e, kidsOf_allE, sgCount_allE]
  exact ⟨rfl, by omega⟩
theorem tellF_len {ps : List PN} (hs : ∀ (k : Nat) (p : PN), ps[k]? = some p → Shaped p) : ∀ f k s, (tellF ps f k s).1.length ≤ s.1.length + 40 * visF ps f k := by
 intro f
 induction f with
 | zero => intro k s; simp [tellF, visF]
 | succ f ih =>
  intro k s
  unfold visF
  cases hx : ps[k]? with
  | none => unfold tellF; rw [hx]; simp
  | some p =>
   rw [tellF_step hx]
   obtain ⟨h1, h2⟩ := hs k p hx
   have h3 := runE_len (f := tellF ps f) (g := fun k => 40 * visF ps f k) ih (evs p) (s.1, s.2.set k (s.1.length : Int))
   rw [h1] at h3
   have h4 : costK (fun k => 40 * visF ps f k) p.kids = 40 * costK (visF ps f) p.kids := by
    unfold costK
    generalize p.kids = l
    induction l with
    | nil => rfl
    | cons x r ih => simp only [List.map_cons, List.sum_cons, ih]; omega
   rw [h4] at h3
   simp only at h3 ⊢
   omega
theorem visF_more {ps : List PN} (hg : Good ps) : ∀ (f k : Nat), k < f → visF ps f k = visF ps (k + 1) k := by
 intro f
 induction f using Nat.strongRecOn with
 | ind f ih =>
  intro k hk
  obtain ⟨f', rfl⟩ : ∃ f', f = f' + 1 := ⟨f - 1, by omega⟩
  cases hx : ps[k]? with
  | none => simp [visF, hx]
  | some p =>
   have hp := (hg k p hx).2
   simp only [visF, hx]
   congr 1
   unfold costK
   congr 1
   apply List.map_congr_left
   intro v hv
   have hvk := hp v hv
   rw [ih f' (by omega) v.toNat (by omega)]
   by_cases e : k = f'
   ·subst e
    rw [ih k (by omega) v.toNat (by omega)]
   ·rw [ih k (by omega) v.toNat (by omega)]
def visV (ps : List PN) (k : Nat) : Nat := visF ps (k + 1) k
theorem visV_eq {ps : List PN} (hg : Good ps) {k : Nat} {p : PN} (hx : ps[k]? = some p) : visV ps k = 1 + costK (visV ps) p.kids := by
 have : visV ps k = 1 + costK (visF ps k) p.kids := by
  show visF ps (k + 1) k = _
  simp only [visF, hx]
 rw [this]
 congr 1
 unfold costK
 congr 1
 apply List.map_congr_left
 intro v hv
 have := (hg k p hx).2 v hv
 exact visF_more hg k v.toNat (by omega)
def sumV (ps : List PN) (m : Nat) : Nat := ((List.range m).map (visV ps)).sum
theorem sumV_succ (ps : List PN) (m : Nat) : sumV ps (m + 1) = sumV ps m + visV ps m := by unfold sumV; rw [List.range_succ]; simp
theorem sumV_kids {ps : List PN} (hg : Good ps) : ∀ m, m ≤ ps.length → sumV ps m = m + costK (visV ps) (kidsTo ps m) := by
 intro m
 induction m with
 | zero => intro _; simp [sumV, costK, kidsTo]
 | succ m ih =>
  intro hm
  obtain ⟨p, hx⟩ : ∃ p, ps[m]? = some p := ⟨_, gE (by omega)⟩
  rw [sumV_succ, ih (by omega), kidsTo_step hx, costK_app, visV_eq hg hx]
  omega
theorem kidsTo_mem {ps : List PN} (hg : Good ps) : ∀ m v, v ∈ kidsTo ps m → 0 ≤ v ∧ v + 1 < (m : Int) + 0 ∨ 0 ≤ v ∧ v < (m : Int) - 1 := by
 intro m
 induction m with
 | zero => intro v hv; simp [kidsTo] at hv
 | succ m ih =>
  intro v hv
  cases hx : ps[m]? with
  | none =>
   have : kidsTo ps (m + 1) = kidsTo ps m := by unfold kidsTo; rw [List.take_add_one, hx]; simp
   rw [this] at hv
   have := ih v hv
   omega
  | some p =>
   rw [kidsTo_step hx] at hv
   rcases List.mem_append.1 hv with hv | hv
   ·have := ih v hv; omega
   ·have := (hg m p hx).2 v hv; omega
theorem range_count (m q : Nat) : ((List.range m).map (fun (j : Nat) => (j : Int))).count (q : Int) = if q < m then 1 else 0 := by
 induction m with
 | zero => simp
 | succ m ih =>
  rw [List.range_succ, List.map_append, List.count_append, ih]
  simp only [List.map_cons, List.map_nil, List.count_singleton]
  by_cases h : q = m
  ·subst h; simp
  ·have : ((m : Int) == (q : Int)) = false := by rw [beq_eq_false_iff_ne]; omega
   rw [this]
   simp only [Bool.false_eq_true, if_false, Nat.add_zero]
   by_cases h2 : q < m
   ·rw [if_pos h2, if_pos (by omega)]
   ·rw [if_neg h2, if_neg (by omega)]
theorem perm_sum {l r : List Nat} (h : l.Perm r) : l.sum = r.sum := by
 induction h with
 | nil => rfl
 | cons x _ ih => simp [ih]
 | swap x y l => simp only [List.sum_cons]; omega
 | trans _ _ ih1 ih2 => rw [ih1, ih2]
theorem kids_perm {ps : List PN} (hg : Good ps) {m : Nat} (hu : usedTo ps (m + 1) m) : (kidsTo ps (m + 1)).Perm ((List.range m).map (fun (j : Nat) => (j : Int))) := by
 rw [List.perm_iff_count]
 intro a
 by_cases ha : 0 ≤ a ∧ a < (m : Int)
 ·obtain ⟨q, rfl⟩ := Int.eq_ofNat_of_zero_le ha.1
  have h1 := hu q (by omega)
  rw [h1]
  rw [range_count, if_pos (by omega)]
 ·have h1 : (kidsTo ps (m + 1)).count a = 0 := by
   rw [List.count_eq_zero]
   intro hm
   have := kidsTo_mem hg (m + 1) a hm
   omega
  have h2 : ((List.range m).map (fun (j : Nat) => (j : Int))).count a = 0 := by
   rw [List.count_eq_zero]
   intro hm
   obtain ⟨j, hj, rfl⟩ := List.mem_map.1 hm
   rw [List.mem_range] at hj
   omega
  rw [h1, h2]
theorem visV_root {ps : List PN} (hg : Good ps) {m : Nat} (hl : ps.length = m + 1) (hu : usedTo ps (m + 1) m) : visV ps m = m + 1 := by
 have h1 := sumV_kids hg (m + 1) (by omega)
 have h2 : costK (visV ps) (kidsTo ps (m + 1)) = sumV ps m := by
  unfold costK sumV
  rw [perm_sum ((kids_perm hg hu).map (fun j : Int => visV ps j.toNat)), List.map_map]
  rfl
 rw [h2, sumV_succ] at h1
 omega
theorem tree_facts {ps : List PN} (h : treeB ps = true) : ∃ m, ps.length = m + 1 ∧ m + 1 ≤ 300 ∧ (∀ j, j < m + 1 → nodeB ps j = true) ∧ ∀ st, (tellF ps (m + 1) m ([], st)).1.length ≤ 1000000 := by
 unfold treeB at h
 simp only [Bool.and_eq_true] at h
 obtain ⟨h1, h2, h3, h4⟩ := h
 have h1' := of_decide_eq_true h1
 obtain ⟨m, hm⟩ : ∃ m, ps.length = m + 1 := ⟨ps.length - 1, by omega⟩
 have hd : ¬ deepV ps (ps.length - 1) = 0 := by
  intro e; rw [e] at h3; cases h3
 have hg := good_of hd
 have hall : ∀ j, j < m + 1 → nodeB ps j = true := fun j hj => deep_all hd j (by omega)
 have hu : usedTo ps (m + 1) m := by
  intro i hi
  unfold usedB at h4
  rw [List.all_eq_true, hm] at h4
  have := h4 i (List.mem_range.2 (by omega))
  simpa using this
 have hsh : ∀ (k : Nat) (p : PN), ps[k]? = some p → Shaped p := fun k p hp => by
  have hk := (List.getElem?_eq_some_iff.1 hp).1
  obtain ⟨a, b, c⟩ := node_shape (hall k (by omega)) hp
  exact shaped_of a b c
 refine ⟨m, hm, by omega, hall, fun st => ?_⟩
 have hl := tellF_len hsh (m + 1) m ([], st)
 have hv : visF ps (m + 1) m = m + 1 := visV_root hg hm hu
 rw [hv] at hl
 simp only [List.length_nil] at hl
 omega
def toldS (ps : List PN) : TS := tellF ps ps.length (ps.length - 1) ([], List.replicate ps.length 0)
def firstV (ps : List PN) (k : Int) : Int := if treeB ps = true ∧ 0 ≤ k ∧ k < (ps.length : Int) then (toldS ps).2.getD k.toNat 0 else -1
theorem TL.init (ty : TypeId) (hty : ty ≠ 68) (A : Option Addr) (n c : Nat) (w : World) : TL ty (w.heap.size + 1) w.heap.size A n c w ([], List.replicate n 0) ((w.alloc (.cells (madeCells #[.int .i64 0] n) 3)).alloc (.cells #[.slice A n c, .slice none 0 0, .slice (some ⟨w.heap.size, 0, none⟩) n n] ty)) := by
 have hb := Blk.new (w.alloc (.cells (madeCells #[.int .i64 0] n) 3)) ty #[.slice A n c, .slice none 0 0, .slice (some ⟨w.heap.size, 0, none⟩) n n]
 rw [World.size_alloc] at hb
 exact ⟨none, 0, hb, Mine.mk_nil _ _ _ _, (Own.zeros n).alloc _, by simp, by omega, by omega, Nat.le_refl _, fun g hg => by simp at hg, grow_⟩
theorem implTell_any (A : Option Addr) (n c : Nat) (ps : List PN) (w : World) (hn : n ≤ 1048576) (hps : Nps w A n ps) (htree : treeB ps = true) :
  Calls prog 54 #[.slice A n c] w fun e w' => e = .returned (.pointer (some ⟨w.heap.size + 1, 0, none⟩)) ∧ TL 76 (w.heap.size + 1) w.heap.size A n c w (toldS ps) w' := by
 obtain ⟨m, hm, hm300, hall, hlen⟩ := tree_facts htree
 have hl := hps.len
 obtain rfl : n = m + 1 := by omega
 have HND := hid (implNode_all (w.heap.size + 1) w.heap.size A (m + 1) c w ps hps hall (m + 1) m ([], List.replicate (m + 1) 0) _ (by omega) (by omega) (TL.init 76 (by decide) A (m + 1) c w) (hlen _))
 have hts : toldS ps = tellF ps (m + 1) m ([], List.replicate (m + 1) 0) := by unfold toldS; rw [hm, Nat.add_sub_cancel]
 rw [hts]
 obtain ⟨i0, hi, hz0, hz1, hz2⟩ := info_parts infoInt
 have hmk := fun W => run_make_rowN (P := prog) 34 3 i0 _ underlying34 hi hz0 .i64 .i64 (m + 1) (m + 1) (Nat.le_refl _) (by rw [hz2]; omega) (by omega) W
 rw [hz1, Nat.mul_one] at hmk
 simp only [Value.cells] at hmk
 have e9 : ((m + 1 : Nat) : Int) = (m : Int) + 1 := by omega
 have e8 : (m : Int) + 1 - 1 = (m : Int) := by omega
 rw [e9] at hmk
 generalize tellF ps (m + 1) m ([], List.replicate (m + 1) 0) = fin at HND ⊢
 clear hi hz0 hz1 hz2 hall hlen hts hps
 go_enter func54, ntmps54
 go_wp2_with fail
 refine HND.out.mono ?_
 rintro e w2 ⟨rfl, ht, hk⟩
 clear hmk
 go_wp2
 go_ret
 exact ⟨rfl, ht⟩
theorem specFirstSign_any (A : Option Addr) (n c : Nat) (ps : List PN) (k : Int) (w : World) (hn : n ≤ 1048576) (hps : Nps w A n ps) (hb : Hid (PNs ps)) :
  Calls prog 48 #[.slice A n c, .int .i64 k] w fun e w' => e = .returned (.int .i64 (firstV ps k)) ∧ Below w.heap.size w w' := by
 have hl := hps.len
 have HT := hid (fun (v : Bool) (h : treeB ps = v) => show Calls prog 47 #[.slice A n c] w fun e w' => e = .returned (.bool v) ∧ Below w.heap.size w w' by rw [← h]; exact specTreeOk_any A n c ps w hn hps hb)
 cases htr : treeB ps with
 | false =>
  have hf : firstV ps k = -1 := by unfold firstV; rw [if_neg (by rw [htr]; simp)]
  rw [hf]
  have HT2 := hid (HT.out _ htr)
  clear HT htr hf
  go_enter func48, ntmps48
  go_wp2_with fail
  refine (HT2.out).mono ?_
  rintro e w2 ⟨rfl, h2⟩
  go_wp2
  go_ret
  exact ⟨rfl, h2⟩
 | true =>
  have HT2 := hid (HT.out _ htr)
  by_cases hk : 0 ≤ k ∧ k < (n : Int)
  ·obtain ⟨q, rfl⟩ := Int.eq_ofNat_of_zero_le hk.1
   have hqn : q < n := by omega
   have hf : firstV ps (q : Int) = (toldS ps).2.getD q 0 := by unfold firstV; rw [if_pos ⟨htr, hk.1, by rw [hl]; exact hk.2⟩, Int.toNat_natCast]
   rw [hf]
   obtain ⟨m, hm, hm300, hall, hlen0⟩ := tree_facts htr
   obtain rfl : n = m + 1 := by omega
   have HI := hid (fun W => l01In_is' (show inB (q : Int) 0 (m : Int) = true from decide_eq_true (by omega)) W)
   have HND := hid (fun (W : World) (hW : Below w.heap.size w W) => specOne_all (W.heap.size + 1) W.heap.size A (m + 1) c W ps (hps.next hW) hall (m + 1) m ([], List.replicate (m + 1) 0) _ (by omega) (by omega) (TL.init 97 (by decide) A (m + 1) c W) (hlen0 _))
   have hts : toldS ps = tellF ps (m + 1) m ([], List.replicate (m + 1) 0) := by unfold toldS; rw [hm, Nat.add_sub_cancel]
   rw [hts]
   obtain ⟨i0, hi, hz0, hz1, hz2⟩ := info_parts infoInt
   have hmk := fun W => run_make_rowN (P := prog) 34 3 i0 _ underlying34 hi hz0 .i64 .i64 (m + 1) (m + 1) (Nat.le_refl _) (by rw [hz2]; omega) (by omega) W
   rw [hz1, Nat.mul_one] at hmk
   simp only [Value.cells] at hmk
   have e9 : ((m + 1 : Nat) : Int) = (m : Int) + 1 := by omega
   have e8 : (m : Int) + 1 - 1 = (m : Int) := by omega
   rw [e9] at hmk
   generalize tellF ps (m + 1) m ([], List.replicate (m + 1) 0) = fin at HND ⊢
   have gq : (q : Int) < (m : Int) + 1 := by omega
   clear hi hz0 hz1 hz2 hall hlen0 hts hf HT htr hps hk hm hl hb hn
   go_enter func48, ntmps48
   go_wp2_with fail
   refine (HT2.out).mono ?_
   rintro e w2 ⟨rfl, h2⟩
   go_wp2_with fail
   refine (HI.out _).mono ?_
   rintro e w1 ⟨rfl, rfl⟩
   go_wp2_with fail
   refine (HND.out w2 h2).mono ?_
   rintro e w3 ⟨rfl, ht, hkp⟩
   clear hmk
   have hbw := below_next h2 ht.below
   have hlen := ht.len
   obtain ⟨AS, cS, hbk, _, ho, _⟩ := ht
   obtain ⟨x, hx⟩ : ∃ x, fin.2[q]? = some x := ⟨_, gE (by omega)⟩
   have hgd : fin.2.getD q 0 = x := by rw [List.getD_eq_getElem?_getD, hx]; rfl
   have HGD := hid hgd
   obtain ⟨b6, off6, e6, hblt6, cq⟩ := int_at (ho.rd (size := 1) (n := m + 1) (by simp [intCells, hlen])) hqn hx
   injection e6 with e6
   injection e6 with e61 e62
   subst e61; subst e62
   simp only [Nat.zero_add] at cq
   have t2 := hbk.q2
   have tz := hbk.lt
   clear HND HI HT2 hbk ho hlen hgd hx hkp
   go_wp2
   go_ret
   exact ⟨ret_int HGD.out.symm, hbw⟩
  ·have HI := hid (fun W => l01In_is' (show inB k 0 ((n : Int) - 1) = false from decide_eq_false (by omega)) W)
   have hf : firstV ps k = -1 := by unfold firstV; rw [if_neg (by rw [hl]; exact fun h => hk h.2)]
   rw [hf]
   clear HT htr hf
   go_enter func48, ntmps48
   go_wp2_with fail
   refine (HT2.out).mono ?_
   rintro e w2 ⟨rfl, h2⟩
   go_wp2_with fail
   refine (HI.out _).mono ?_
   rintro e w1 ⟨rfl, rfl⟩
   go_wp2
   go_ret
   exact ⟨rfl, h2⟩
theorem markF_le (l : List UInt8) : ∀ ms : List (List UInt8), (markF ms l).length ≤ l.length := by
 intro ms
 induction ms with
 | nil => simp [markF]
 | cons m ms ih =>
  by_cases hm : m.isPrefixOf l = true
  ·rw [markF_yes hm]; exact (List.isPrefixOf_iff_prefix.1 hm).length_le
  ·rw [markF_no hm]; exact ih
theorem signZ_le (l : List UInt8) (q : Nat) : (signZ l q).2.2.2 ≤ l.length := by
 unfold signZ
 split
 ·exact noteN_le l
 ·split
  ·exact Nat.zero_le _
  ·split
   ·split
    ·exact Nat.zero_le _
    ·exact runN_le _ _
   ·split
    ·split
     ·exact Nat.zero_le _
     ·exact runN_le _ _
    ·split
     ·exact quoN_le _
     ·exact markF_le _ _
def SignsM (w : World) (R : List SgP × Int × Bool) (e : Ending) (w' : World) : Prop :=
 ∃ (A : Option Addr) (c : Nat), e = .returned (.tuple #[.slice A R.1.length c, .int .i64 R.2.1, .bool R.2.2]) ∧ Mine w' w.heap.size 68 4 A R.1.length c (R.1.flatMap sgCells) ∧ Below w.heap.size w w'
theorem sg_new (w : World) (a : Int) (b : ByteArray) (c : Int) (d : Bool) (t : TypeId) : ∀ j v, [Value.int .i64 a, .string b, .int .i64 c, .bool d][j]? = some v → (w.alloc (.cells #[.int .i64 a, .string b, .int .i64 c, .bool d] t)).cell? ((⟨w.heap.size, 0, none⟩ : Addr).add j) = some v := by
 intro j v hj
 have hb := Blk.new w t #[.int .i64 a, .string b, .int .i64 c, .bool d]
 match j, hj with
 | 0, hj => obtain rfl := Option.some.inj hj; exact hb.cell 0
 | 1, hj => obtain rfl := Option.some.inj hj; exact hb.cell 1
 | 2, hj => obtain rfl := Option.some.inj hj; exact hb.cell 2
 | 3, hj => obtain rfl := Option.some.inj hj; exact hb.cell 3
 | j + 4, hj => simp at hj
theorem sg_one (a : Int) (b : ByteArray) (c : Int) (d : Bool) : ∀ u ∈ [Value.int .i64 a, .string b, .int .i64 c, .bool d], u.oneCell' = true := by
 intro u hu
 simp at hu
 rcases hu with rfl | rfl | rfl | rfl <;> rfl
theorem snoc_sg (acc : List SgP) (a : Int) (b : ByteArray) (c : Int) (d : Bool) : (acc ++ [(a, b, c, d)]).flatMap sgCells = acc.flatMap sgCells ++ [Value.int .i64 a, .string b, .int .i64 c, .bool d] := by
 simp [sgCells]
theorem blk_sg {w : World} {B : Nat} {e : TypeId} {s : Nat} {v : Value} {n : Nat} {xs : List Value} (h : w.ownsRow B e s v n xs) {g : Nat} (hg : v.ownBlock = some g) : B ≤ g := by
 rcases h.2 with ⟨rfl, _⟩ | ⟨g', cap, cur, rfl, hg', _⟩
 ·simp [Value.ownBlock] at hg
 ·simp [Value.ownBlock] at hg; omega
theorem infoSgn : (prog.info? 68).map (fun i => (i.zero, i.size, i.bytes)) = some (some (.agg #[.int .i64 0, .string ⟨#[]⟩, .int .i64 0, .bool false]), 4, 40) := by kernel_rfl
theorem blank_32 {c : UInt8} (h : c = 32) : ((c.toNat : Int) == 32) = true := by rw [h]; rfl
theorem blank_no {c : UInt8} (h : ¬ c = 32) : ((c.toNat : Int) == 32) = false := by
 rw [beq_eq_false_iff_ne]; intro e; apply h; apply UInt8.toNat_inj.1; show c.toNat = 32; omega
theorem line_10 {c : UInt8} (h : c = 10) : ((c.toNat : Int) == 10) = true := by rw [h]; rfl
theorem specSignsOf_any (s : ByteArray) (w : World) (hs : s.size ≤ 1048576) : Calls prog 42 #[.string s] w (SignsM w (signsP s)) := by
 by_cases h3 : 3000 < s.size
 ·rw [signsP_big h3]
  have M0 := own_empty w 68 4
  go_enter func42, ntmps42
  go_wp2
  refine bodyPost_ret (by simp [results, Tryz.results42, go_sem,]; try rfl) rfl ?_
  exact ⟨_, _, rfl, M0, grow_⟩
 ·have HA0 : Hid (SignsAt s 0 0 [] (signsP s)) := signsAt_init (by omega)
  have h4 : s.size ≤ 3000 := by omega
  generalize signsP s = R at HA0 ⊢
  obtain ⟨i0, hi, hz0, hz1, hz2⟩ := info_parts infoSgn
  have HI := hid (And.intro hi (And.intro hz0 (And.intro hz1 hz2)))
  clear hi hz0 hz1 hz2
  have M0 : Hid (Mine (w.alloc (.cells #[] 68)) w.heap.size 68 4 (some ⟨w.heap.size, 0, none⟩) ([] : List SgP).length 0 (([] : List SgP).flatMap sgCells)) := own_empty w 68 4
  have hb0 : Below w.heap.size w (w.alloc (.cells #[] 68)) := grow_
  go_enter func42, ntmps42
  go_wp2
  generalize w.alloc (.cells #[] 68) = w1 at M0 hb0 ⊢
  go_loopw [5, 6, 7] (fun o i b wr => ∃ (k br : Nat) (acc : List SgP) (A : Option Addr) (c : Nat), k ≤ s.size ∧ br ≤ k ∧ acc.length ≤ k ∧ o = .slice A acc.length c ∧ i = .int .i64 k ∧ b = .int .i64 br ∧ Hid (SignsAt s k br acc R) ∧ Hid (Mine wr w.heap.size 68 4 A acc.length c (acc.flatMap sgCells)) ∧ Below w.heap.size w wr) (fun _ i _ _ => s.size - (intOf i).toNat)
  case atStart => exact ⟨0, 0, [], _, _, by omega, by omega, by simp, rfl, rfl, rfl, HA0, M0, hb0⟩
  case round =>
   clear HA0 M0 hb0
   obtain ⟨k, br, acc, A, c, hk, hbr, hac, rfl, rfl, rfl, HA, HM, hb⟩ := hrel
   obtain ⟨m, hm⟩ : ∃ m, acc.length = m := ⟨_, rfl⟩
   rw [hm] at HM hac
   rw [hm]
   have Hm := hid hm
   clear hm
   by_cases hlt : k < s.size
   ·by_cases h32 : s[k] = 32
    ·have hn : Hid (SignsAt s (k + 1) br acc R) := signsAt_blank HA hlt h32
     have e32 := blank_32 h32
     clear h32
     go_wp2
     go_roundw
     case rel => exact ⟨k + 1, br, acc, A, c, by omega, by omega, by have := Hm.out; omega, by rw [Hm.out], by go_num, rfl, hn, by rw [Hm.out]; exact HM, hb⟩
     case measure => simp [intOf]; omega
    ·have e32 := blank_no h32
     by_cases h10 : s[k] = 10
     ·have hn : Hid (SignsAt s (k + 1) (br + 1) acc R) := signsAt_line HA hlt h10
      have e10 := line_10 h10
      clear h10 h32
      go_wp2
      go_roundw
      case rel => exact ⟨k + 1, br + 1, acc, A, c, by omega, by omega, by have := Hm.out; omega, by rw [Hm.out], by go_num, by go_num, hn, by rw [Hm.out]; exact HM, hb⟩
      case measure => simp [intOf]; omega
     ·have e10 := ne_10 h10
      have HB := hid (fun hz => signsAt_bad HA hlt h32 h10 hz)
      have HG : Hid (∀ (kd : Int) (x : ByteArray) (q : Int) (z : Nat), signZ (s.data.toList.drop k) k = (kd, x, q, z) → 0 < z → SignsAt s (k + z) 0 (acc ++ [(kd, x, q, decide (1 < br))]) R) := (show ∀ (kd : Int) (x : ByteArray) (q : Int) (z : Nat), _ → _ → _ from fun kd x q z h h0 => signsAt_sign HA hlt h32 h10 h h0)
      have HS := hid (fun W => specSign_any s k W hlt hs)
      have hzl := signZ_le (s.data.toList.drop k) k
      rw [drop_len] at hzl
      revert HB HG HS hzl
      generalize signZ (s.data.toList.drop k) k = Z
      obtain ⟨kd, x, q, z⟩ := Z
      intro HB HG HS hzl
      simp only at hzl
      by_cases hz0 : z = 0
      ·subst hz0
       obtain rfl := HB.out rfl
       clear HB HG HM HA Hm h32 h10
       go_wp2_with fail
       refine (HS.out _).mono ?_
       rintro e w2 ⟨rfl, h2⟩
       have hb2 := below_next hb h2
       have hsz2 := hb2.size
       clear HS h2 hb
       have M0 := own_empty (w2.alloc (.cells #[.int .i64 kd, .string x, .int .i64 q, .bool false] 68)) 68 4
       simp only [World.size_alloc] at M0
       go_wp2
       refine bodyPost_ret (by simp [results, Tryz.results42, go_sem,]; try rfl) rfl ?_
       exact ⟨_, _, rfl, Mine.more (B' := w.heap.size) M0 (by omega), grow_⟩
      ·have hn : Hid (SignsAt s (k + z) 0 (acc ++ [(kd, x, q, decide (1 < br))]) R) := HG.out kd x q z rfl (by omega)
       clear HB HG HA h32 h10
       go_wp2_with fail
       refine (HS.out _).mono ?_
       rintro e w2 ⟨rfl, h2⟩
       have hb2 := below_next hb h2
       have hsz2 := hb2.size
       have HM2 := hid (HM.out.next h2)
       have hz1 : ¬ (z : Int) = 0 := by omega
       clear HS h2 hb HM
       have hu2 : decide (1 < br) = decide ((1 : Int) < br) := by
        by_cases h : 1 < br
        ·rw [decide_eq_true h, decide_eq_true (by omega)]
        ·rw [decide_eq_false h, decide_eq_false (by omega)]
       rw [hu2] at hn
       have hcn := sg_new (w2.alloc (.cells #[.int .i64 kd, .string x, .int .i64 q, .bool (decide ((1 : Int) < br))] 68)) kd x q (decide ((1 : Int) < br)) 68
       rw [World.size_alloc] at hcn
       have HC := hid hcn
       clear hcn hu2
       have hz3 : 0 < z := by omega
       go_wp2_with (at_builtin; (refine wpList_append_own _ rfl (.tmp 46) (.tmp 48) _ rfl w.heap.size 68 i0 (.agg #[.int .i64 0, .string ⟨#[]⟩, .int .i64 0, .bool false]) 4 40 underlying57 HI.out.1 HI.out.2.1 HI.out.2.2.1 HI.out.2.2.2 rfl (by decide) _ _ _ rfl (Mine.alloc (Mine.alloc HM2.out _) _) ⟨w2.heap.size + 1, 0, none⟩ 1 1 [.int .i64 kd, .string x, .int .i64 q, .bool (decide ((1 : Int) < br))] rfl rfl HC.out (sg_one _ _ _ _) (by unfold maxLen; omega) (by omega) (by have := hb2.size; simp only [World.size_alloc]; omega) ?_); intro v' w3 hown3 hg3 hnil3)
       have hb4 : Below w.heap.size w w3 := Below.grown (show Below w.heap.size w ((w2.alloc (.cells #[.int .i64 kd, .string x, .int .i64 q, .bool (decide ((1 : Int) < br))] 68)).alloc (.cells #[.int .i64 kd, .string x, .int .i64 q, .bool (decide ((1 : Int) < br))] 68)) from grow_) hg3 (by have := hb2.size; simp only [World.size_alloc]; omega) (fun g hg => blk_sg HM2.out hg)
       obtain ⟨A3, c3, rfl, m3⟩ := Mine.of hown3
       rw [← snoc_sg] at m3
       have HM3 := hid m3
       clear hown3 m3 hg3 hnil3 HC HM2 hb2
       go_wp2
       go_roundw
       case rel => exact ⟨k + z, 0, acc ++ [(kd, x, q, decide ((1 : Int) < br))], A3, c3, by omega, by omega, by rw [lA, Hm.out]; simp; omega, by rw [lA, Hm.out]; rfl, by go_num, rfl, hn, by rw [lA, Hm.out]; exact HM3, hb4⟩
       case measure => simp [intOf]; omega
   ·obtain rfl := signsAt_end HA (by omega)
    go_wp2
    refine bodyPost_ret (by simp [results, Tryz.results42, go_sem,]; try rfl) rfl ?_
    exact ⟨A, c, by rw [Hm.out], by rw [Hm.out]; exact HM.out, hb⟩
theorem implSignsOf_any (s : ByteArray) (w : World) (hs : s.size ≤ 1048576) : Calls prog 83 #[.string s] w (SignsM w (signsP s)) := by
 by_cases h3 : 3000 < s.size
 ·rw [signsP_big h3]
  go_enter func83, ntmps83
  go_wp2
  refine bodyPost_ret (by simp [results, Tryz.results83, go_sem,]; try rfl) rfl ?_
  exact ⟨_, _, rfl, Mine.mk_nil _ _ _ _, grow_⟩
 ·have HA0 : Hid (SignsAt s 0 0 [] (signsP s)) := signsAt_init (by omega)
  have h4 : s.size ≤ 3000 := by omega
  generalize signsP s = R at HA0 ⊢
  obtain ⟨i0, hi, hz0, hz1, hz2⟩ := info_parts infoSgn
  have HI := hid (And.intro hi (And.intro hz0 (And.intro hz1 hz2)))
  clear hi hz0 hz1 hz2
  have M0 : Hid (Mine w w.heap.size 68 4 none ([] : List SgP).length 0 (([] : List SgP).flatMap sgCells)) := Mine.mk_nil _ _ _ _
  have hb0 : Below w.heap.size w w := Below.refl _ _
  go_enter func83, ntmps83
  go_wp2
  go_loopw [5, 6, 7] (fun o b i wr => ∃ (k br : Nat) (acc : List SgP) (A : Option Addr) (c : Nat), k ≤ s.size ∧ br ≤ k ∧ acc.length ≤ k ∧ o = .slice A acc.length c ∧ i = .int .i64 k ∧ b = .int .i64 br ∧ Hid (SignsAt s k br acc R) ∧ Hid (Mine wr w.heap.size 68 4 A acc.length c (acc.flatMap sgCells)) ∧ Below w.heap.size w wr) (fun _ _ i _ => s.size - (intOf i).toNat)
  case atStart => exact ⟨0, 0, [], _, _, by omega, by omega, by simp, rfl, rfl, rfl, HA0, M0, hb0⟩
  case round =>
   clear HA0 M0 hb0
   obtain ⟨k, br, acc, A, c, hk, hbr, hac, rfl, rfl, rfl, HA, HM, hb⟩ := hrel
   obtain ⟨m, hm⟩ : ∃ m, acc.length = m := ⟨_, rfl⟩
   rw [hm] at HM hac
   rw [hm]
   have Hm := hid hm
   clear hm
   by_cases hlt : k < s.size
   ·by_cases h32 : s[k] = 32
    ·have hn : Hid (SignsAt s (k + 1) br acc R) := signsAt_blank HA hlt h32
     have e32 := blank_32 h32
     clear h32
     go_wp2
     go_roundw
     case rel => exact ⟨k + 1, br, acc, A, c, by omega, by omega, by have := Hm.out; omega, by rw [Hm.out], by go_num, rfl, hn, by rw [Hm.out]; exact HM, hb⟩
     case measure => simp [intOf]; omega
    ·have e32 := blank_no h32
     by_cases h10 : s[k] = 10
     ·have hn : Hid (SignsAt s (k + 1) (br + 1) acc R) := signsAt_line HA hlt h10
      have e10 := line_10 h10
      clear h10 h32
      go_wp2
      go_roundw
      case rel => exact ⟨k + 1, br + 1, acc, A, c, by omega, by omega, by have := Hm.out; omega, by rw [Hm.out], by go_num, by go_num, hn, by rw [Hm.out]; exact HM, hb⟩
      case measure => simp [intOf]; omega
     ·have e10 := ne_10 h10
      have HB := hid (fun hz => signsAt_bad HA hlt h32 h10 hz)
      have HG : Hid (∀ (kd : Int) (x : ByteArray) (q : Int) (z : Nat), signZ (s.data.toList.drop k) k = (kd, x, q, z) → 0 < z → SignsAt s (k + z) 0 (acc ++ [(kd, x, q, decide (1 < br))]) R) := (show ∀ (kd : Int) (x : ByteArray) (q : Int) (z : Nat), _ → _ → _ from fun kd x q z h h0 => signsAt_sign HA hlt h32 h10 h h0)
      have HS := hid (fun W => implSign_any (s.extract k s.size) W (by simp; omega) (by unfold maxLen; simp; omega))
      rw [extract_rest] at HS
      have gk : (k : Int) ≤ s.size := by omega
      clear HA h32 h10
      go_wp2_with fail
      refine (HS.out _).mono ?_
      rintro e w2 ⟨kd, x, z, ok, rfl, hok, hzl, h2⟩
      rw [drop_len] at hzl
      have hb2 := below_next hb h2
      have hsz2 := hb2.size
      have HM2 := hid (HM.out.next h2)
      unfold SgOk at hok
      clear HS h2 hb HM
      cases ok with
      | false =>
       rw [if_neg (by decide)] at hok
       obtain rfl := HB.out (hok k)
       clear HB HG hok HM2 Hm
       go_wp2
       refine bodyPost_ret (by simp [results, Tryz.results83, go_sem,]; try rfl) rfl ?_
       exact ⟨_, _, rfl, Mine.mk_nil _ _ _ _, hb2⟩
      | true =>
       rw [if_pos rfl] at hok
       obtain ⟨hz0, hz1, hok⟩ := hok
       have hn : Hid (SignsAt s (k + z) 0 (acc ++ [(kd, x, (k : Int), decide (1 < br))]) R) := HG.out kd x k z (hok k) hz0
       have hu2 : decide (1 < br) = decide ((1 : Int) < br) := by
        by_cases h : 1 < br
        ·rw [decide_eq_true h, decide_eq_true (by omega)]
        ·rw [decide_eq_false h, decide_eq_false (by omega)]
       rw [hu2] at hn
       have HC := hid (sg_new w2 kd x k (decide ((1 : Int) < br)) 68)
       clear HB HG hok hz1 hu2
       go_wp2_with (at_builtin; (refine wpList_append_own _ rfl (.tmp 44) (.tmp 51) _ rfl w.heap.size 68 i0 (.agg #[.int .i64 0, .string ⟨#[]⟩, .int .i64 0, .bool false]) 4 40 underlying57 HI.out.1 HI.out.2.1 HI.out.2.2.1 HI.out.2.2.2 rfl (by decide) _ _ _ rfl (Mine.alloc HM2.out _) ⟨w2.heap.size, 0, none⟩ 1 1 [.int .i64 kd, .string x, .int .i64 k, .bool (decide ((1 : Int) < br))] rfl rfl HC.out (sg_one _ _ _ _) (by unfold maxLen; omega) (by omega) (by simp only [World.size_alloc]; omega) ?_); intro v' w3 hown3 hg3 hnil3)
       have hb4 : Below w.heap.size w w3 := Below.grown (show Below w.heap.size w (w2.alloc (.cells #[.int .i64 kd, .string x, .int .i64 k, .bool (decide ((1 : Int) < br))] 68)) from grow_) hg3 (by simp only [World.size_alloc]; omega) (fun g hg => blk_sg HM2.out hg)
       obtain ⟨A3, c3, rfl, m3⟩ := Mine.of hown3
       rw [← snoc_sg] at m3
       have HM3 := hid m3
       clear hown3 m3 hg3 hnil3 HC HM2 hb2
       go_wp2
       go_roundw
       case rel => exact ⟨k + z, 0, acc ++ [(kd, x, (k : Int), decide ((1 : Int) < br))], A3, c3, by omega, by omega, by rw [lA, Hm.out]; simp; omega, by rw [lA, Hm.out]; rfl, by go_num, rfl, hn, by rw [lA, Hm.out]; exact HM3, hb4⟩
       case measure => simp [intOf]; omega
   ·obtain rfl := signsAt_end HA (by omega)
    go_wp2
    refine bodyPost_ret (by simp [results, Tryz.results83, go_sem,]; try rfl) rfl ?_
    exact ⟨A, c, by rw [Hm.out], by rw [Hm.out]; exact HM.out, hb⟩
theorem sg_at {w : World} {A : Option Addr} {n k : Nat} {l : List SgP} {d : SgP} (h : Rd w 4 A n (l.flatMap sgCells)) (hk : k < n) (hd : l[k]? = some d) :
  ∃ b off, A = some ⟨b, off, none⟩ ∧ b < w.heap.size ∧ w.cell? ⟨b, off + k * 4, none⟩ = some (.int .i64 d.1) ∧ w.cell? ⟨b, off + k * 4 + 1, none⟩ = some (.string d.2.1) ∧ w.cell? ⟨b, off + k * 4 + 2, none⟩ = some (.int .i64 d.2.2.1) ∧ w.cell? ⟨b, off + k * 4 + 3, none⟩ = some (.bool d.2.2.2) := by
 obtain ⟨b, off, rfl, hb, hc⟩ := h.at_ (by omega)
 have g := fun (j : Nat) (v : Value) (hj : (sgCells d)[j]? = some v) => hc (k * 4 + j) v (flat_get sgCells sgCells_len hd hj)
 refine ⟨b, off, rfl, hb, ?_, ?_, ?_, ?_⟩
 ·exact g 0 _ rfl
 ·exact g 1 _ rfl
 ·exact g 2 _ rfl
 ·exact g 3 _ rfl
theorem spare_kind {a b : SgP} (h : (a.1 == 4) = false) : spareB a b = false := by unfold spareB; rw [h]; rfl
theorem spare_text {a b : SgP} (h : (a.2.1.toList == [44]) = false) : spareB a b = false := by unfold spareB; rw [h, Bool.and_false]; rfl
theorem spare_kind2 {a b : SgP} (h : (b.1 == 4) = false) : spareB a b = false := by unfold spareB; rw [h, Bool.and_false]; rfl
theorem spare_rest {a b : SgP} (h1 : (a.1 == 4) = true) (h2 : (a.2.1.toList == [44]) = true) (h3 : (b.1 == 4) = true) : spareB a b = ((b.2.1.toList == [41]) || (b.2.1.toList == [93])) := by unfold spareB; rw [h1, h2, h3]; rfl
def SgsM (w : World) (l : List SgP) (e : Ending) (w' : World) : Prop :=
 ∃ (A : Option Addr) (c : Nat), e = .returned (.slice A l.length c) ∧ Mine w' w.heap.size 68 4 A l.length c (l.flatMap sgCells) ∧ Below w.heap.size w w'
theorem specLeft_any (A0 : Option Addr) (n c0 : Nat) (l : List SgP) (w : World) (hn : n ≤ 3000) (hl : l.length = n) (hr : Rd w 4 A0 n (l.flatMap sgCells)) : Calls prog 81 #[.slice A0 n c0] w (SgsM w (leftP l)) := by
 obtain ⟨i0, hi, hz0, hz1, hz2⟩ := info_parts infoSgn
 have HI := hid (And.intro hi (And.intro hz0 (And.intro hz1 hz2)))
 clear hi hz0 hz1 hz2
 have hL : leftP l = leftTo l n := by unfold leftP; rw [hl]
 rw [hL]; clear hL
 have HR := hid hr
 have HL := hid hl
 clear hr hl
 have M0 : Hid (Mine (w.alloc (.cells #[] 68)) w.heap.size 68 4 (some ⟨w.heap.size, 0, none⟩) (leftTo l 0).length 0 ((leftTo l 0).flatMap sgCells)) := own_empty w 68 4
 have hb0 : Below w.heap.size w (w.alloc (.cells #[] 68)) := grow_
 go_enter func81, ntmps81
 go_wp2
 generalize w.alloc (.cells #[] 68) = w1 at M0 hb0 ⊢
 go_loopw [3, 4] (fun o i wr => ∃ (k : Nat) (A : Option Addr) (c : Nat), k ≤ n ∧ i = .int .i64 k ∧ o = .slice A (leftTo l k).length c ∧ Hid (Mine wr w.heap.size 68 4 A (leftTo l k).length c ((leftTo l k).flatMap sgCells)) ∧ Below w.heap.size w wr) (fun _ i _ => n - (intOf i).toNat)
 case atStart => exact ⟨0, _, _, Nat.zero_le _, rfl, rfl, M0, hb0⟩
 case round =>
  clear M0 hb0
  obtain ⟨k, A, c, hk, rfl, rfl, HM, hb⟩ := hrel
  have hlen := leftTo_len l k
  have HRk := hid (HR.out.below hb)
  have hsz := hb.size
  by_cases hkn : k < n
  ·obtain ⟨a, ha⟩ : ∃ a, l[k]? = some a := ⟨_, gE (by have := HL.out; omega)⟩
   obtain ⟨b, off, rfl, hblt, c0', c1, c2, c3⟩ := sg_at HRk.out hkn ha
   have HY := hid (fun (h : spareAt l k = true) => leftTo_yes ha h)
   have HN := hid (fun (h : spareAt l k = false) => leftTo_no ha h)
   have HT := hid (fun (b : SgP) (h : l[k + 1]? = some b) => spareAt_two ha h)
   have HLa := hid (fun (h : l[k + 1]? = none) => spareAt_last (k := k) h)
   obtain ⟨acc, hacc⟩ : ∃ acc, leftTo l k = acc := ⟨_, rfl⟩
   rw [hacc] at HM hlen HY HN
   rw [hacc]
   obtain ⟨m, hm⟩ : ∃ m, acc.length = m := ⟨_, rfl⟩
   rw [hm] at HM hlen
   rw [hm]
   have Hm := hid hm
   clear hacc hm
   obtain ⟨ka, ta, pa, ba⟩ := a
   simp only at c0' c1 c2 c3
   have HS := hid (fun (b : SgP) => show ((ka == 4) = false → spareB (ka, ta, pa, ba) b = false) ∧ ((ta.toList == [44]) = false → spareB (ka, ta, pa, ba) b = false) ∧ ((b.1 == 4) = false → spareB (ka, ta, pa, ba) b = false) from ⟨fun h => spare_kind h, fun h => spare_text h, fun h => spare_kind2 h⟩)
   clear ha
   by_cases hk1 : k + 1 < n
   ·obtain ⟨b2, hb2⟩ : ∃ b2, l[k + 1]? = some b2 := ⟨_, gE (by have := HL.out; omega)⟩
    obtain ⟨b', off', e', hblt', d0, d1, d2, d3⟩ := sg_at HRk.out hk1 hb2
    injection e' with e'
    injection e' with e1 e2
    subst e1; subst e2
    have HT2 := hid (HT.out b2 hb2)
    have HS2 := hid (HS.out b2)
    clear hb2 hblt'
    obtain ⟨kb, tb, pb, bb⟩ := b2
    simp only at d0 d1 d2 d3 HS2
    have hk1' : (k : Int) + 1 < n := by omega
    cases h1 : (ka == 4) with
    | false =>
     have hsp := HT2.out.trans (HS2.out.1 h1)
     clear HT2 HS2
     have hst := hid (HN.out (hsp))
     have HC := hid (sg_new wr ka ta pa ba 68)
     clear HY HN HT HLa HS HRk
     go_wp2_with (at_builtin; (refine wpList_append_own _ rfl (.tmp 60) (.tmp 65) _ rfl w.heap.size 68 i0 (.agg #[.int .i64 0, .string ⟨#[]⟩, .int .i64 0, .bool false]) 4 40 underlying57 HI.out.1 HI.out.2.1 HI.out.2.2.1 HI.out.2.2.2 rfl (by decide) _ _ _ rfl (Mine.alloc HM.out _) ⟨wr.heap.size, 0, none⟩ 1 1 [.int .i64 ka, .string ta, .int .i64 pa, .bool ba] rfl rfl HC.out (sg_one _ _ _ _) (by unfold maxLen; omega) (by omega) (by simp only [World.size_alloc]; omega) ?_); intro v' w3 hown3 hg3 hnil3)
     have hb4 : Below w.heap.size w w3 := Below.grown (show Below w.heap.size w (wr.alloc (.cells #[.int .i64 ka, .string ta, .int .i64 pa, .bool ba] 68)) from grow_) hg3 (by simp only [World.size_alloc]; omega) (fun g hg => blk_sg HM.out hg)
     obtain ⟨A3, c3', rfl, m3⟩ := Mine.of hown3
     rw [← snoc_sg] at m3
     have HM3 := hid m3
     clear hown3 m3 hg3 hnil3 HC HM hb
     go_wp2
     go_roundw
     case rel => exact ⟨k + 1, A3, c3', by omega, by go_num, by rw [hst.out, lA, Hm.out]; rfl, (by rw [hst.out, lA, Hm.out]; exact HM3), hb4⟩
     case measure => simp [intOf]; omega
    | true =>
     cases h2 : (ta.toList == [44]) with
     | false =>
      have hsp := HT2.out.trans (HS2.out.2.1 h2)
      clear HT2 HS2
      have hst := hid (HN.out (hsp))
      have HC := hid (sg_new wr ka ta pa ba 68)
      clear HY HN HT HLa HS HRk
      go_wp2_with (at_builtin; (refine wpList_append_own _ rfl (.tmp 60) (.tmp 65) _ rfl w.heap.size 68 i0 (.agg #[.int .i64 0, .string ⟨#[]⟩, .int .i64 0, .bool false]) 4 40 underlying57 HI.out.1 HI.out.2.1 HI.out.2.2.1 HI.out.2.2.2 rfl (by decide) _ _ _ rfl (Mine.alloc HM.out _) ⟨wr.heap.size, 0, none⟩ 1 1 [.int .i64 ka, .string ta, .int .i64 pa, .bool ba] rfl rfl HC.out (sg_one _ _ _ _) (by unfold maxLen; omega) (by omega) (by simp only [World.size_alloc]; omega) ?_); intro v' w3 hown3 hg3 hnil3)
      have hb4 : Below w.heap.size w w3 := Below.grown (show Below w.heap.size w (wr.alloc (.cells #[.int .i64 ka, .string ta, .int .i64 pa, .bool ba] 68)) from grow_) hg3 (by simp only [World.size_alloc]; omega) (fun g hg => blk_sg HM.out hg)
      obtain ⟨A3, c3', rfl, m3⟩ := Mine.of hown3
      rw [← snoc_sg] at m3
      have HM3 := hid m3
      clear hown3 m3 hg3 hnil3 HC HM hb
      go_wp2
      go_roundw
      case rel => exact ⟨k + 1, A3, c3', by omega, by go_num, by rw [hst.out, lA, Hm.out]; rfl, (by rw [hst.out, lA, Hm.out]; exact HM3), hb4⟩
      case measure => simp [intOf]; omega
     | true =>
      cases h3 : (kb == 4) with
      | false =>
       have hsp := HT2.out.trans (HS2.out.2.2 h3)
       clear HT2 HS2
       have hst := hid (HN.out (hsp))
       have HC := hid (sg_new wr ka ta pa ba 68)
       clear HY HN HT HLa HS HRk
       go_wp2_with (at_builtin; (refine wpList_append_own _ rfl (.tmp 60) (.tmp 65) _ rfl w.heap.size 68 i0 (.agg #[.int .i64 0, .string ⟨#[]⟩, .int .i64 0, .bool false]) 4 40 underlying57 HI.out.1 HI.out.2.1 HI.out.2.2.1 HI.out.2.2.2 rfl (by decide) _ _ _ rfl (Mine.alloc HM.out _) ⟨wr.heap.size, 0, none⟩ 1 1 [.int .i64 ka, .string ta, .int .i64 pa, .bool ba] rfl rfl HC.out (sg_one _ _ _ _) (by unfold maxLen; omega) (by omega) (by simp only [World.size_alloc]; omega) ?_); intro v' w3 hown3 hg3 hnil3)
       have hb4 : Below w.heap.size w w3 := Below.grown (show Below w.heap.size w (wr.alloc (.cells #[.int .i64 ka, .string ta, .int .i64 pa, .bool ba] 68)) from grow_) hg3 (by simp only [World.size_alloc]; omega) (fun g hg => blk_sg HM.out hg)
       obtain ⟨A3, c3', rfl, m3⟩ := Mine.of hown3
       rw [← snoc_sg] at m3
       have HM3 := hid m3
       clear hown3 m3 hg3 hnil3 HC HM hb
       go_wp2
       go_roundw
       case rel => exact ⟨k + 1, A3, c3', by omega, by go_num, by rw [hst.out, lA, Hm.out]; rfl, (by rw [hst.out, lA, Hm.out]; exact HM3), hb4⟩
       case measure => simp [intOf]; omega
      | true =>
       have hsp := HT2.out.trans (spare_rest h1 h2 h3)
       clear HT2 HS2
       simp only at hsp
       cases h4 : (tb.toList == [41]) with
       | true =>
        rw [h4, Bool.true_or] at hsp
        have hst := hid (HY.out (hsp))
        clear HY HN HT HLa HS HRk
        go_wp2
        go_roundw
        case rel => exact ⟨k + 1, A, c, by omega, by go_num, by rw [hst.out, Hm.out], (by rw [hst.out, Hm.out]; exact HM), hb⟩
        case measure => simp [intOf]; omega
       | false =>
        cases h5 : (tb.toList == [93]) with
        | true =>
         rw [h4, h5] at hsp
         have hst := hid (HY.out (hsp))
         clear HY HN HT HLa HS HRk
         go_wp2
         go_roundw
         case rel => exact ⟨k + 1, A, c, by omega, by go_num, by rw [hst.out, Hm.out], (by rw [hst.out, Hm.out]; exact HM), hb⟩
         case measure => simp [intOf]; omega
        | false =>
         rw [h4, h5] at hsp
         have hst := hid (HN.out (hsp))
         have HC := hid (sg_new wr ka ta pa ba 68)
         clear HY HN HT HLa HS HRk
         go_wp2_with (at_builtin; (refine wpList_append_own _ rfl (.tmp 60) (.tmp 65) _ rfl w.heap.size 68 i0 (.agg #[.int .i64 0, .string ⟨#[]⟩, .int .i64 0, .bool false]) 4 40 underlying57 HI.out.1 HI.out.2.1 HI.out.2.2.1 HI.out.2.2.2 rfl (by decide) _ _ _ rfl (Mine.alloc HM.out _) ⟨wr.heap.size, 0, none⟩ 1 1 [.int .i64 ka, .string ta, .int .i64 pa, .bool ba] rfl rfl HC.out (sg_one _ _ _ _) (by unfold maxLen; omega) (by omega) (by simp only [World.size_alloc]; omega) ?_); intro v' w3 hown3 hg3 hnil3)
         have hb4 : Below w.heap.size w w3 := Below.grown (show Below w.heap.size w (wr.alloc (.cells #[.int .i64 ka, .string ta, .int .i64 pa, .bool ba] 68)) from grow_) hg3 (by simp only [World.size_alloc]; omega) (fun g hg => blk_sg HM.out hg)
         obtain ⟨A3, c3', rfl, m3⟩ := Mine.of hown3
         rw [← snoc_sg] at m3
         have HM3 := hid m3
         clear hown3 m3 hg3 hnil3 HC HM hb
         go_wp2
         go_roundw
         case rel => exact ⟨k + 1, A3, c3', by omega, by go_num, by rw [hst.out, lA, Hm.out]; rfl, (by rw [hst.out, lA, Hm.out]; exact HM3), hb4⟩
         case measure => simp [intOf]; omega
   ·have hsp : spareAt l k = false := HLa.out (List.getElem?_eq_none (by have := HL.out; omega))
    have hk1' : ¬ (k : Int) + 1 < n := by omega
    cases h1 : (ka == 4) with
    | false =>
     have hst := hid (HN.out (hsp))
     have HC := hid (sg_new wr ka ta pa ba 68)
     clear HY HN HT HLa HS HRk
     go_wp2_with (at_builtin; (refine wpList_append_own _ rfl (.tmp 60) (.tmp 65) _ rfl w.heap.size 68 i0 (.agg #[.int .i64 0, .string ⟨#[]⟩, .int .i64 0, .bool false]) 4 40 underlying57 HI.out.1 HI.out.2.1 HI.out.2.2.1 HI.out.2.2.2 rfl (by decide) _ _ _ rfl (Mine.alloc HM.out _) ⟨wr.heap.size, 0, none⟩ 1 1 [.int .i64 ka, .string ta, .int .i64 pa, .bool ba] rfl rfl HC.out (sg_one _ _ _ _) (by unfold maxLen; omega) (by omega) (by simp only [World.size_alloc]; omega) ?_); intro v' w3 hown3 hg3 hnil3)
     have hb4 : Below w.heap.size w w3 := Below.grown (show Below w.heap.size w (wr.alloc (.cells #[.int .i64 ka, .string ta, .int .i64 pa, .bool ba] 68)) from grow_) hg3 (by simp only [World.size_alloc]; omega) (fun g hg => blk_sg HM.out hg)
     obtain ⟨A3, c3', rfl, m3⟩ := Mine.of hown3
     rw [← snoc_sg] at m3
     have HM3 := hid m3
     clear hown3 m3 hg3 hnil3 HC HM hb
     go_wp2
     go_roundw
     case rel => exact ⟨k + 1, A3, c3', by omega, by go_num, by rw [hst.out, lA, Hm.out]; rfl, (by rw [hst.out, lA, Hm.out]; exact HM3), hb4⟩
     case measure => simp [intOf]; omega
    | true =>
     cases h2 : (ta.toList == [44]) with
     | false =>
      have hst := hid (HN.out (hsp))
      have HC := hid (sg_new wr ka ta pa ba 68)
      clear HY HN HT HLa HS HRk
      go_wp2_with (at_builtin; (refine wpList_append_own _ rfl (.tmp 60) (.tmp 65) _ rfl w.heap.size 68 i0 (.agg #[.int .i64 0, .string ⟨#[]⟩, .int .i64 0, .bool false]) 4 40 underlying57 HI.out.1 HI.out.2.1 HI.out.2.2.1 HI.out.2.2.2 rfl (by decide) _ _ _ rfl (Mine.alloc HM.out _) ⟨wr.heap.size, 0, none⟩ 1 1 [.int .i64 ka, .string ta, .int .i64 pa, .bool ba] rfl rfl HC.out (sg_one _ _ _ _) (by unfold maxLen; omega) (by omega) (by simp only [World.size_alloc]; omega) ?_); intro v' w3 hown3 hg3 hnil3)
      have hb4 : Below w.heap.size w w3 := Below.grown (show Below w.heap.size w (wr.alloc (.cells #[.int .i64 ka, .string ta, .int .i64 pa, .bool ba] 68)) from grow_) hg3 (by simp only [World.size_alloc]; omega) (fun g hg => blk_sg HM.out hg)
      obtain ⟨A3, c3', rfl, m3⟩ := Mine.of hown3
      rw [← snoc_sg] at m3
      have HM3 := hid m3
      clear hown3 m3 hg3 hnil3 HC HM hb
      go_wp2
      go_roundw
      case rel => exact ⟨k + 1, A3, c3', by omega, by go_num, by rw [hst.out, lA, Hm.out]; rfl, (by rw [hst.out, lA, Hm.out]; exact HM3), hb4⟩
      case measure => simp [intOf]; omega
     | true =>
      have hst := hid (HN.out (hsp))
      have HC := hid (sg_new wr ka ta pa ba 68)
      clear HY HN HT HLa HS HRk
      go_wp2_with (at_builtin; (refine wpList_append_own _ rfl (.tmp 60) (.tmp 65) _ rfl w.heap.size 68 i0 (.agg #[.int .i64 0, .string ⟨#[]⟩, .int .i64 0, .bool false]) 4 40 underlying57 HI.out.1 HI.out.2.1 HI.out.2.2.1 HI.out.2.2.2 rfl (by decide) _ _ _ rfl (Mine.alloc HM.out _) ⟨wr.heap.size, 0, none⟩ 1 1 [.int .i64 ka, .string ta, .int .i64 pa, .bool ba] rfl rfl HC.out (sg_one _ _ _ _) (by unfold maxLen; omega) (by omega) (by simp only [World.size_alloc]; omega) ?_); intro v' w3 hown3 hg3 hnil3)
      have hb4 : Below w.heap.size w w3 := Below.grown (show Below w.heap.size w (wr.alloc (.cells #[.int .i64 ka, .string ta, .int .i64 pa, .bool ba] 68)) from grow_) hg3 (by simp only [World.size_alloc]; omega) (fun g hg => blk_sg HM.out hg)
      obtain ⟨A3, c3', rfl, m3⟩ := Mine.of hown3
      rw [← snoc_sg] at m3
      have HM3 := hid m3
      clear hown3 m3 hg3 hnil3 HC HM hb
      go_wp2
      go_roundw
      case rel => exact ⟨k + 1, A3, c3', by omega, by go_num, by rw [hst.out, lA, Hm.out]; rfl, (by rw [hst.out, lA, Hm.out]; exact HM3), hb4⟩
      case measure => simp [intOf]; omega
  ·obtain rfl : k = n := by omega
   go_wp2
   go_ret
   exact ⟨A, c, rfl, HM.out, hb⟩
theorem isSpare_any (A0 : Option Addr) (n c0 k : Nat) (l : List SgP) (w : World) (hn : n ≤ 3000) (hk : k < n) (hl : l.length = n) (hr : Rd w 4 A0 n (l.flatMap sgCells)) :
  Calls prog 118 #[.slice A0 n c0, .int .i64 k] w fun e w' => e = .returned (.bool (spareAt l k)) ∧ Below w.heap.size w w' := by
 obtain ⟨a, ha⟩ : ∃ a, l[k]? = some a := ⟨_, gE (by omega)⟩
 obtain ⟨b, off, rfl, hblt, c0', c1, c2, c3⟩ := sg_at hr hk ha
 have hT := fun (b : SgP) (h : l[k + 1]? = some b) => spareAt_two ha h
 have hLa := fun (h : l[k + 1]? = none) => spareAt_last (k := k) h
 obtain ⟨ka, ta, pa, ba⟩ := a
 simp only at c0' c1 c2 c3
 by_cases hk1 : k + 1 < n
 ·obtain ⟨b2, hb2⟩ : ∃ b2, l[k + 1]? = some b2 := ⟨_, gE (by omega)⟩
  obtain ⟨b', off', e', hblt', d0, d1, d2, d3⟩ := sg_at hr hk1 hb2
  injection e' with e'
  injection e' with e1 e2
  subst e1; subst e2
  have hT2 := hT b2 hb2
  clear hb2 hblt' hT hLa ha hr hl
  obtain ⟨kb, tb, pb, bb⟩ := b2
  simp only at d0 d1 d2 d3 hT2
  have hk1' : (k : Int) + 1 < n := by omega
  have hk1g : ¬ (n : Int) ≤ (k : Int) + 1 := by omega
  cases h1 : (ka == 4) with
  | false =>
   have hsp := hT2.trans (spare_kind h1)
   have h1' : (ka != 4) = true := by rw [bne, h1]; rfl
   rw [hsp]; clear hsp hT2
   go_enter func118, ntmps118
   go_wp2
   go_ret
   exact ⟨rfl, grow_⟩
  | true =>
   have h1' : (ka != 4) = false := by rw [bne, h1]; rfl
   cases h2 : (ta.toList == [44]) with
   | false =>
    have hsp := hT2.trans (spare_text h2)
    have h2' : (ta.toList != [44]) = true := by rw [bne, h2]; rfl
    rw [hsp]; clear hsp hT2
    go_enter func118, ntmps118
    go_wp2
    go_ret
    exact ⟨rfl, grow_⟩
   | true =>
    have h2' : (ta.toList != [44]) = false := by rw [bne, h2]; rfl
    cases h3 : (kb == 4) with
    | false =>
     have hsp := hT2.trans (spare_kind2 h3)
     rw [hsp]; clear hsp hT2
     go_enter func118, ntmps118
     go_wp2
     go_ret
     exact ⟨rfl, grow_⟩
    | true =>
     have hsp := hT2.trans (spare_rest h1 h2 h3)
     simp only at hsp
     cases h4 : (tb.toList == [41]) with
     | true =>
      rw [h4, Bool.true_or] at hsp
      rw [hsp]; clear hsp hT2
      go_enter func118, ntmps118
      go_wp2
      go_ret
      exact ⟨rfl, grow_⟩
     | false =>
      rw [h4, Bool.false_or] at hsp
      rw [hsp]; clear hsp hT2
      go_enter func118, ntmps118
      go_wp2
      go_ret
      exact ⟨rfl, grow_⟩
 ·have hsp : spareAt l k = false := hLa (List.getElem?_eq_none (by omega))
  have hk1g : (n : Int) ≤ (k : Int) + 1 := by omega
  rw [hsp]; clear hsp hT hLa hr ha hl
  go_enter func118, ntmps118
  go_wp2
  go_ret
  exact ⟨rfl, grow_⟩
theorem implLeft_any (A0 : Option Addr) (n c0 : Nat) (l : List SgP) (w : World) (hn : n ≤ 3000) (hl : l.length = n) (hr : Rd w 4 A0 n (l.flatMap sgCells)) : Calls prog 84 #[.slice A0 n c0] w (SgsM w (leftP l)) := by
 obtain ⟨i0, hi, hz0, hz1, hz2⟩ := info_parts infoSgn
 have HI := hid (And.intro hi (And.intro hz0 (And.intro hz1 hz2)))
 clear hi hz0 hz1 hz2
 have hL : leftP l = leftTo l n := by unfold leftP; rw [hl]
 rw [hL]; clear hL
 have HR := hid hr
 have HL := hid hl
 clear hr hl
 have M0 : Hid (Mine w w.heap.size 68 4 none (leftTo l 0).length 0 ((leftTo l 0).flatMap sgCells)) := Mine.mk_nil _ _ _ _
 have hb0 : Below w.heap.size w w := grow_
 go_enter func84, ntmps84
 go_wp2
 go_loopw [3, 8] (fun o i wr => ∃ (k : Nat) (A : Option Addr) (c : Nat), k ≤ n ∧ i = .int .i64 k ∧ o = .slice A (leftTo l k).length c ∧ Hid (Mine wr w.heap.size 68 4 A (leftTo l k).length c ((leftTo l k).flatMap sgCells)) ∧ Below w.heap.size w wr) (fun _ i _ => n - (intOf i).toNat)
 case atStart => exact ⟨0, _, _, Nat.zero_le _, rfl, rfl, M0, hb0⟩
 case round =>
  clear M0 hb0
  obtain ⟨k, A, c, hk, rfl, rfl, HM, hb⟩ := hrel
  have hlen := leftTo_len l k
  by_cases hkn : k < n
  ·obtain ⟨a, ha⟩ : ∃ a, l[k]? = some a := ⟨_, gE (by have := HL.out; omega)⟩
   have HRk := hid (HR.out.below hb)
   obtain ⟨b, off, rfl, hblt, c0', c1, c2, c3⟩ := sg_at HRk.out hkn ha
   have HY := hid (fun (h : spareAt l k = true) => leftTo_yes ha h)
   have HN := hid (fun (h : spareAt l k = false) => leftTo_no ha h)
   have HS := hid (fun (v : Bool) (h : spareAt l k = v) (W : World) (hW : Rd W 4 (some ⟨b, off, none⟩) n (l.flatMap sgCells)) => show Calls prog 118 #[.slice (some ⟨b, off, none⟩) n c0, .int .i64 k] W fun e w' => e = .returned (.bool v) ∧ Below W.heap.size W w' by rw [← h]; exact isSpare_any _ n c0 k l W hn hkn HL.out hW)
   obtain ⟨acc, hacc⟩ : ∃ acc, leftTo l k = acc := ⟨_, rfl⟩
   rw [hacc] at HM hlen HY HN
   rw [hacc]
   obtain ⟨m, hm⟩ : ∃ m, acc.length = m := ⟨_, rfl⟩
   rw [hm] at HM hlen
   rw [hm]
   have Hm := hid hm
   clear hacc hm
   obtain ⟨ka, ta, pa, ba⟩ := a
   simp only at c0' c1 c2 c3
   clear ha
   have HRk1 := hid (Rd.alloc HRk.out (.cells #[.int .i64 ka, .string ta, .int .i64 pa, .bool ba] 68))
   have K := Blk.new wr 68 #[.int .i64 ka, .string ta, .int .i64 pa, .bool ba]
   have HK := hid K
   have hsz0 := hb.size
   clear K
   cases hs : spareAt l k with
   | true =>
    have hst := hid (HY.out hs)
    have HS2 := hid (HS.out _ hs)
    clear HY HN HS hs
    go_wp2_with fail
    refine (HS2.out _ HRk1.out).mono ?_
    rintro e w2 ⟨rfl, h2⟩
    have HM2 := hid (HM.out.next1 h2)
    have hb2 := below_next1 hb h2
    clear HS2 HRk1 HRk HM c0' c1 c2 c3 hblt HK h2
    go_wp2
    go_roundw
    case rel => exact ⟨k + 1, A, c, by omega, by go_num, by rw [hst.out, Hm.out], (by rw [hst.out, Hm.out]; exact HM2), hb2⟩
    case measure => simp [intOf]; omega
   | false =>
    have hst := hid (HN.out hs)
    have HS2 := hid (HS.out _ hs)
    clear HY HN HS hs
    go_wp2_with fail
    refine (HS2.out _ HRk1.out).mono ?_
    rintro e w2 ⟨rfl, h2⟩
    have HM2 := hid (HM.out.next1 h2)
    have hb2 := below_next1 hb h2
    have hsz := hb2.size
    have K2 := HK.out.next h2
    have k0 := K2.q0
    have k1 := K2.q1
    have k2 := K2.q2
    have k3 := K2.q3
    have kz := K2.lt
    have HC := hid (sg_new w2 ka ta pa ba 68)
    clear HS2 HRk1 HRk HM c0' c1 c2 c3 hblt HK h2 K2
    go_wp2_with (at_builtin; (refine wpList_append_own _ rfl (.tmp 17) (.tmp 19) _ rfl w.heap.size 68 i0 (.agg #[.int .i64 0, .string ⟨#[]⟩, .int .i64 0, .bool false]) 4 40 underlying57 HI.out.1 HI.out.2.1 HI.out.2.2.1 HI.out.2.2.2 rfl (by decide) _ _ _ rfl (Mine.alloc HM2.out _) ⟨w2.heap.size, 0, none⟩ 1 1 [.int .i64 ka, .string ta, .int .i64 pa, .bool ba] rfl rfl HC.out (sg_one _ _ _ _) (by unfold maxLen; omega) (by omega) (by simp only [World.size_alloc]; omega) ?_); intro v' w3 hown3 hg3 hnil3)
    have hb4 : Below w.heap.size w w3 := Below.grown (show Below w.heap.size w (w2.alloc (.cells #[.int .i64 ka, .string ta, .int .i64 pa, .bool ba] 68)) from grow_) hg3 (by simp only [World.size_alloc]; omega) (fun g hg => blk_sg HM2.out hg)
    obtain ⟨A3, c3', rfl, m3⟩ := Mine.of hown3
    rw [← snoc_sg] at m3
    have HM3 := hid m3
    clear hown3 m3 hg3 hnil3 HC HM2 hb2 k0 k1 k2 k3 kz
    go_wp2
    go_roundw
    case rel => exact ⟨k + 1, A3, c3', by omega, by go_num, by rw [hst.out, lA, Hm.out]; rfl, (by rw [hst.out, lA, Hm.out]; exact HM3), hb4⟩
    case measure => simp [intOf]; omega
  ·obtain rfl : k = n := by omega
   go_wp2
   go_ret
   exact ⟨A, c, rfl, HM.out, hb⟩
def atTo (l : List SgP) (k : Nat) : List Int := (l.take k).map (fun d => d.2.2.1)
theorem atTo_len {l : List SgP} {k : Nat} (h : k ≤ l.length) : (atTo l k).length = k := by unfold atTo; simp; omega
theorem atTo_succ {l : List SgP} {k : Nat} {d : SgP} (h : l[k]? = some d) : atTo l (k + 1) = atTo l k ++ [d.2.2.1] := by
 unfold atTo; rw [List.take_add_one, h]; simp
theorem atTo_all (l : List SgP) : atTo l l.length = l.map (fun d => d.2.2.1) := by unfold atTo; rw [List.take_length]
theorem intCells_snoc (l : List Int) (x : Int) : intCells (l ++ [x]) = intCells l ++ [.int .i64 x] := by simp [intCells]
theorem cell1_p (w : World) (u : Value) (t : TypeId) : ∀ j v, [u][j]? = some v → (w.alloc (.cells #[u] t)).cell? ((⟨w.heap.size, 0, none⟩ : Addr).add j) = some v := by
 intro j v hj
 match j, hj with
 | 0, hj =>
  obtain rfl := Option.some.inj hj
  exact (Blk.new w t #[u]).cell 0
 | j + 1, hj => simp at hj
theorem leftP_len (l : List SgP) (h : l.length ≤ 3000) : (leftP l).length ≤ 3000 := by
 have := leftTo_len l l.length
 unfold leftP
 omega
def IntsM (w : World) (l : List Int) (e : Ending) (w' : World) : Prop :=
 ∃ (A : Option Addr) (c : Nat), e = .returned (.slice A l.length c) ∧ Mine w' w.heap.size 3 1 A l.length c (intCells l) ∧ Below w.heap.size w w'
theorem implPlaces_any (s : ByteArray) (w : World) (hs : s.size ≤ 1048576) : Calls prog 53 #[.string s] w (IntsM w (placesP s)) := by
 obtain ⟨i0, hi, hz0, hz1, hz2⟩ := info_parts infoInt
 have HI := hid (And.intro hi (And.intro hz0 (And.intro hz1 hz2)))
 clear hi hz0 hz1 hz2
 have HS := hid (fun W => implSignsOf_any s W hs)
 have hlen := signsP_len s
 have HP : Hid (placesP s = if (signsP s).2.2 = true then (leftP (signsP s).1).map (fun d => d.2.2.1) else []) := rfl
 generalize placesP s = P at HP ⊢
 generalize signsP s = R at HS hlen HP
 obtain ⟨sg, q, ok⟩ := R
 simp only at hlen
 go_enter func53, ntmps53
 go_wp2_with fail
 refine (HS.out _).mono ?_
 rintro e w1 ⟨A, c, rfl, hm, hb⟩
 have HM := hid hm
 clear HS hm
 cases ok with
 | false =>
  obtain rfl : P = [] := by rw [HP.out]; rfl
  clear HP HM
  go_wp2
  go_ret
  exact ⟨_, _, rfl, Mine.mk_nil _ _ _ _, hb⟩
 | true =>
  have HP2 : Hid (P = atTo (leftP sg) (leftP sg).length) := by show _ = _; rw [HP.out, atTo_all]; rfl
  have HW := hid (fun W A n c hn hr => implLeft_any A n c sg W (by omega) hn hr)
  have hll := leftP_len sg hlen
  clear HP
  generalize leftP sg = L at HP2 HW hll
  go_wp2_with fail
  refine (HW.out _ _ _ _ rfl HM.out.rd).mono ?_
  rintro e w2 ⟨A2, c2, rfl, hm2, h2⟩
  have hb2 := below_next hb h2
  obtain ⟨n, hn⟩ : ∃ n, L.length = n := ⟨_, rfl⟩
  rw [hn] at hm2 hll HP2
  rw [hn]
  have HL := hid hn
  have HM2 := hid (hm2.more (B' := w.heap.size) hb.size)
  clear HW HM hm2 h2 hb hn
  have M0 : Hid (Mine w2 w.heap.size 3 1 none (atTo L 0).length 0 (intCells (atTo L 0))) := Mine.mk_nil _ _ _ _
  go_wp2
  go_loopw [6, 20] (fun o i wr => ∃ (k : Nat) (A : Option Addr) (c : Nat), k ≤ n ∧ i = .int .i64 k ∧ o = .slice A (atTo L k).length c ∧ Hid (Mine wr w.heap.size 3 1 A (atTo L k).length c (intCells (atTo L k))) ∧ Hid (Mine wr w.heap.size 68 4 A2 n c2 (L.flatMap sgCells)) ∧ Below w.heap.size w wr) (fun _ i _ => n - (intOf i).toNat)
  case atStart => exact ⟨0, _, _, Nat.zero_le _, rfl, rfl, M0, HM2, hb2⟩
  case round =>
   clear M0 HM2 hb2
   obtain ⟨k, A, c, hk, rfl, rfl, HM, HM2, hb⟩ := hrel
   have hlk : (atTo L k).length = k := atTo_len (by rw [HL.out]; exact hk)
   rw [hlk] at HM
   rw [hlk]
   by_cases hkn : k < n
   ·obtain ⟨a, ha⟩ : ∃ a, L[k]? = some a := ⟨_, gE (by have := HL.out; omega)⟩
    obtain ⟨b, off, rfl, hblt, c0, c1, c2', c3⟩ := sg_at HM2.out.rd hkn ha
    have hst := hid (atTo_succ ha)
    have HC := hid (cell1_p (wr.alloc (.cells #[.int .i64 a.1, .string a.2.1, .int .i64 a.2.2.1, .bool a.2.2.2] 68)) (.int .i64 a.2.2.1) 3)
    rw [World.size_alloc] at HC
    obtain ⟨ka, ta, pa, ba⟩ := a
    simp only at c0 c1 c2' c3 hst HC
    have hsz := hb.size
    clear ha
    go_wp2_with (at_builtin; (refine wpList_append_own _ rfl (.tmp 24) (.tmp 27) _ rfl w.heap.size 3 i0 (.int .i64 0) 1 8 underlying34 HI.out.1 HI.out.2.1 HI.out.2.2.1 HI.out.2.2.2 rfl (by decide) _ _ _ rfl (Mine.alloc (Mine.alloc HM.out _) _) ⟨wr.heap.size + 1, 0, none⟩ 1 1 [.int .i64 pa] rfl rfl HC.out (fun x hx => by simp at hx; subst hx; rfl) (by unfold maxLen; omega) (by omega) (by simp only [World.size_alloc]; omega) ?_); intro v' w3 hown3 hg3 hnil3)
    have hb4 : Below w.heap.size w w3 := Below.grown (show Below w.heap.size w ((wr.alloc (.cells #[.int .i64 ka, .string ta, .int .i64 pa, .bool ba] 68)).alloc (.cells #[.int .i64 pa] 3)) from grow_) hg3 (by simp only [World.size_alloc]; omega) (fun g hg => blk_sg HM.out hg)
    have HM4 := hid (Mine.grown (Mine.alloc (Mine.alloc HM2.out (.cells #[.int .i64 ka, .string ta, .int .i64 pa, .bool ba] 68)) (.cells #[.int .i64 pa] 3)) hg3 (fun g hg => .inr (Mine.apart HM2.out HM.out (by decide) ((ownBlk A k c).symm.trans hg))))
    obtain ⟨A3, c3', rfl, m3⟩ := Mine.of hown3
    rw [← intCells_snoc, ← hst.out] at m3
    have HM3 := hid m3
    have hl3 : (atTo L (k + 1)).length = k + 1 := atTo_len (by rw [HL.out]; omega)
    clear hown3 m3 hg3 hnil3 HC HM HM2 hb c0 c1 c2' c3 hblt
    go_wp2
    go_roundw
    case rel => exact ⟨k + 1, A3, c3', by omega, by go_num, by rw [hl3], (by rw [hl3]; exact HM3), HM4, hb4⟩
    case measure => simp [intOf]; omega
   ·obtain rfl : k = n := by omega
    go_wp2
    go_ret
    rw [HP2.out]
    exact ⟨A, c, by rw [hlk]; rfl, by rw [hlk]; exact HM.out, hb⟩
theorem specPlaces_any (s : ByteArray) (w : World) (hs : s.size ≤ 1048576) : Calls prog 49 #[.string s] w (IntsM w (placesP s)) := by
 obtain ⟨i0, hi, hz0, hz1, hz2⟩ := info_parts infoInt
 have HI := hid (And.intro hi (And.intro hz0 (And.intro hz1 hz2)))
 clear hi hz0 hz1 hz2
 have HS := hid (fun W => specSignsOf_any s W hs)
 have hlen := signsP_len s
 have HP : Hid (placesP s = atTo (leftP (signsP s).1) (leftP (signsP s).1).length) := by show _ = _; rw [placesP_eq, atTo_all]
 generalize placesP s = P at HP ⊢
 generalize signsP s = R at HS hlen HP
 obtain ⟨sg, q, ok⟩ := R
 simp only at hlen HP
 have HW := hid (fun W A n c hn hr => specLeft_any A n c sg W (by omega) hn hr)
 have hll := leftP_len sg hlen
 generalize leftP sg = L at HP HW hll
 obtain ⟨n, hn⟩ : ∃ n, L.length = n := ⟨_, rfl⟩
 have hnn : n ≤ 3000 := by omega
 rw [hn] at HP
 have HL := hid hn
 clear hll
 have M0 : Hid (Mine (w.alloc (.cells #[] 3)) w.heap.size 3 1 (some ⟨w.heap.size, 0, none⟩) 0 0 (intCells (atTo L 0))) := own_empty w 3 1
 go_enter func49, ntmps49
 go_wp2_with fail
 refine (HS.out _).mono ?_
 rintro e w1 ⟨A, c, rfl, hm, h1⟩
 have hb := below_box h1
 have HM := hid hm
 have HO := hid (M0.out.next h1)
 have hz1 : w.heap.size + 1 ≤ w1.heap.size := by have := h1.size; simpa using this
 clear HS hm h1 M0
 go_wp2_with fail
 refine (HW.out _ _ _ _ rfl HM.out.rd).mono ?_
 rintro e w2 ⟨A2, c2, rfl, hm2, h2⟩
 have hb2 := below_next hb h2
 have HO2 := hid (HO.out.next h2)
 rw [hn] at hm2
 rw [hn]
 have HM2 := hid (hm2.more (B' := w.heap.size) hb.size)
 clear HW HM hm2 h2 hb hn HO hz1
 go_wp2
 go_loopw [3, 7] (fun o i wr => ∃ (k : Nat) (A : Option Addr) (c : Nat), k ≤ n ∧ i = .int .i64 k ∧ o = .slice A (atTo L k).length c ∧ Hid (Mine wr w.heap.size 3 1 A (atTo L k).length c (intCells (atTo L k))) ∧ Hid (Mine wr w.heap.size 68 4 A2 n c2 (L.flatMap sgCells)) ∧ Below w.heap.size w wr) (fun _ i _ => n - (intOf i).toNat)
 case atStart => exact ⟨0, _, _, Nat.zero_le _, rfl, rfl, HO2, HM2, hb2⟩
 case round =>
  clear HO2 HM2 hb2
  obtain ⟨k, A, c, hk, rfl, rfl, HM, HM2, hb⟩ := hrel
  have hlk : (atTo L k).length = k := atTo_len (by rw [HL.out]; exact hk)
  rw [hlk] at HM
  rw [hlk]
  by_cases hkn : k < n
  ·obtain ⟨a, ha⟩ : ∃ a, L[k]? = some a := ⟨_, gE (by have := HL.out; omega)⟩
   obtain ⟨b, off, rfl, hblt, c0, c1, c2', c3⟩ := sg_at HM2.out.rd hkn ha
   have hst := hid (atTo_succ ha)
   have HC := hid (cell1_p wr (.int .i64 a.2.2.1) 3)
   obtain ⟨ka, ta, pa, ba⟩ := a
   simp only at c0 c1 c2' c3 hst HC
   have hsz := hb.size
   clear ha
   go_wp2_with (at_builtin; (refine wpList_append_own _ rfl (.tmp 23) (.tmp 29) _ rfl w.heap.size 3 i0 (.int .i64 0) 1 8 underlying34 HI.out.1 HI.out.2.1 HI.out.2.2.1 HI.out.2.2.2 rfl (by decide) _ _ _ rfl (Mine.alloc HM.out _) ⟨wr.heap.size, 0, none⟩ 1 1 [.int .i64 pa] rfl rfl HC.out (fun x hx => by simp at hx; subst hx; rfl) (by unfold maxLen; omega) (by omega) (by simp only [World.size_alloc]; omega) ?_); intro v' w3 hown3 hg3 hnil3)
   have hb4 : Below w.heap.size w w3 := Below.grown (show Below w.heap.size w (wr.alloc (.cells #[.int .i64 pa] 3)) from grow_) hg3 (by simp only [World.size_alloc]; omega) (fun g hg => blk_sg HM.out hg)
   have HM4 := hid (Mine.grown (Mine.alloc HM2.out (.cells #[.int .i64 pa] 3)) hg3 (fun g hg => .inr (Mine.apart HM2.out HM.out (by decide) ((ownBlk A k c).symm.trans hg))))
   obtain ⟨A3, c3', rfl, m3⟩ := Mine.of hown3
   rw [← intCells_snoc, ← hst.out] at m3
   have HM3 := hid m3
   have hl3 : (atTo L (k + 1)).length = k + 1 := atTo_len (by rw [HL.out]; omega)
   clear hown3 m3 hg3 hnil3 HC HM HM2 hb c0 c1 c2' c3 hblt
   go_wp2
   go_roundw
   case rel => exact ⟨k + 1, A3, c3', by omega, by go_num, by rw [hl3], (by rw [hl3]; exact HM3), HM4, hb4⟩
   case measure => simp [intOf]; omega
  ·obtain rfl : k = n := by omega
   go_wp2
   go_ret
   rw [HP.out]
   exact ⟨A, c, by rw [hlk]; rfl, by rw [hlk]; exact HM.out, hb⟩
def LineR (w : World) (v : Int) (e : Ending) (w' : World) : Prop := ∃ c : Int, e = .returned (.tuple #[.int .i64 v, .int .i64 c]) ∧ w = w'
theorem lineP_no {t : ByteArray} {q : Int} (h : ¬ (0 ≤ q ∧ q ≤ (t.size : Int))) : lineP t q = 0 := by unfold lineP; rw [if_neg h]
theorem lineP_yes {t : ByteArray} {q : Nat} (h : q ≤ t.size) : lineP t (q : Int) = ((t.data.toList.take q).count 10 : Nat) + 1 := by
 unfold lineP; rw [if_pos (by omega), Int.toNat_natCast]
theorem count_le (l : List UInt8) (q : Nat) : (l.take q).count 10 ≤ q := Nat.le_trans List.count_le_length (by simp; omega)
theorem implPlaceOf_any (t : ByteArray) (q : Int) (w : World) (ht : t.size ≤ 1048576) : Calls prog 55 #[.string t, .int .i64 q] w (LineR w (lineP t q)) := by
 by_cases h0 : q < 0
 ·rw [lineP_no (by omega)]
  go_enter func55, ntmps55
  go_wp2
  refine bodyPost_ret (by simp [results, Tryz.results55, go_sem,]; try rfl) rfl ?_
  exact ⟨_, rfl, rfl⟩
 ·obtain ⟨n, rfl⟩ := Int.eq_ofNat_of_zero_le (show 0 ≤ q by omega)
  by_cases h1 : n ≤ t.size
  ·rw [lineP_yes h1]
   have HC := hid (fun W => Tryz.strings_Count_one (t.extract 0 n) 10 W)
   have HL := hid (fun W => Tryz.strings_LastIndexByte (t.extract 0 n) 10 (by simp; omega) W)
   have hc : Lib.countByte (t.extract 0 n).data.toList 10 = (t.data.toList.take n).count 10 := by rw [extract_head]; rfl
   rw [hc] at HC
   have hle := count_le t.data.toList n
   have hsp := Lib.lastIndexByte_spec (t.extract 0 n) 10
   have hli : -1 ≤ Lib.lastIndexByte (t.extract 0 n) 10 ∧ Lib.lastIndexByte (t.extract 0 n) 10 ≤ (n : Int) := by
    rcases hsp with ⟨h, _⟩ | ⟨i, hi, h, _⟩
    ·omega
    ·simp at hi; omega
   clear hc hsp
   generalize (t.data.toList.take n).count 10 = K at HC hle ⊢
   generalize Lib.lastIndexByte (t.extract 0 n) 10 = I at HL hli
   obtain ⟨hi1, hi2⟩ := hli
   have g1 : ¬ (t.size : Int) < n := by omega
   have g2 : (n : Int) ≤ t.size := by omega
   go_enter func55, ntmps55
   go_wp2_with (first | (go_at_call 86; refine (HC.out _).mono ?_; rintro e w1 ⟨rfl, rfl⟩) | (go_at_call 87; refine (HL.out _).mono ?_; rintro e w1 ⟨rfl, rfl⟩))
   refine bodyPost_ret (by simp [results, Tryz.results55, go_sem,]; try rfl) rfl ?_
   exact ⟨_, rfl, rfl⟩
  ·rw [lineP_no (by omega)]
   have g1 : (t.size : Int) < n := by omega
   go_enter func55, ntmps55
   go_wp2
   refine bodyPost_ret (by simp [results, Tryz.results55, go_sem,]; try rfl) rfl ?_
   exact ⟨_, rfl, rfl⟩
theorem count_succ {t : ByteArray} {k : Nat} (h : k < t.size) : (t.data.toList.take (k + 1)).count 10 = (t.data.toList.take k).count 10 + if t[k] = 10 then 1 else 0 := by
 have hl : k < t.data.toList.length := by rw [ba_len]; exact h
 rw [List.take_succ_eq_append_getElem hl, List.count_append, List.count_cons]
 have : t.data.toList[k] = t[k] := rfl
 rw [this]
 simp
theorem specPlaceOf_any (t : ByteArray) (q : Int) (w : World) (ht : t.size ≤ 1048576) : Calls prog 51 #[.string t, .int .i64 q] w (LineR w (lineP t q)) := by
 by_cases h0 : q < 0
 ·rw [lineP_no (by omega)]
  go_enter func51, ntmps51
  go_wp2
  refine bodyPost_ret (by simp [results, Tryz.results51, go_sem,]; try rfl) rfl ?_
  exact ⟨_, rfl, rfl⟩
 ·obtain ⟨n, rfl⟩ := Int.eq_ofNat_of_zero_le (show 0 ≤ q by omega)
  by_cases h1 : n ≤ t.size
  ·rw [lineP_yes h1]
   have g1 : ¬ (t.size : Int) < n := by omega
   obtain ⟨K, hK⟩ : ∃ K : Nat → Nat, ∀ k, K k = (t.data.toList.take k).count 10 := ⟨_, fun _ => rfl⟩
   have HS : Hid (∀ k, k < t.size → K (k + 1) = K k + if t[k]! = 10 then 1 else 0) := (show ∀ k, k < t.size → K (k + 1) = K k + if t[k]! = 10 then 1 else 0 from fun k hk => by rw [hK, hK, count_succ hk, getElem!_pos t k hk])
   have HL := hid (fun k => show K k ≤ k by rw [hK]; exact count_le _ _)
   have h00 : K 0 = 0 := by rw [hK]; rfl
   rw [← hK n]
   clear hK
   go_enter func51, ntmps51
   go_wp2
   go_loop [6, 7, 8] (fun a b i => ∃ (k : Nat) (c : Nat), k ≤ n ∧ c ≤ k + 1 ∧ i = .int .i64 k ∧ a = .int .i64 ((K k : Int) + 1) ∧ b = .int .i64 c) (fun _ _ i => n - (intOf i).toNat)
   case atStart => exact ⟨0, 1, by omega, by omega, rfl, by rw [h00]; rfl, rfl⟩
   case round =>
    obtain ⟨k, c, hk, hc, rfl, rfl, rfl⟩ := hrel
    have hlk := HL.out k
    by_cases hlt : k < n
    ·have hst := HS.out k (by omega)
     have hks : k < t.size := by omega
     rw [getElem!_pos t k hks] at hst
     by_cases h10 : t[k] = 10
     ·have e10 := line_10 h10
      rw [if_pos h10] at hst
      clear h10
      go_wp2
      go_round
      case rel => exact ⟨k + 1, 1, by omega, by omega, by go_num, by rw [hst]; go_num, by go_num⟩
      case measure => simp [intOf]; omega
     ·have e10 := ne_10 h10
      rw [if_neg h10] at hst
      clear h10
      go_wp2
      go_round
      case rel => exact ⟨k + 1, c + 1, by omega, by omega, by go_num, by rw [hst]; go_num, by go_num⟩
      case measure => simp [intOf]; omega
    ·obtain rfl : k = n := by omega
     go_wp2
     refine bodyPost_ret (by simp [results, Tryz.results51, go_sem,]; try rfl) rfl ?_
     exact ⟨_, rfl, rfl⟩
  ·rw [lineP_no (by omega)]
   have g1 : (t.size : Int) < n := by omega
   go_enter func51, ntmps51
   go_wp2
   refine bodyPost_ret (by simp [results, Tryz.results51, go_sem,]; try rfl) rfl ?_
   exact ⟨_, rfl, rfl⟩
theorem lineN_no {t : ByteArray} {P : List Int} (hP : placesP t = P) {v : Int} (h : inB v 0 ((P.length : Int) - 1) = false) : lineN t v = 0 := by
 subst hP
 unfold lineN
 rw [if_neg]
 intro h2
 rw [show inB v 0 (((placesP t).length : Int) - 1) = true from decide_eq_true (by omega)] at h
 cases h
theorem lineN_yes {t : ByteArray} {P : List Int} (hP : placesP t = P) {v : Nat} {x : Int} (h : P[v]? = some x) : lineN t (v : Int) = lineP t x := by
 subst hP
 have hlt := (List.getElem?_eq_some_iff.1 h).1
 unfold lineN
 rw [if_pos (by omega), Int.toNat_natCast, List.getD_eq_getElem?_getD, h]
 rfl
theorem specLine_any (t : ByteArray) (A : Option Addr) (n c : Nat) (ps : List PN) (k : Int) (w : World) (ht : t.size ≤ 1048576) (hn : n ≤ 1048576) (hps : Nps w A n ps) (hb : Hid (PNs ps)) :
  Calls prog 20 #[.string t, .slice A n c, .int .i64 k] w fun e w' => e = .returned (.int .i64 (lineN t (firstV ps k))) ∧ Below w.heap.size w w' := by
 have HP := hid (fun W => specPlaces_any t W ht)
 have HF := hid (fun W (hW : Nps W A n ps) => specFirstSign_any A n c ps k W hn hW hb)
 have HX := hid (fun (x : Int) W => specPlaceOf_any t x W ht)
 have HN := hid hps
 generalize firstV ps k = v at HF ⊢
 have hlen : (placesP t).length ≤ 3000 := by
  rw [placesP_eq, List.length_map]
  exact leftP_len _ (signsP_len t)
 obtain ⟨P, hP⟩ : ∃ P, placesP t = P := ⟨_, rfl⟩
 rw [hP] at HP hlen
 have H0 := hid (fun h => lineN_no hP (v := v) h)
 have H1 := hid (fun (q : Nat) (x : Int) (e : v = q) h => show lineN t v = lineP t x by rw [e]; exact lineN_yes hP (v := q) (x := x) h)
 generalize lineN t v = Z at H0 H1 ⊢
 clear hP hps hb
 go_enter func20, ntmps20
 go_wp2_with fail
 refine (HF.out _ HN.out).mono ?_
 rintro e w1 ⟨rfl, h1⟩
 go_wp2_with fail
 refine (HP.out _).mono ?_
 rintro e w2 ⟨A1, c1, rfl, hm2, h2⟩
 have hb2 := below_next h1 h2
 clear HF HN h1 h2 HP
 cases hv : inB v 0 ((P.length : Int) - 1) with
 | false =>
  have HI := hid (fun W => l01In_is' hv W)
  have hZ := hid (H0.out hv)
  clear H0 H1 hv
  go_wp2_with fail
  refine (HI.out _).mono ?_
  rintro e w3 ⟨rfl, rfl⟩
  go_wp2
  go_ret
  exact ⟨ret_int hZ.out.symm, hb2⟩
 | true =>
  have HI := hid (fun W => l01In_is' hv W)
  have hv2 := of_decide_eq_true hv
  obtain ⟨q, rfl⟩ := Int.eq_ofNat_of_zero_le hv2.1
  have hq : q < P.length := by omega
  obtain ⟨x, hx⟩ : ∃ x, P[q]? = some x := ⟨_, List.getElem?_eq_getElem hq⟩
  have hZ := hid (H1.out q x rfl hx)
  obtain ⟨b, off, rfl, hblt, c0⟩ := int_at hm2.rd hq hx
  have HY := hid (HX.out x)
  clear H0 H1 hv hv2 HX hx hm2
  generalize lineP t x = L at HY hZ
  go_wp2_with fail
  refine (HI.out _).mono ?_
  rintro e w3 ⟨rfl, rfl⟩
  go_wp2_with fail
  refine (HY.out _).mono ?_
  rintro e w3 ⟨c3, rfl, rfl⟩
  go_wp2
  go_ret
  exact ⟨ret_int hZ.out.symm, hb2⟩
end Go.Proofs.YtgbikafalcbibaaGreatDoor

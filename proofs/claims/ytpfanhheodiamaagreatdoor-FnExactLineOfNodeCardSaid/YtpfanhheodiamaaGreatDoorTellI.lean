
/-
  Contracts: a node told, of the reference (spec.l07Flat.one), at every kind. Written by program (gen_telli.py).
-/
import Derived.Test.YtpfanhheodiamaaGreatDoorTellSo
namespace Go.Proofs.YtpfanhheodiamaaGreatDoor
open Go.RowKit
set_option linter.unusedVariables false
set_option linter.unusedSimpArgs false

set_option maxRecDepth 100000 in
set_option maxHeartbeats 6400000 in
theorem so_value (T Sb : Nat) (A : Option Addr) (n c : Nat) (w0 w : World) (ps : List PN) (f j : Nat) (x : PN) (s fin : TS) (hN : NodeC 21 46 T Sb A n c w0 ps f) (h : TL 46 T Sb A n c w0 s w) (hps : Nps w0 A n ps) (hjn : j < n) (hx : Hid (ps[j]? = some x)) (hv : Hid (∀ v ∈ x.kids, 0 ≤ v ∧ v < (f : Int) ∧ v < (n : Int))) (hk : 1 ≤ x.kind ∧ x.kind ≤ 11) (hlo : cntLo x.kind ≤ (x.kids.length : Int)) (hhi : (x.kids.length : Int) ≤ cntHi x.kind) (hL : LeftE (tellF ps f) (s.1, s.2.set j (s.1.length : Int)) (evs x) fin) :
    Calls Tryz.prog 21 #[.pointer (some ⟨T, 0, none⟩), .int .i64 j] w (Puts 46 T Sb A n c w0 w fin) := by
  obtain ⟨b, off, A', c', rfl, hblt, x0, x1, x2, x3, hcap, hr⟩ := hps.atc hjn hx.out
  have HVal := Lib.hid (fun (W : World) hT => specValue_node T Sb (some ⟨b, off, none⟩) n c w0 W ps f x A' c' _ _ hN hT hr hcap hv hk hlo hhi hL)
  have d12 : (x.kind == 12) = false := by rw [beq_eq_false_iff_ne]; omega
  have d13 : (x.kind == 13) = false := by rw [beq_eq_false_iff_ne]; omega
  have d14 : (x.kind == 14) = false := by rw [beq_eq_false_iff_ne]; omega
  have d15 : (x.kind == 15) = false := by rw [beq_eq_false_iff_ne]; omega
  have d16 : (x.kind == 16) = false := by rw [beq_eq_false_iff_ne]; omega
  have d17 : (x.kind == 17) = false := by rw [beq_eq_false_iff_ne]; omega
  have d18 : (x.kind == 18) = false := by rw [beq_eq_false_iff_ne]; omega
  have d19 : (x.kind == 19) = false := by rw [beq_eq_false_iff_ne]; omega
  have d20 : (x.kind == 20) = false := by rw [beq_eq_false_iff_ne]; omega
  have d21 : (x.kind == 21) = false := by rw [beq_eq_false_iff_ne]; omega
  have d22 : (x.kind == 22) = false := by rw [beq_eq_false_iff_ne]; omega
  clear hps hx hN hr hcap hv hk hlo hhi hL
  unfold Puts
  have HTT := Lib.hid h
  obtain ⟨AS, cS, hb, hmi, ho, h1, h2, h3, h4, h5, hbw⟩ := h
  have t1 := hb.cell 1
  have t2 := hb.cell 2
  have tz := hb.lt
  simp only [List.getElem?_toArray, List.getElem?_cons_zero, List.getElem?_cons_succ] at t1 t2
  have hoz := ho.lt
  obtain ⟨o0, e0⟩ := ho.there (i := j) hjn
  have hof := ho.frozen
  have gj : (j : Int) < n := by omega
  have gj0 : (0 : Int) ≤ (j : Int) := by omega
  clear hb hmi ho h1 h2 h3 h4 h5 hbw
  go_enter Tryz.func21, Tryz.ntmps21
  go_upto_region 1 with fail
  go_still_tail 11, (by kernel_rfl)
  change wpList _ _ _ _ _ w.drew
  go_upto_region 2 with fail
  have HT1 := Lib.hid (TL.start HTT.out hjn).drew
  have P1 : Kp T Sb w (w.setCell ⟨Sb, j, none⟩ (.int .i64 s.1.length)).drew := ((Kp.refl T Sb w).setS j _).drew
  clear t1 t2 tz hoz e0 hof HTT
  generalize (w.setCell ⟨Sb, j, none⟩ (.int .i64 s.1.length)).drew = W1 at HT1 P1 ⊢
  generalize hs0 : (s.1, s.2.set j (s.1.length : Int)) = S0 at HT1 HVal
  clear hs0
  have hT1 := HT1.out
  obtain ⟨AS', cS', hb, _⟩ := hT1
  have t0 := hb.cell 0
  simp only [List.getElem?_toArray, List.getElem?_cons_zero, List.getElem?_cons_succ] at t0
  have tz := hb.lt
  obtain ⟨hcw, hfw⟩ := bcell HT1.out.below
  have hz1 := HT1.out.below.size
  go_upto_region 3 with fail
  have K := Blk.new W1 48 #[.int .i64 x.kind, .string x.text, .slice A' x.kids.length c', .bool x.blank]
  have P : Kp T Sb w (W1.alloc (.cells #[.int .i64 x.kind, .string x.text, .slice A' x.kids.length c', .bool x.blank] 48)) := P1.alloc _
  have ht := Lib.hid (HT1.out.alloc (.cells #[.int .i64 x.kind, .string x.text, .slice A' x.kids.length c', .bool x.blank] 48))
  have zT := HT1.out.blkT
  have zS := HT1.out.blkS
  have gT : W1.heap.size ≠ T := by omega
  have gS : W1.heap.size ≠ Sb := by omega
  have zW : W1.heap.size < (W1.alloc (.cells #[.int .i64 x.kind, .string x.text, .slice A' x.kids.length c', .bool x.blank] 48)).heap.size := by simp
  clear hb t0 tz hcw hfw hz1 HT1 P1 x0 x1 x2 x3 hblt
  go_wp2_with fail
  refine (HVal.out _ ht.out).mono ?_
  rintro e w1 ⟨rfl, ht2, hk2⟩
  go_wp2
  go_end0
  exact ⟨rfl, ht2, P.trans hk2⟩
theorem so_other (T Sb : Nat) (A : Option Addr) (n c : Nat) (w0 w : World) (ps : List PN) (f j : Nat) (x : PN) (s fin : TS) (hN : NodeC 21 46 T Sb A n c w0 ps f) (h : TL 46 T Sb A n c w0 s w) (hps : Nps w0 A n ps) (hjn : j < n) (hx : Hid (ps[j]? = some x)) (hv : Hid (∀ v ∈ x.kids, 0 ≤ v ∧ v < (f : Int) ∧ v < (n : Int))) (hk : 12 ≤ x.kind ∧ x.kind ≤ 22) (hlo : cntLo x.kind ≤ (x.kids.length : Int)) (hhi : (x.kids.length : Int) ≤ cntHi x.kind) (hL : LeftE (tellF ps f) (s.1, s.2.set j (s.1.length : Int)) (evs x) fin) :
    Calls Tryz.prog 21 #[.pointer (some ⟨T, 0, none⟩), .int .i64 j] w (Puts 46 T Sb A n c w0 w fin) := by
  have hv0 : ∀ v ∈ x.kids, 0 ≤ v := fun v h => (hv.out v h).1
  obtain ⟨kind, text, l, z⟩ := x
  dsimp only at hv hk hlo hhi hv0
  have h2 : kind = 12 ∨ kind = 13 ∨ kind = 14 ∨ kind = 15 ∨ kind = 16 ∨ kind = 17 ∨ kind = 18 ∨ kind = 19 ∨ kind = 20 ∨ kind = 21 ∨ kind = 22 := by omega
  rcases h2 with rfl | rfl | rfl | rfl | rfl | rfl | rfl | rfl | rfl | rfl | rfl
  · have hlo' : (0 : Int) ≤ (l.length : Int) := hlo
    have hhi' : (l.length : Int) ≤ (1 : Int) := hhi
    clear hlo hhi
    by_cases h1 : l.length = 0
    · obtain rfl : l = [] := List.eq_nil_of_length_eq_zero h1
      exact so_12n T Sb A n c w0 w ps f text z j s fin hN h hps hjn hx hv hL
    · obtain ⟨va, rfl⟩ := lit1 (show l.length = 1 by omega) hv0
      exact so_12 T Sb A n c w0 w ps f text z j s fin va hN h hps hjn hx hv hL
  · have hlo' : (1 : Int) ≤ (l.length : Int) := hlo
    have hhi' : (l.length : Int) ≤ (1 : Int) := hhi
    clear hlo hhi
    obtain ⟨va, rfl⟩ := lit1 (show l.length = 1 by omega) hv0
    exact so_13 T Sb A n c w0 w ps f text z j s fin va hN h hps hjn hx hv hL
  · have hlo' : (1 : Int) ≤ (l.length : Int) := hlo
    have hhi' : (l.length : Int) ≤ (1 : Int) := hhi
    clear hlo hhi
    obtain ⟨va, rfl⟩ := lit1 (show l.length = 1 by omega) hv0
    exact so_14 T Sb A n c w0 w ps f text z j s fin va hN h hps hjn hx hv hL
  · have hlo' : (0 : Int) ≤ (l.length : Int) := hlo
    have hhi' : (l.length : Int) ≤ (1 : Int) := hhi
    clear hlo hhi
    exact so_15 T Sb A n c w0 w ps f text z j s fin l.length l (Lib.hid rfl) (by omega) (by omega) hN h hps hjn hx hv hL
  · have hlo' : (2 : Int) ≤ (l.length : Int) := hlo
    have hhi' : (l.length : Int) ≤ (3 : Int) := hhi
    clear hlo hhi
    by_cases h1 : l.length = 2
    · obtain ⟨va, vb, rfl⟩ := lit2 h1 hv0
      exact so_16 T Sb A n c w0 w ps f text z j s fin va vb hN h hps hjn hx hv hL
    · obtain ⟨va, vb, vc, rfl⟩ := lit3 (show l.length = 3 by omega) hv0
      exact so_16e T Sb A n c w0 w ps f text z j s fin va vb vc hN h hps hjn hx hv hL
  · have hlo' : (2 : Int) ≤ (l.length : Int) := hlo
    have hhi' : (l.length : Int) ≤ (2 : Int) := hhi
    clear hlo hhi
    obtain ⟨va, vb, rfl⟩ := lit2 (show l.length = 2 by omega) hv0
    exact so_17 T Sb A n c w0 w ps f text z j s fin va vb hN h hps hjn hx hv hL
  · have hlo' : (0 : Int) ≤ (l.length : Int) := hlo
    have hhi' : (l.length : Int) ≤ (12 : Int) := hhi
    clear hlo hhi
    exact so_18 T Sb A n c w0 w ps f text z j s fin l.length l (Lib.hid rfl) (by omega) (by omega) hN h hps hjn hx hv hL
  · have hlo' : (0 : Int) ≤ (l.length : Int) := hlo
    have hhi' : (l.length : Int) ≤ (0 : Int) := hhi
    clear hlo hhi
    exact so_19 T Sb A n c w0 w ps f text z j s fin l.length l (Lib.hid rfl) (by omega) (by omega) hN h hps hjn hx hv hL
  · have hlo' : (1 : Int) ≤ (l.length : Int) := hlo
    have hhi' : (l.length : Int) ≤ (12 : Int) := hhi
    clear hlo hhi
    exact so_20 T Sb A n c w0 w ps f text z j s fin l.length l (Lib.hid rfl) (by omega) (by omega) hN h hps hjn hx hv hL
  · have hlo' : (0 : Int) ≤ (l.length : Int) := hlo
    have hhi' : (l.length : Int) ≤ (12 : Int) := hhi
    clear hlo hhi
    exact so_21 T Sb A n c w0 w ps f text z j s fin l.length l (Lib.hid rfl) (by omega) (by omega) hN h hps hjn hx hv hL
  · have hlo' : (0 : Int) ≤ (l.length : Int) := hlo
    have hhi' : (l.length : Int) ≤ (12 : Int) := hhi
    clear hlo hhi
    exact so_22 T Sb A n c w0 w ps f text z j s fin l.length l (Lib.hid rfl) (by omega) (by omega) hN h hps hjn hx hv (by rw [List.append_nil]; exact hL)
theorem specOne_all (T Sb : Nat) (A : Option Addr) (n c : Nat) (w0 : World) (ps : List PN) (hps : Nps w0 A n ps) (hnb : ∀ j, j < n → nodeB ps j = true) : ∀ f, NodeC 21 46 T Sb A n c w0 ps f := by
  intro f
  induction f with
  | zero => intro j s w hj; omega
  | succ f ih =>
    intro j s w hj hjn hT hS
    obtain ⟨x, hx⟩ := hps.get hjn
    have hL : LeftE (tellF ps f) (s.1, s.2.set j (s.1.length : Int)) (evs x) (tellF ps (f + 1) j s) := ⟨tellF_mono ps f, (tellF_step hx s).symm, hS⟩
    obtain ⟨hkd, hlo, hhi⟩ := node_shape (hnb j hjn) hx
    have hv : Hid (∀ v ∈ x.kids, 0 ≤ v ∧ v < (f : Int) ∧ v < (n : Int)) := (show ∀ v ∈ x.kids, _ from fun v hv => by have := nodeB_kid (hnb j hjn) hx hv; omega)
    by_cases hk : x.kind ≤ 11
    · exact so_value T Sb A n c w0 w ps f j x s _ ih hT hps hjn (Lib.hid hx) hv ⟨hkd.1, hk⟩ hlo hhi hL
    · exact so_other T Sb A n c w0 w ps f j x s _ ih hT hps hjn (Lib.hid hx) hv ⟨by omega, hkd.2⟩ hlo hhi hL
end Go.Proofs.YtpfanhheodiamaaGreatDoor

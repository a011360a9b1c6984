
/-
  Contracts: a node told (impl.teller.node), and all of a tree (impl.tell).
-/
import Derived.Test.YtpfanhheodiamaaGreatDoorTellF
import Derived.Outline
import Derived.Deep.Cut
namespace Go.Proofs.YtpfanhheodiamaaGreatDoor
open Go.RowKit
set_option linter.unusedVariables false
set_option linter.unusedSimpArgs false

section
variable {ty : TypeId} {T Sb : Nat} {A : Option Addr} {n c : Nat} {w0 w w' : World} {s : TS}
theorem TL.drew (h : TL ty T Sb A n c w0 s w) : TL ty T Sb A n c w0 s w.drew := by
  obtain ⟨AS, cS, hb, hm, ho, h1, h2, h3, h4, h5, hbw⟩ := h
  exact ⟨AS, cS, hb.drew, hm.drew, ho.drew, h1, h2, h3, h4, h5, hbw.drew⟩
theorem Kp.drew (h : Kp T Sb w w') : Kp T Sb w w'.drew := ⟨h.1, fun g t cs hb h1 h2 h3 => (h.2 g t cs hb h1 h2 h3).drew⟩
theorem Kp.setS (h : Kp T Sb w w') (i : Nat) (u : Value) : Kp T Sb w (w'.setCell ⟨Sb, i, none⟩ u) := ⟨Nat.le_trans h.1 (by simp [World.setCell]), fun g t cs hb h1 h2 h3 => (h.2 g t cs hb h1 h2 h3).far h2 u⟩
/-- A node's beginning laid down. -/
theorem TL.start (h : TL ty T Sb A n c w0 s w) {k : Nat} (hk : k < n) : TL ty T Sb A n c w0 (s.1, s.2.set k (s.1.length : Int)) (w.setCell ⟨Sb, k, none⟩ (.int .i64 s.1.length)) := by
  obtain ⟨AS, cS, hb, hm, ho, h1, h2, h3, h4, h5, hbw⟩ := h
  refine ⟨AS, cS, hb.far h2 _, ?_, ?_, by simp [h1], h2, h3, h4, h5, hbw.setCell h4 _⟩
  · rcases hm.own with ⟨e1, e2, e3⟩ | ⟨g, rfl, hB, hn', hc', ho'⟩
    · have hnil : s.1 = [] := List.eq_nil_of_length_eq_zero e2
      subst e1
      subst e3
      rw [hnil]
      exact Mine.mk_nil _ _ _ _
    · exact Mine.mk_own (ho'.far (h5 g rfl).2 _) hm.len hB hn' hc'
  · have := ho.put (i := k) (by simp [intCells, h1]; exact hk) (.int .i64 (s.1.length : Int))
    unfold intCells at this ⊢
    rw [List.map_set]
    exact this
end
theorem node_shape {ps : List PN} {k : Nat} {x : PN} (hb : nodeB ps k = true) (hx : ps[k]? = some x) : (1 ≤ x.kind ∧ x.kind ≤ 22) ∧ cntLo x.kind ≤ (x.kids.length : Int) ∧ (x.kids.length : Int) ≤ cntHi x.kind := by
  rw [← nodes_agree] at hb
  unfold specNB at hb
  rw [hx] at hb
  simp only [Bool.and_eq_true] at hb
  exact ⟨of_decide_eq_true hb.1, of_decide_eq_true hb.2.1⟩
set_option maxRecDepth 100000 in
set_option maxHeartbeats 6400000 in
theorem implNode_step (T Sb : Nat) (A : Option Addr) (n c : Nat) (w0 w : World) (ps : List PN) (f j : Nat) (s : TS) (hN : NodeC 54 52 T Sb A n c w0 ps f) (hjf : j < f + 1) (hjn : j < n) (h : TL 52 T Sb A n c w0 s w) (hps : Nps w0 A n ps) (hnb : nodeB ps j = true) (hS : (tellF ps (f + 1) j s).1.length ≤ 1000000) :
    Calls Tryz.prog 54 #[.pointer (some ⟨T, 0, none⟩), .int .i64 j] w (Puts 52 T Sb A n c w0 w (tellF ps (f + 1) j s)) := by
  obtain ⟨x, hx⟩ := hps.get hjn
  have hL := Lib.hid (show LeftE (tellF ps f) (s.1, s.2.set j (s.1.length : Int)) (evs x) (tellF ps (f + 1) j s) from ⟨tellF_mono ps f, (tellF_step hx s).symm, hS⟩)
  obtain ⟨hkd, hlo, hhi⟩ := node_shape hnb hx
  have hv : Hid (∀ v ∈ x.kids, 0 ≤ v ∧ v < (f : Int) ∧ v < (n : Int)) := (show ∀ v ∈ x.kids, _ from fun v hv => by have := nodeB_kid hnb hx hv; omega)
  obtain ⟨b, off, A2, c2, rfl, hblt, x0, x1, x2, x3, hcap, hxr⟩ := hps.atc hjn hx
  have hlen := h.len
  obtain ⟨hcw, hfw⟩ := bcell h.below
  have HVal := Lib.hid (fun (W : World) hT (hk : 1 ≤ x.kind ∧ x.kind ≤ 11) => implValue_any T Sb (some ⟨b, off, none⟩) n c w0 W ps f x A2 c2 _ _ hN hT hxr hcap hv hk hlo hhi hL.out)
  have HOth := Lib.hid (fun (W : World) hT (hk : 12 ≤ x.kind ∧ x.kind ≤ 22) => implOther_any T Sb (some ⟨b, off, none⟩) n c w0 W ps f x A2 c2 _ _ hN hT hxr hcap hv hk hlo hhi hL.out)
  have hT0 := h
  generalize tellF ps (f + 1) j s = fin at HVal HOth hS ⊢
  obtain ⟨AS, cS, hb, hm, ho, h1, h2, h3, h4, h5, hbw⟩ := h
  have t0 := hb.cell 0
  have t1 := hb.cell 1
  have t2 := hb.cell 2
  have tz := hb.lt
  simp only [List.getElem?_toArray, List.getElem?_cons_zero, List.getElem?_cons_succ] at t0 t1 t2
  have hz0 := hbw.size
  have hoz := ho.lt
  obtain ⟨o0, e0⟩ := ho.there (i := j) hjn
  have hof := ho.frozen
  have gj : (j : Int) < n := by omega
  have gj0 : (0 : Int) ≤ (j : Int) := by omega
  have HTT := Lib.hid hT0
  clear hL hS hps hx hnb hm ho h5 hbw hb hT0 hxr hN hlen
  unfold Puts
  go_enter Tryz.func54, Tryz.ntmps54
  go_upto_region 1 with fail
  have HTA := Lib.hid (HTT.out.alloc (.cells #[.int .i64 x.kind, .string x.text, .slice A2 x.kids.length c2, .bool x.blank] 48))
  have KA := Lib.hid (Blk.new w 48 #[.int .i64 x.kind, .string x.text, .slice A2 x.kids.length c2, .bool x.blank])
  have PA : Kp T Sb w (w.alloc (.cells #[.int .i64 x.kind, .string x.text, .slice A2 x.kids.length c2, .bool x.blank] 48)) := (Kp.refl T Sb w).alloc _
  have gS : w.heap.size ≠ Sb := by omega
  clear t0 t1 t2 tz hcw hfw hblt x0 x1 x2 x3 e0 hof hoz hz0
  generalize (w.alloc (.cells #[.int .i64 x.kind, .string x.text, .slice A2 x.kids.length c2, .bool x.blank] 48)) = W at HTA KA PA ⊢
  have HTA2 := HTA.out
  obtain ⟨AS', cS', hb, hm, ho, h1', h2', h3', h4', h5', hbw⟩ := HTA2
  have t1 := hb.cell 1
  have t2 := hb.cell 2
  have tz := hb.lt
  simp only [List.getElem?_toArray, List.getElem?_cons_zero, List.getElem?_cons_succ] at t1 t2
  have hoz := ho.lt
  obtain ⟨o0, e0⟩ := ho.there (i := j) hjn
  have hof := ho.frozen
  have kA0 := KA.out.cell 0
  clear hb hm ho h1' h2' h3' h4' h5' hbw
  go_still_tail 11, (by kernel_rfl)
  change wpList _ _ _ _ _ W.drew
  have HST := Lib.hid (TL.start HTA.out hjn).drew
  have HKP : Kp T Sb w (W.setCell ⟨Sb, j, none⟩ (.int .i64 s.1.length)).drew := (PA.setS j _).drew
  have K1 : Blk (W.setCell ⟨Sb, j, none⟩ (.int .i64 s.1.length)).drew w.heap.size 48 #[.int .i64 x.kind, .string x.text, .slice A2 x.kids.length c2, .bool x.blank] := (KA.out.far gS _).drew
  have q0 := K1.cell 0
  have q1 := K1.cell 1
  have q2 := K1.cell 2
  have q3 := K1.cell 3
  have qz := K1.lt
  simp only [List.getElem?_toArray, List.getElem?_cons_zero, List.getElem?_cons_succ] at q0 q1 q2 q3
  cases hvk : valueK x.kind with
  | true =>
    have hk : 1 ≤ x.kind ∧ x.kind ≤ 11 := of_decide_eq_true hvk
    have HV := Lib.hid (fun W => show Calls Tryz.prog 76 #[.int .i64 x.kind] W fun e w' => e = .returned (.bool true) ∧ W = w' by rw [← hvk]; exact isValue_any x.kind W)
    have HF := Lib.hid (HVal.out _ HST.out hk)
    clear HVal HOth hvk HST
    go_wp2_with fail
    refine (HV.out _).mono ?_
    rintro e w1 ⟨rfl, rfl⟩
    go_wp2_with fail
    refine HF.out.mono ?_
    rintro e w2 ⟨rfl, ht2, hk2⟩
    go_wp2
    go_end0
    exact ⟨rfl, ht2, HKP.trans hk2⟩
  | false =>
    have hk0 : ¬ (1 ≤ x.kind ∧ x.kind ≤ 11) := of_decide_eq_false hvk
    have hk : 12 ≤ x.kind ∧ x.kind ≤ 22 := by omega
    have HV := Lib.hid (fun W => show Calls Tryz.prog 76 #[.int .i64 x.kind] W fun e w' => e = .returned (.bool false) ∧ W = w' by rw [← hvk]; exact isValue_any x.kind W)
    have HF := Lib.hid (HOth.out _ HST.out hk)
    clear HVal HOth hvk HST
    go_wp2_with fail
    refine (HV.out _).mono ?_
    rintro e w1 ⟨rfl, rfl⟩
    go_wp2_with fail
    refine HF.out.mono ?_
    rintro e w2 ⟨rfl, ht2, hk2⟩
    go_wp2
    go_end0
    exact ⟨rfl, ht2, HKP.trans hk2⟩
theorem implNode_all (T Sb : Nat) (A : Option Addr) (n c : Nat) (w0 : World) (ps : List PN) (hps : Nps w0 A n ps) (hnb : ∀ j, j < n → nodeB ps j = true) : ∀ f, NodeC 54 52 T Sb A n c w0 ps f := by
  intro f
  induction f with
  | zero => intro j s w hj; omega
  | succ f ih => intro j s w hj hjn hT hS; exact implNode_step T Sb A n c w0 w ps f j s ih hj hjn hT hps (hnb j hjn) hS
end Go.Proofs.YtpfanhheodiamaaGreatDoor

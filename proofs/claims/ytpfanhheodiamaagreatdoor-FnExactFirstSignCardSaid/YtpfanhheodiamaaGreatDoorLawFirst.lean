
/-
  LawFirst put together (merge.py): TellW, TellX, LawFirst.
-/
import Derived.Test.YtpfanhheodiamaaGreatDoorTellV
namespace Go.Proofs.YtpfanhheodiamaaGreatDoor
open Go.RowKit
set_option linter.unusedVariables false
set_option linter.unusedSimpArgs false

theorem tree_facts {ps : List PN} (h : treeB ps = true) : ∃ m, ps.length = m + 1 ∧ m + 1 ≤ 300 ∧ (∀ j, j < m + 1 → nodeB ps j = true) ∧ ∀ st, (tellF ps (m + 1) m ([], st)).1.length ≤ 1000000 := by
  unfold treeB at h
  simp only [Bool.and_eq_true] at h
  obtain ⟨h1, h2, h3, h4⟩ := h
  have h1' := of_decide_eq_true h1
  obtain ⟨m, hm⟩ : ∃ m, ps.length = m + 1 := ⟨ps.length - 1, by omega⟩
  have hd : ¬ deepV ps (ps.length - 1) = 0 := by
    intro e; rw [e] at h3; cases h3
  have hg := good_of hd
  have hall : ∀ j, j < m + 1 → nodeB ps j = true := fun j hj => deep_all hd j (by omega)
  have hu : usedTo ps (m + 1) m := by
    intro i hi
    unfold usedB at h4
    rw [List.all_eq_true, hm] at h4
    have := h4 i (List.mem_range.2 (by omega))
    simpa using this
  have hsh : ∀ (k : Nat) (p : PN), ps[k]? = some p → Shaped p := fun k p hp => by
    have hk := (List.getElem?_eq_some_iff.1 hp).1
    obtain ⟨a, b, c⟩ := node_shape (hall k (by omega)) hp
    exact shaped_of a b c
  refine ⟨m, hm, by omega, hall, fun st => ?_⟩
  have hl := tellF_len hsh (m + 1) m ([], st)
  have hv : visF ps (m + 1) m = m + 1 := visV_root hg hm hu
  rw [hv] at hl
  simp only [List.length_nil] at hl
  omega
/-- What a tree tells. -/
def toldS (ps : List PN) : TS := tellF ps ps.length (ps.length - 1) ([], List.replicate ps.length 0)
/-- How many signs stand ahead of node k; -1 where there is no tree or no such node. -/
def firstV (ps : List PN) (k : Int) : Int := if treeB ps = true ∧ 0 ≤ k ∧ k < (ps.length : Int) then (toldS ps).2.getD k.toNat 0 else -1
theorem TL.init (ty : TypeId) (hty : ty ≠ 73) (A : Option Addr) (n c : Nat) (w : World) : TL ty (w.heap.size + 1) w.heap.size A n c w ([], List.replicate n 0) ((w.alloc (.cells (madeCells #[.int .i64 0] n) 3)).alloc (.cells #[.slice A n c, .slice none 0 0, .slice (some ⟨w.heap.size, 0, none⟩) n n] ty)) := by
  have hb := Blk.new (w.alloc (.cells (madeCells #[.int .i64 0] n) 3)) ty #[.slice A n c, .slice none 0 0, .slice (some ⟨w.heap.size, 0, none⟩) n n]
  rw [World.size_alloc] at hb
  exact ⟨none, 0, hb, Mine.mk_nil _ _ _ _, (Own.zeros n).alloc _, by simp, by omega, by omega, Nat.le_refl _, fun g hg => by simp at hg, (by repeat' (first | (with_reducible exact Below.refl _ _) | (with_reducible assumption) | (with_reducible refine below_drewN ?_ _) | (with_reducible refine Below.drew ?_) | (with_reducible refine Below.alloc ?_ ?_ _) | (with_reducible refine Below.setCell ?_ ?_ _) | go_size))⟩
set_option maxRecDepth 100000 in
set_option maxHeartbeats 3200000 in
theorem implTell_any (A : Option Addr) (n c : Nat) (ps : List PN) (w : World) (hn : n ≤ 1048576) (hps : Nps w A n ps) (htree : treeB ps = true) :
    Calls Tryz.prog 25 #[.slice A n c] w fun e w' => e = .returned (.pointer (some ⟨w.heap.size + 1, 0, none⟩)) ∧ TL 52 (w.heap.size + 1) w.heap.size A n c w (toldS ps) w' := by
  obtain ⟨m, hm, hm300, hall, hlen⟩ := tree_facts htree
  have hl := hps.len
  obtain rfl : n = m + 1 := by omega
  have HND := Lib.hid (implNode_all (w.heap.size + 1) w.heap.size A (m + 1) c w ps hps hall (m + 1) m ([], List.replicate (m + 1) 0) _ (by omega) (by omega) (TL.init 52 (by decide) A (m + 1) c w) (hlen _))
  have hts : toldS ps = tellF ps (m + 1) m ([], List.replicate (m + 1) 0) := by unfold toldS; rw [hm, Nat.add_sub_cancel]
  rw [hts]
  obtain ⟨i0, hi, hz0, hz1, hz2⟩ := info_parts infoInt
  have hmk := fun W => run_make_rowN (P := Tryz.prog) 38 3 i0 _ Tryz.underlying38 hi hz0 .i64 .i64 (m + 1) (m + 1) (Nat.le_refl _) (by rw [hz2]; omega) (by omega) W
  rw [hz1, Nat.mul_one] at hmk
  simp only [Value.cells] at hmk
  have e9 : ((m + 1 : Nat) : Int) = (m : Int) + 1 := by omega
  have e8 : (m : Int) + 1 - 1 = (m : Int) := by omega
  rw [e9] at hmk
  generalize tellF ps (m + 1) m ([], List.replicate (m + 1) 0) = fin at HND ⊢
  clear hi hz0 hz1 hz2 hall hlen hts hps
  go_enter Tryz.func25, Tryz.ntmps25
  go_wp2_with fail
  refine HND.out.mono ?_
  rintro e w2 ⟨rfl, ht, hk⟩
  clear hmk
  go_wp2
  go_ret
  exact ⟨rfl, ht⟩
set_option maxRecDepth 100000 in
set_option maxHeartbeats 3200000 in
theorem implFirstSign_any (A : Option Addr) (n c : Nat) (ps : List PN) (k : Int) (w : World) (hn : n ≤ 1048576) (hps : Nps w A n ps) (hb : Hid (PNs ps)) :
    Calls Tryz.prog 9 #[.slice A n c, .int .i64 k] w fun e w' => e = .returned (.int .i64 (firstV ps k)) ∧ Below w.heap.size w w' := by
  have hl := hps.len
  by_cases hk : 0 ≤ k ∧ k < (n : Int)
  · obtain ⟨q, rfl⟩ := Int.eq_ofNat_of_zero_le hk.1
    have hqn : q < n := by omega
    have HN := Lib.hid (fun W => isNode_is (n := n) (show inB (q : Int) 0 ((n : Int) - 1) = true from decide_eq_true (by omega)) A c W)
    have HT := Lib.hid (fun (v : Bool) (h : treeB ps = v) => show Calls Tryz.prog 24 #[.slice A n c] w fun e w' => e = .returned (.bool v) ∧ Below w.heap.size w w' by rw [← h]; exact implTreeOk_any A n c ps w hn hps hb)
    cases htr : treeB ps with
    | false =>
      have hf : firstV ps (q : Int) = -1 := by unfold firstV; rw [if_neg (by rw [htr]; simp)]
      rw [hf]
      have HT2 := Lib.hid (HT.out _ htr)
      clear HT htr hf
      go_enter Tryz.func9, Tryz.ntmps9
      go_wp2_with fail
      refine (HN.out _).mono ?_
      rintro e w1 ⟨rfl, rfl⟩
      go_wp2_with fail
      refine (HT2.out).mono ?_
      rintro e w2 ⟨rfl, h2⟩
      go_wp2
      go_ret
      exact ⟨rfl, h2⟩
    | true =>
      have hf : firstV ps (q : Int) = (toldS ps).2.getD q 0 := by unfold firstV; rw [if_pos ⟨htr, hk.1, by rw [hl]; exact hk.2⟩, Int.toNat_natCast]
      rw [hf]
      have HT2 := Lib.hid (HT.out _ htr)
      have HTE := Lib.hid (fun (W : World) (hW : Below w.heap.size w W) => implTell_any A n c ps W hn (hps.next hW) htr)
      clear HT htr hf
      generalize toldS ps = fin at HTE ⊢
      go_enter Tryz.func9, Tryz.ntmps9
      go_wp2_with fail
      refine (HN.out _).mono ?_
      rintro e w1 ⟨rfl, rfl⟩
      go_wp2_with fail
      refine (HT2.out).mono ?_
      rintro e w2 ⟨rfl, h2⟩
      go_wp2_with fail
      refine (HTE.out _ h2).mono ?_
      rintro e w3 ⟨rfl, ht⟩
      have hbw := below_next h2 ht.below
      have hlen := ht.len
      obtain ⟨AS, cS, hbk, _, ho, _⟩ := ht
      obtain ⟨x, hx⟩ : ∃ x, fin.2[q]? = some x := ⟨_, List.getElem?_eq_getElem (by omega)⟩
      have hgd : fin.2.getD q 0 = x := by rw [List.getD_eq_getElem?_getD, hx]; rfl
      have HGD := Lib.hid hgd
      obtain ⟨b6, off6, e6, hblt6, cq⟩ := int_at (ho.rd (size := 1) (n := n) (by simp [intCells, hlen])) hqn hx
      injection e6 with e6
      injection e6 with e61 e62
      subst e61; subst e62
      simp only [Nat.zero_add] at cq
      have t2 := hbk.cell 2
      simp only [List.getElem?_toArray, List.getElem?_cons_zero, List.getElem?_cons_succ] at t2
      have tz := hbk.lt
      have gq : (q : Int) < n := by omega
      clear HTE HN HT2 hbk ho hlen hgd hx
      go_wp2
      go_ret
      exact ⟨ret_int HGD.out.symm, hbw⟩
  · have HN := Lib.hid (fun W => isNode_is (n := n) (show inB k 0 ((n : Int) - 1) = false from decide_eq_false (by omega)) A c W)
    have hf : firstV ps k = -1 := by unfold firstV; rw [if_neg (by rw [hl]; exact fun h => hk h.2)]
    rw [hf]
    go_enter Tryz.func9, Tryz.ntmps9
    go_wp2_with fail
    refine (HN.out _).mono ?_
    rintro e w1 ⟨rfl, rfl⟩
    go_wp2
    go_ret
    exact ⟨rfl, (by repeat' (first | (with_reducible exact Below.refl _ _) | (with_reducible assumption) | (with_reducible refine below_drewN ?_ _) | (with_reducible refine Below.drew ?_) | (with_reducible refine Below.alloc ?_ ?_ _) | (with_reducible refine Below.setCell ?_ ?_ _) | go_size))⟩
set_option maxRecDepth 100000 in
set_option maxHeartbeats 3200000 in
theorem specFirstSign_any (A : Option Addr) (n c : Nat) (ps : List PN) (k : Int) (w : World) (hn : n ≤ 1048576) (hps : Nps w A n ps) (hb : Hid (PNs ps)) :
    Calls Tryz.prog 7 #[.slice A n c, .int .i64 k] w fun e w' => e = .returned (.int .i64 (firstV ps k)) ∧ Below w.heap.size w w' := by
  have hl := hps.len
  have HT := Lib.hid (fun (v : Bool) (h : treeB ps = v) => show Calls Tryz.prog 19 #[.slice A n c] w fun e w' => e = .returned (.bool v) ∧ Below w.heap.size w w' by rw [← h]; exact specTreeOk_any A n c ps w hn hps hb)
  cases htr : treeB ps with
  | false =>
    have hf : firstV ps k = -1 := by unfold firstV; rw [if_neg (by rw [htr]; simp)]
    rw [hf]
    have HT2 := Lib.hid (HT.out _ htr)
    clear HT htr hf
    go_enter Tryz.func7, Tryz.ntmps7
    go_wp2_with fail
    refine (HT2.out).mono ?_
    rintro e w2 ⟨rfl, h2⟩
    go_wp2
    go_ret
    exact ⟨rfl, h2⟩
  | true =>
    have HT2 := Lib.hid (HT.out _ htr)
    by_cases hk : 0 ≤ k ∧ k < (n : Int)
    · obtain ⟨q, rfl⟩ := Int.eq_ofNat_of_zero_le hk.1
      have hqn : q < n := by omega
      have hf : firstV ps (q : Int) = (toldS ps).2.getD q 0 := by unfold firstV; rw [if_pos ⟨htr, hk.1, by rw [hl]; exact hk.2⟩, Int.toNat_natCast]
      rw [hf]
      obtain ⟨m, hm, hm300, hall, hlen0⟩ := tree_facts htr
      obtain rfl : n = m + 1 := by omega
      have HI := Lib.hid (fun W => l01In_is' (show inB (q : Int) 0 (m : Int) = true from decide_eq_true (by omega)) W)
      have HND := Lib.hid (fun (W : World) (hW : Below w.heap.size w W) => specOne_all (W.heap.size + 1) W.heap.size A (m + 1) c W ps (hps.next hW) hall (m + 1) m ([], List.replicate (m + 1) 0) _ (by omega) (by omega) (TL.init 46 (by decide) A (m + 1) c W) (hlen0 _))
      have hts : toldS ps = tellF ps (m + 1) m ([], List.replicate (m + 1) 0) := by unfold toldS; rw [hm, Nat.add_sub_cancel]
      rw [hts]
      obtain ⟨i0, hi, hz0, hz1, hz2⟩ := info_parts infoInt
      have hmk := fun W => run_make_rowN (P := Tryz.prog) 38 3 i0 _ Tryz.underlying38 hi hz0 .i64 .i64 (m + 1) (m + 1) (Nat.le_refl _) (by rw [hz2]; omega) (by omega) W
      rw [hz1, Nat.mul_one] at hmk
      simp only [Value.cells] at hmk
      have e9 : ((m + 1 : Nat) : Int) = (m : Int) + 1 := by omega
      have e8 : (m : Int) + 1 - 1 = (m : Int) := by omega
      rw [e9] at hmk
      generalize tellF ps (m + 1) m ([], List.replicate (m + 1) 0) = fin at HND ⊢
      have gq : (q : Int) < (m : Int) + 1 := by omega
      clear hi hz0 hz1 hz2 hall hlen0 hts hf HT htr hps hk hm hl hb hn
      go_enter Tryz.func7, Tryz.ntmps7
      go_wp2_with fail
      refine (HT2.out).mono ?_
      rintro e w2 ⟨rfl, h2⟩
      go_wp2_with fail
      refine (HI.out _).mono ?_
      rintro e w1 ⟨rfl, rfl⟩
      go_wp2_with fail
      refine (HND.out w2 h2).mono ?_
      rintro e w3 ⟨rfl, ht, hkp⟩
      clear hmk
      have hbw := below_next h2 ht.below
      have hlen := ht.len
      obtain ⟨AS, cS, hbk, _, ho, _⟩ := ht
      obtain ⟨x, hx⟩ : ∃ x, fin.2[q]? = some x := ⟨_, List.getElem?_eq_getElem (by omega)⟩
      have hgd : fin.2.getD q 0 = x := by rw [List.getD_eq_getElem?_getD, hx]; rfl
      have HGD := Lib.hid hgd
      obtain ⟨b6, off6, e6, hblt6, cq⟩ := int_at (ho.rd (size := 1) (n := m + 1) (by simp [intCells, hlen])) hqn hx
      injection e6 with e6
      injection e6 with e61 e62
      subst e61; subst e62
      simp only [Nat.zero_add] at cq
      have t2 := hbk.cell 2
      simp only [List.getElem?_toArray, List.getElem?_cons_zero, List.getElem?_cons_succ] at t2
      have tz := hbk.lt
      clear HND HI HT2 hbk ho hlen hgd hx hkp
      go_wp2
      go_ret
      exact ⟨ret_int HGD.out.symm, hbw⟩
    · have HI := Lib.hid (fun W => l01In_is' (show inB k 0 ((n : Int) - 1) = false from decide_eq_false (by omega)) W)
      have hf : firstV ps k = -1 := by unfold firstV; rw [if_neg (by rw [hl]; exact fun h => hk h.2)]
      rw [hf]
      clear HT htr hf
      go_enter Tryz.func7, Tryz.ntmps7
      go_wp2_with fail
      refine (HT2.out).mono ?_
      rintro e w2 ⟨rfl, h2⟩
      go_wp2_with fail
      refine (HI.out _).mono ?_
      rintro e w1 ⟨rfl, rfl⟩
      go_wp2
      go_ret
      exact ⟨rfl, h2⟩
theorem nodes_small {l : List Nd} (h : (szNodeL l : Nat) ≤ 1048576) : l.length ≤ 1048576 ∧ ∀ d ∈ l, d.text.size ≤ 1048576 ∧ d.cnt ≤ 1048576 := by
  unfold szNodeL at h
  refine ⟨by omega, fun d hd => ?_⟩
  have := mem_le_sum szNode hd
  have e : szNode d = d.text.size + d.cnt := rfl
  constructor <;> omega
theorem pns_of {w : World} {A : Option Addr} {n : Nat} {l : List Nd} (hr : Nds w A n l) (h : ∀ d ∈ l, d.text.size ≤ 1048576 ∧ d.cnt ≤ 1048576) : PNs (l.map Nd.pn) := fun p hp => by
  obtain ⟨d, hd, rfl⟩ := List.mem_map.1 hp
  have hc := hr.cnt hd
  exact ⟨(h d hd).1, show d.kids.length ≤ 1048576 by rw [hc]; exact (h d hd).2⟩
set_option maxRecDepth 100000 in
set_option maxHeartbeats 3200000 in
theorem lawFirst (A : Option Addr) (n c : Nat) (l : List Nd) (k : Int) (w : World) (hh : n ≤ maxLen ∧ Nds w A n l ∧ ∀ d ∈ l, OkNode d) :
    Calls Tryz.prog 3 #[.slice A n c, .int .i64 k] w fun e w' => e = .returned (.bool true) ∧ Below w.heap.size w w' := by
  obtain ⟨hn, hr, hok⟩ := hh
  have hl := hr.len
  by_cases hz : (szNodeL l : Nat) ≤ 1048576
  · obtain ⟨hn1, hsm⟩ := nodes_small hz
    have hn2 : n ≤ 1048576 := by omega
    have HPN := Lib.hid (pns_of hr hsm)
    have HSM : Hid (∀ d ∈ l, d.cnt ≤ 1048576) := (show ∀ d ∈ l, _ from fun d hd => (hsm d hd).2)
    have HK : Hid (∀ p ∈ l.map Nd.pn, p.kids.length ≤ 4194304) := (show ∀ p ∈ l.map Nd.pn, _ from fun p hp => by have := (HPN.out p hp).2; omega)
    have HR := Lib.hid hr
    have HZ := Lib.hid (fun W (hW : Below w.heap.size w W) => szNodeS_ok A n c l 1048576 W (by omega) hl (hr.next hW) (by omega))
    have hpos : ¬ ((1048576 : Int) - (szNodeL l : Nat) < 0) := by omega
    have HT := Lib.hid (fun W (hW : Below w.heap.size w W) => toNodeS_any A n c l W hn2 (hr.next hW) HSM)
    have HS := Lib.hid (fun W B c2 hW => specFirstSign_any B n c2 (l.map Nd.pn) k W hn2 hW HPN)
    have HI := Lib.hid (fun W B c2 hW => implFirstSign_any B n c2 (l.map Nd.pn) k W hn2 hW HPN)
    have HE := Lib.hid (fun W B C c2 c3 hB hC => eqNodeS_same B C n c2 c3 (l.map Nd.pn) W (by omega) hB hC HK)
    generalize firstV (l.map Nd.pn) k = V at HS HI
    generalize l.map Nd.pn = ps at HT HS HI HE
    generalize szNodeL l = Z at HZ hpos
    clear hr hok hsm hz hn1 hl HR HPN HK HSM hn
    go_enter Tryz.func3, Tryz.ntmps3
    go_wp2_with fail
    refine (HZ.out _ (Below.refl _ _)).mono ?_
    rintro e w1 ⟨rfl, h1⟩
    go_wp2_with fail
    refine (HT.out _ h1).mono ?_
    rintro e w2 ⟨l2, rfl, _, _, hp2, h2⟩
    have hb2 := below_next h1 h2
    go_wp2_with fail
    refine (HS.out _ _ _ hp2).mono ?_
    rintro e w3 ⟨rfl, h3⟩
    have hb3 := below_next hb2 h3
    clear hp2
    go_wp2_with fail
    refine (HT.out _ hb3).mono ?_
    rintro e w4 ⟨l4, rfl, _, _, hp4, h4⟩
    have hb4 := below_next hb3 h4
    go_wp2_with fail
    refine (HI.out _ _ _ hp4).mono ?_
    rintro e w5 ⟨rfl, h5⟩
    have hb5 := below_next hb4 h5
    have hp5 := hp4.next h5
    go_wp2_with fail
    refine (HT.out _ hb5).mono ?_
    rintro e w6 ⟨l6, rfl, _, _, hp6, h6⟩
    have hb6 := below_next hb5 h6
    have hp56 := hp5.next h6
    go_wp2_with fail
    refine (HE.out _ _ _ _ _ hp56 hp6).mono ?_
    rintro e w7 ⟨rfl, h7⟩
    go_wp2
    go_ret
    exact ⟨rfl, below_next hb6 h7⟩
  · have HZ := Lib.hid (szNodeS_big A n c l 1048576 w (by omega) (by omega) hn hl hr hok (by omega))
    clear hr hok hn
    go_enter Tryz.func3, Tryz.ntmps3
    go_wp2_with fail
    refine HZ.out.mono ?_
    rintro e w1 ⟨rfl, h1⟩
    go_wp2
    go_ret
    exact ⟨rfl, h1⟩
end Go.Proofs.YtpfanhheodiamaaGreatDoor

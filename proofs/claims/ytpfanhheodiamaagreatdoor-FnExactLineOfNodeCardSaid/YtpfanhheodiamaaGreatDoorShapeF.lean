
/-
  Contracts: is a node right (impl.NodeOk).
-/
import Derived.Test.YtpfanhheodiamaaGreatDoorShapeD
import Derived.Test.YtpfanhheodiamaaGreatDoorShapeE
import Derived.Test.YtpfanhheodiamaaGreatDoorMine
import Derived.Outline
import Derived.Deep.DeepCutAuto
import Derived.Deep.CutBlock
import Derived.Deep.LoopGhost
namespace Go.Proofs.YtpfanhheodiamaaGreatDoor
open Go.RowKit
set_option linter.unusedVariables false
set_option linter.unusedSimpArgs false

theorem cell1_new (w : World) (u : Value) (t : TypeId) : ∀ j v, [u][j]? = some v → (w.alloc (.cells #[u] t)).cell? ((⟨w.heap.size, 0, none⟩ : Addr).add j) = some v := by
  intro j v hj
  match j, hj with
  | 0, hj =>
    obtain rfl := Option.some.inj hj
    exact (Blk.new w t #[u]).cell 0
  | j + 1, hj => simp at hj
theorem own_blk {w : World} {B : Nat} {e : TypeId} {s : Nat} {v : Value} {n : Nat} {xs : List Value} (h : w.ownsRow B e s v n xs) {g : Nat} (hg : v.ownBlock = some g) : B ≤ g := by
  rcases h.2 with ⟨rfl, _⟩ | ⟨g', cap, cur, rfl, hg', _⟩
  · simp [Value.ownBlock] at hg
  · simp [Value.ownBlock] at hg; omega
def mayK (k : Int) : Bool := stepK k || memberK k || k == 21
/-- Is the kid at a place a node ahead of k, and not told before? -/
def kidOk (k : Nat) (kids : List Int) (i : Nat) (x : Int) : Bool := inB x 0 ((k : Int) - 1) && !(kids.take i).contains x
def kidsB (k : Nat) (kids : List Int) : Bool := allIB (kidOk k kids) kids
def kindsOf (ps : List PN) (kids : List Int) : List Int := kids.map (kindAt ps)
/-- Is node k right? -/
def nodeB (ps : List PN) (k : Nat) : Bool :=
  match ps[k]? with
  | some x => decide (x.kids.length ≤ 12) && textB x.kind x.text && kidsB k x.kids && (kfB x.kind (kindsOf ps x.kids) && (callsB ps x.kind x.kids && (mayK x.kind || !x.blank)))
  | none => false
def nodeZ (ps : List PN) (k : Int) : Bool := if 0 ≤ k ∧ k < (ps.length : Int) then nodeB ps k.toNat else false
/-- What is asked of nodes so that no number overflows. -/
def PNs (ps : List PN) : Prop := ∀ p ∈ ps, p.text.size ≤ 1048576 ∧ p.kids.length ≤ 1048576
section
variable {ps : List PN} {k : Nat} {x : PN}
theorem nodeB_many (h : ps[k]? = some x) (h1 : ¬ x.kids.length ≤ 12) : nodeB ps k = false := by unfold nodeB; rw [h]; simp [h1]
theorem nodeB_text (h : ps[k]? = some x) (h1 : textB x.kind x.text = false) : nodeB ps k = false := by unfold nodeB; rw [h]; simp [h1]
theorem nodeB_kids (h : ps[k]? = some x) (h1 : kidsB k x.kids = false) : nodeB ps k = false := by unfold nodeB; rw [h]; simp [h1]
theorem nodeB_rest (h : ps[k]? = some x) (h1 : x.kids.length ≤ 12) (h2 : textB x.kind x.text = true) (h3 : kidsB k x.kids = true) : nodeB ps k = (kfB x.kind (kindsOf ps x.kids) && (callsB ps x.kind x.kids && (mayK x.kind || !x.blank))) := by unfold nodeB; rw [h]; simp [h1, h2, h3]
theorem nodeZ_out {k : Int} (h : ¬ (0 ≤ k ∧ k < (ps.length : Int))) : nodeZ ps k = false := by unfold nodeZ; rw [if_neg h]
theorem nodeZ_in (h : k < ps.length) : nodeZ ps (k : Int) = nodeB ps k := by unfold nodeZ; rw [if_pos ⟨by omega, by omega⟩, Int.toNat_natCast]
end
theorem kinds_step {ps : List PN} {kids : List Int} {t : Nat} {q : Nat} {y : PN} (hd : kids[t]? = some (q : Int)) (hy : ps[q]? = some y) : kindsOf ps (kids.take (t + 1)) = kindsOf ps (kids.take t) ++ [y.kind] := by
  unfold kindsOf; rw [List.take_add_one, hd]; simp [kindAt_some hy]
set_option maxHeartbeats 400000 in
theorem implNodeOk_out (A : Option Addr) (n c : Nat) (ps : List PN) (k : Int) (w : World) (hl : Hid (ps.length = n)) (hk : ¬ (0 ≤ k ∧ k < (n : Int))) :
    Calls Tryz.prog 75 #[.slice A n c, .int .i64 k] w fun e w' => e = .returned (.bool (nodeZ ps k)) ∧ Below w.heap.size w w' := by
  rw [nodeZ_out (by rw [hl.out]; exact hk)]
  have HN := Lib.hid (fun W => isNode_is (n := n) (show inB k 0 ((n : Int) - 1) = false from decide_eq_false (by omega)) A c W)
  go_enter Tryz.func75, Tryz.ntmps75
  go_wp2_with (go_at_call 23; refine (HN.out _).mono ?_; rintro e w1 ⟨rfl, rfl⟩)
  go_ret
  exact ⟨rfl, (by repeat' (first | (with_reducible exact Below.refl _ _) | (with_reducible assumption) | (with_reducible refine below_drewN ?_ _) | (with_reducible refine Below.drew ?_) | (with_reducible refine Below.alloc ?_ ?_ _) | (with_reducible refine Below.setCell ?_ ?_ _) | go_size))⟩
theorem Mine.cap {w : World} {B : Nat} {e : TypeId} {s : Nat} {A : Option Addr} {n c : Nat} {xs : List Value} (h : Mine w B e s A n c xs) : n ≤ c := by
  rcases h.own with ⟨_, rfl, rfl⟩ | ⟨g, _, _, h2, _⟩
  · exact Nat.le_refl _
  · exact h2
theorem kidOk_lo {k : Nat} {kids : List Int} {i : Nat} {x : Int} (h : inB x 0 ((k : Int) - 1) = false) : kidOk k kids i x = false := by unfold kidOk; rw [h]; rfl
theorem kidOk_dup {k : Nat} {kids : List Int} {i : Nat} {x : Int} (h : (kids.take i).contains x = true) : kidOk k kids i x = false := by unfold kidOk; rw [h]; simp
theorem kidOk_yes {k : Nat} {kids : List Int} {i : Nat} {x : Int} (h : inB x 0 ((k : Int) - 1) = true) (h2 : (kids.take i).contains x = false) : kidOk k kids i x = true := by unfold kidOk; rw [h, h2]; rfl
theorem getD_of {l : List Int} {j : Nat} {x : Int} (h : l[j]? = some x) : l.getD j 0 = x := by rw [List.getD_eq_getElem?_getD, h]; rfl
set_option maxRecDepth 100000 in
set_option maxHeartbeats 6400000 in
theorem implNodeOk_in (A : Option Addr) (n c : Nat) (ps : List PN) (k : Nat) (w : World) (hn : n ≤ 1048576) (hps : Nps w A n ps) (hb : Hid (PNs ps)) (hk : k < n) :
    Calls Tryz.prog 75 #[.slice A n c, .int .i64 k] w fun e w' => e = .returned (.bool (nodeB ps k)) ∧ Below w.heap.size w w' := by
  have HP := Lib.hid hps
  have HL := Lib.hid hps.len
  have HB2 : Hid (∀ p ∈ ps, p.kids.length ≤ 1048576) := (show ∀ p ∈ ps, _ from fun p hp => (hb.out p hp).2)
  obtain ⟨x, hx⟩ := hps.get hk
  obtain ⟨b, off, A2, c2, rfl, hblt, x0, x1, x2, x3, hcap, hxr⟩ := hps.atc hk hx
  have hxb := hb.out x (List.mem_of_getElem? hx)
  have HX := Lib.hid hx
  have HXR := Lib.hid hxr
  have HN := Lib.hid (fun W => isNode_is (n := n) (show inB (k : Int) 0 ((n : Int) - 1) = true from decide_eq_true (by omega)) (some ⟨b, off, none⟩) c W)
  have hk' : (k : Int) < n := by omega
  obtain ⟨hxt, hxk⟩ := hxb
  clear hps hx hxr
  by_cases hm : x.kids.length ≤ 12
  · have hm' : ¬ ((12 : Int) < x.kids.length) := by omega
    have HT := Lib.hid (fun (v : Bool) (h : textB x.kind x.text = v) A n c z W => show Calls Tryz.prog 105 #[.agg #[.int .i64 x.kind, .string x.text, .slice A n c, .bool z]] W fun e w' => e = .returned (.bool v) ∧ Below W.heap.size W w' by rw [← h]; exact textFits_any x.kind x.text A n c z W (by unfold maxLen; omega))
    cases ht : textB x.kind x.text with
    | false =>
      have HT2 := Lib.hid (HT.out _ ht)
      rw [nodeB_text HX.out ht]
      clear HT ht
      go_enter Tryz.func75, Tryz.ntmps75
      go_wp2_with fail
      refine (HN.out _).mono ?_
      rintro e w1 ⟨rfl, rfl⟩
      go_wp2_with fail
      refine (HT2.out _ _ _ _ _).mono ?_
      rintro e w2 ⟨rfl, h2⟩
      go_wp2
      go_ret
      exact ⟨rfl, below_box h2⟩
    | true =>
      have HT2 := Lib.hid (HT.out _ ht)
      have HNB := Lib.hid (fun h3 => nodeB_rest HX.out hm ht h3)
      have HNK := Lib.hid (fun h3 => nodeB_kids (k := k) HX.out h3)
      clear HT ht
      generalize hNB : nodeB ps k = NB at HNB HNK ⊢
      clear hNB
      go_enter Tryz.func75, Tryz.ntmps75
      go_wp2_with fail
      refine (HN.out _).mono ?_
      rintro e w1 ⟨rfl, rfl⟩
      go_wp2_with fail
      refine (HT2.out _ _ _ _ _).mono ?_
      rintro e w2 ⟨rfl, h2⟩
      have K := Blk.fresh h2
      have hbw := below_box h2
      clear h2 x0 x1 x2 x3 hblt HN HT2
      have HM0 : Mine w2 (w.heap.size + 1) 3 1 none 0 0 (intCells (kindsOf ps (x.kids.take 0))) := Mine.mk_nil _ _ _ _
      obtain ⟨i0, hi, hz0, hz1, hz2⟩ := info_parts infoInt
      have HI := Lib.hid (And.intro hi (And.intro hz0 (And.intro hz1 hz2)))
      clear hi hz0 hz1 hz2
      have k2 := K.cell 2
      simp only [List.getElem?_toArray, List.getElem?_cons_zero, List.getElem?_cons_succ] at k2
      have kz := K.lt
      go_wp2
      go_loopw [6, 30] (fun s6 i wr => ∃ (t : Nat) (A6 : Option Addr) (c6 : Nat), t ≤ x.kids.length ∧ i = .int .i64 t ∧ s6 = .slice A6 t c6 ∧ Mine wr (w.heap.size + 1) 3 1 A6 t c6 (intCells (kindsOf ps (x.kids.take t))) ∧ Hid (AllI (kidOk k x.kids) x.kids t) ∧ Blk wr w.heap.size 48 #[.int .i64 x.kind, .string x.text, .slice A2 x.kids.length c2, .bool x.blank] ∧ Below w.heap.size w wr) (fun _ i _ => x.kids.length - (intOf i).toNat)
      case atStart => exact ⟨0, none, 0, Nat.zero_le _, rfl, rfl, HM0, allI_zero _ _, K, hbw⟩
      case round =>
        clear HM0 K hbw k2 kz
        obtain ⟨t, A6, c6, htm, rfl, rfl, HM, HA, hK, hbw⟩ := hrel
        have HMM := Lib.hid HM
        have kz := hK.lt
        clear HM
        by_cases hlt : t < x.kids.length
        · have k2 := hK.cell 2
          simp only [List.getElem?_toArray, List.getElem?_cons_zero, List.getElem?_cons_succ] at k2
          obtain ⟨v, hd⟩ : ∃ d, x.kids[t]? = some d := ⟨_, List.getElem?_eq_getElem hlt⟩
          have hRR := HXR.out.below hbw
          obtain ⟨b5, off5, rfl, hblt5, cv⟩ := int_at hRR hlt hd
          cases hin : inB v 0 ((k : Int) - 1) with
          | false =>
            have hNB : NB = false := HNK.out (allIB_no hd (kidOk_lo hin))
            subst hNB
            have hin2 : ¬ (0 ≤ v ∧ v ≤ (k : Int) - 1) := of_decide_eq_false hin
            clear hd HNB HNK hRR hin HA HMM
            by_cases hv0 : v < 0
            · go_wp2
              go_ret
              exact ⟨rfl, hbw⟩
            · have hv1 : (k : Int) ≤ v := by omega
              go_wp2
              go_ret
              exact ⟨rfl, hbw⟩
          | true =>
            have hin2 : 0 ≤ v ∧ v ≤ (k : Int) - 1 := of_decide_eq_true hin
            obtain ⟨q, rfl⟩ := Int.eq_ofNat_of_zero_le hin2.1
            have hqk : q < k := by omega
            have hv0 : ¬ (q : Int) < 0 := by omega
            have hv1 : ¬ (k : Int) ≤ (q : Int) := by omega
            have htc : t ≤ c2 := by omega
            have htc' : (t : Int) ≤ c2 := by omega
            have HC := Lib.hid (fun (u : Bool) (h : (x.kids.take t).contains (q : Int) = u) c W (hW : Below wr.heap.size wr W) => show Calls Tryz.prog 106 #[.slice (some ⟨b5, off5, none⟩) t c, .int .i64 q] W fun e w' => e = .returned (.bool u) ∧ W = w' by
              rw [← h]
              refine (Tryz.slices_Contains_int b5 off5 t c x.kids q W (by omega) (by omega) ?_).mono (fun e w' ⟨h1, h2⟩ => ⟨h1, h2.symm⟩)
              exact (fun j hj => by
                obtain ⟨y, hy⟩ : ∃ y, x.kids[j]? = some y := ⟨_, List.getElem?_eq_getElem hj⟩
                obtain ⟨b6, off6, e6, _, cy⟩ := int_at (hRR.below hW) hj hy
                injection e6 with e6
                injection e6 with e61 e62
                subst e61; subst e62
                rw [getD_of hy]; exact cy))
            cases hcon : (x.kids.take t).contains (q : Int) with
            | true =>
              have hNB : NB = false := HNK.out (allIB_no hd (kidOk_dup hcon))
              subst hNB
              have HC2 := Lib.hid (HC.out _ hcon)
              clear hd HNB HNK hRR hin HA HMM HC hcon
              go_wp2_with (go_at_call 106; refine (HC2.out _ _ (Below.refl _ _)).mono ?_; rintro e w1 ⟨rfl, rfl⟩)
              go_ret
              exact ⟨rfl, hbw⟩
            | false =>
              have hA2 := Lib.hid (allI_step HA.out hd (kidOk_yes hin hcon))
              have HC2 := Lib.hid (HC.out _ hcon)
              obtain ⟨y, hy⟩ := HP.out.get (show q < n by omega)
              obtain ⟨b3, off3, A3, c3, e3, hblt3, y0, y1, y2, y3, hyr⟩ := (HP.out.below hbw).at_ (show q < n by omega) hy
              injection e3 with e3
              injection e3 with e31 e32
              subst e31; subst e32
              have hst := Lib.hid (kinds_step hd hy)
              have hqn : (q : Int) < n := by omega
              have hq0 : (0 : Int) ≤ q := by omega
              clear hd HNB HNK hin HA HC hcon hyr y1 y2 y3 hy
              go_wp2_with (first | (go_at_call 106; refine (HC2.out _ _ (Below.refl _ _)).mono ?_; rintro e w1 ⟨rfl, rfl⟩) | (at_builtin; (refine wpList_append_own _ rfl (.tmp 50) (.tmp 56) _ rfl (w.heap.size + 1) 3 i0 (.int .i64 0) 1 8 Tryz.underlying38 HI.out.1 HI.out.2.1 HI.out.2.2.1 HI.out.2.2.2 rfl (by decide) _ _ _ rfl (Mine.alloc HMM.out _) ⟨wr.heap.size, 0, none⟩ 1 1 [.int .i64 y.kind] rfl rfl (cell1_new _ _ _) (fun x hx => by simp at hx; subst hx; rfl) (by unfold maxLen; omega) (by omega) (by simp; omega) ?_); intro v' w3 hown3 hg3 hnil3))
              have hb3 := hbw.alloc hbw.size (.cells #[.int .i64 y.kind] 3)
              have hb4 : Below w.heap.size w w3 := hb3.grown hg3 hb3.size (fun g hg => by have := (own_blk HMM.out hg); omega)
              have hK3 := (hK.alloc (.cells #[.int .i64 y.kind] 3)).grown hg3 (fun e => by have := own_blk HMM.out e.symm; omega)
              obtain ⟨A7, c7, rfl, m3⟩ := Mine.of hown3
              have HM3 := Lib.hid m3
              clear hown3 hg3 hnil3 hb3 m3 hRR
              go_wp2
              go_roundw
              case rel => exact ⟨t + 1, A7, c7, by omega, by go_num, rfl, by rw [hst.out]; simpa [intCells] using HM3.out, hA2, hK3, hb4⟩
              case measure => simp [intOf]; omega
        · obtain rfl : t = x.kids.length := by omega
          have hkb := allI_all HA.out (Nat.le_refl _)
          have HNB2 := Lib.hid (HNB.out hkb)
          have HIN : Hid (∀ v ∈ x.kids, 0 ≤ v ∧ v < (n : Int)) := (show ∀ v ∈ x.kids, _ from fun v hv => by
            obtain ⟨j, hj⟩ := List.mem_iff_getElem?.1 hv
            have h1 := allIB_at hkb hj
            unfold kidOk at h1
            rw [Bool.and_eq_true] at h1
            have h2 := of_decide_eq_true h1.1
            exact ⟨h2.1, by omega⟩)
          have hkl : kindsOf ps (x.kids.take x.kids.length) = kindsOf ps x.kids := by rw [List.take_length]
          rw [hkl] at HMM
          clear HNB HNK HA hkb hkl
          have k0 := hK.cell 0
          simp only [List.getElem?_toArray, List.getElem?_cons_zero, List.getElem?_cons_succ] at k0
          go_upto_region 14 with fail
          go_cut [9] (fun s wx => s = .bool (mayK x.kind) ∧ Mine wx (w.heap.size + 1) 3 1 A6 x.kids.length c6 (intCells (kindsOf ps x.kids)) ∧ Blk wx w.heap.size 48 #[.int .i64 x.kind, .string x.text, .slice A2 x.kids.length c2, .bool x.blank] ∧ Below w.heap.size w wx)
          case first =>
            have HS := Lib.hid (fun (u : Bool) (h : stepK x.kind = u) (W : World) => show Calls Tryz.prog 107 #[.int .i64 x.kind] W fun e w' => e = .returned (.bool u) ∧ W = w' by rw [← h]; exact isStep_any _ W)
            have HME := Lib.hid (fun (u : Bool) (h : memberK x.kind = u) (W : World) => show Calls Tryz.prog 108 #[.int .i64 x.kind] W fun e w' => e = .returned (.bool u) ∧ W = w' by rw [← h]; exact isMember_any _ W)
            cases hs : stepK x.kind with
            | true =>
              have HS2 := Lib.hid (HS.out _ hs)
              have hmk : mayK x.kind = true := by unfold mayK; rw [hs]; rfl
              clear HS HME hs HNB2
              go_wp2_with (go_at_call 107; refine (HS2.out _).mono ?_; rintro e w1 ⟨rfl, rfl⟩)
              go_meet
              case rel => exact ⟨by rw [hmk], HMM.out, hK, hbw⟩
            | false =>
              have HS2 := Lib.hid (HS.out _ hs)
              cases hme : memberK x.kind with
              | true =>
                have HME2 := Lib.hid (HME.out _ hme)
                have hmk : mayK x.kind = true := by unfold mayK; rw [hs, hme]; rfl
                clear HS HME hs hme HNB2
                go_wp2_with (first | (go_at_call 107; refine (HS2.out _).mono ?_; rintro e w1 ⟨rfl, rfl⟩) | (go_at_call 108; refine (HME2.out _).mono ?_; rintro e w1 ⟨rfl, rfl⟩))
                go_meet
                case rel => exact ⟨by rw [hmk], HMM.out, hK, hbw⟩
              | false =>
                have HME2 := Lib.hid (HME.out _ hme)
                have hmk : mayK x.kind = (x.kind == 21) := by unfold mayK; rw [hs, hme]; rfl
                clear HS HME hs hme HNB2
                go_wp2_with (first | (go_at_call 107; refine (HS2.out _).mono ?_; rintro e w1 ⟨rfl, rfl⟩) | (go_at_call 108; refine (HME2.out _).mono ?_; rintro e w1 ⟨rfl, rfl⟩))
                go_meet
                case rel => exact ⟨by rw [hmk], HMM.out, hK, hbw⟩
          case rest =>
            clear HMM hK hbw k0 kz
            obtain ⟨rfl, HM, hK, hbw⟩ := hcut
            have k0 := hK.cell 0
            have k1 := hK.cell 1
            have k2 := hK.cell 2
            have k3 := hK.cell 3
            have kz := hK.lt
            simp only [List.getElem?_toArray, List.getElem?_cons_zero, List.getElem?_cons_succ] at k0 k1 k2 k3
            have HKF := Lib.hid (fun (u : Bool) (h : kfB x.kind (kindsOf ps x.kids) = u) => show Calls Tryz.prog 109 #[.int .i64 x.kind, .slice A6 x.kids.length c6] wc fun e w' => e = .returned (.bool u) ∧ Below wc.heap.size wc w' by rw [← h]; exact kindsFit_any x.kind A6 x.kids.length c6 (kindsOf ps x.kids) wc (by omega) HM.cap (Lib.hid (by unfold kindsOf; rw [List.length_map])) HM.rd)
            cases hkf : kfB x.kind (kindsOf ps x.kids) with
            | false =>
              have hNB : NB = false := by rw [HNB2.out, hkf]; rfl
              subst hNB
              have HKF2 := Lib.hid (HKF.out _ hkf)
              clear HKF hkf HNB2 HM HIN
              go_wp2_with fail
              refine (HKF2.out).mono ?_
              rintro e w5 ⟨rfl, h5⟩
              go_wp2
              go_ret
              exact ⟨rfl, below_next hbw h5⟩
            | true =>
              have HKF2 := Lib.hid (HKF.out _ hkf)
              have hNB : NB = (callsB ps x.kind x.kids && (mayK x.kind || !x.blank)) := by rw [HNB2.out, hkf]; rfl
              have HCF := Lib.hid (fun (u : Bool) (h : callsB ps x.kind x.kids = u) (W : World) (hW : Below w.heap.size w W) => show Calls Tryz.prog 110 #[.slice (some ⟨b, off, none⟩) n c, .agg #[.int .i64 x.kind, .string x.text, .slice A2 x.kids.length c2, .bool x.blank]] W fun e w' => e = .returned (.bool u) ∧ Below W.heap.size W w' by rw [← h]; exact callsFit_any _ n c ps x.kind x.text x.kids x.blank A2 x.kids.length c2 W hn hxk (HP.out.below hW) (Lib.hid rfl) (HXR.out.below hW) HIN HB2)
              cases hcf : callsB ps x.kind x.kids with
              | false =>
                have HCF2 := Lib.hid (HCF.out _ hcf)
                rw [hcf] at hNB
                have hNB2 : NB = false := hNB
                subst hNB2
                clear HKF hkf HNB2 HM HIN hNB HCF hcf
                go_wp2_with fail
                refine (HKF2.out).mono ?_
                rintro e w5 ⟨rfl, h5⟩
                have hbw5 := below_next hbw h5
                obtain ⟨hc5, hf5⟩ := bcell h5
                go_wp2_with fail
                refine (HCF2.out _ hbw5).mono ?_
                rintro e w6 ⟨rfl, h6⟩
                go_wp2
                go_ret
                exact ⟨rfl, below_next hbw5 h6⟩
              | true =>
                have HCF2 := Lib.hid (HCF.out _ hcf)
                rw [hcf, Bool.true_and] at hNB
                generalize mayK x.kind = mb at hNB
                cases mb with
                | true =>
                  have hNB2 : NB = true := hNB
                  subst hNB2
                  clear HKF hkf HNB2 HM HIN hNB HCF hcf
                  go_wp2_with fail
                  refine (HKF2.out).mono ?_
                  rintro e w5 ⟨rfl, h5⟩
                  have hbw5 := below_next hbw h5
                  obtain ⟨hc5, hf5⟩ := bcell h5
                  go_wp2_with fail
                  refine (HCF2.out _ hbw5).mono ?_
                  rintro e w6 ⟨rfl, h6⟩
                  go_wp2
                  go_ret
                  exact ⟨rfl, below_next hbw5 h6⟩
                | false =>
                  have hNB2 : NB = !x.blank := hNB
                  subst hNB2
                  clear HKF hkf HNB2 HM HIN HCF hcf hNB
                  go_wp2_with fail
                  refine (HKF2.out).mono ?_
                  rintro e w5 ⟨rfl, h5⟩
                  have hbw5 := below_next hbw h5
                  have hK5 := hK.next h5
                  obtain ⟨hc5, hf5⟩ := bcell h5
                  go_wp2_with fail
                  refine (HCF2.out _ hbw5).mono ?_
                  rintro e w6 ⟨rfl, h6⟩
                  have hK6 := hK5.next h6
                  have k63 := hK6.cell 3
                  simp only [List.getElem?_toArray, List.getElem?_cons_zero, List.getElem?_cons_succ] at k63
                  go_wp2
                  go_ret
                  exact ⟨rfl, below_next hbw5 h6⟩
  · have hm' : (12 : Int) < x.kids.length := by omega
    rw [nodeB_many HX.out hm]
    go_enter Tryz.func75, Tryz.ntmps75
    go_wp2_with fail
    refine (HN.out _).mono ?_
    rintro e w1 ⟨rfl, rfl⟩
    go_wp2
    go_ret
    exact ⟨rfl, (by repeat' (first | (with_reducible exact Below.refl _ _) | (with_reducible assumption) | (with_reducible refine below_drewN ?_ _) | (with_reducible refine Below.drew ?_) | (with_reducible refine Below.alloc ?_ ?_ _) | (with_reducible refine Below.setCell ?_ ?_ _) | go_size))⟩
theorem implNodeOk_any (A : Option Addr) (n c : Nat) (ps : List PN) (k : Int) (w : World) (hn : n ≤ 1048576) (hps : Nps w A n ps) (hb : Hid (PNs ps)) :
    Calls Tryz.prog 75 #[.slice A n c, .int .i64 k] w fun e w' => e = .returned (.bool (nodeZ ps k)) ∧ Below w.heap.size w w' := by
  have hl := hps.len
  by_cases hk : 0 ≤ k ∧ k < (n : Int)
  · obtain ⟨q, rfl⟩ := Int.eq_ofNat_of_zero_le hk.1
    rw [nodeZ_in (by omega)]
    exact implNodeOk_in A n c ps q w hn hps hb (by omega)
  · exact implNodeOk_out A n c ps k w (Lib.hid hl) hk
end Go.Proofs.YtpfanhheodiamaaGreatDoor

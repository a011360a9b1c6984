/-
  Put together by program (shake.py): ShapeF, ShapeG, ShapeM, ShapeI, ShapeJ.
-/
import Derived.Test.YtgaajcbklkchjaaGreatDoorMtD
import Derived.Test.YtgaajcbklkchjaaGreatDoorMtB
import Derived.Outline
import Derived.Deep.DeepCutAuto
import Derived.Deep.CutBlock
import Derived.Deep.LoopGhost
set_option maxRecDepth 100000
set_option maxHeartbeats 25600000
set_option linter.unusedVariables false
set_option linter.unusedSimpArgs false
open Go.Lib (hid)
open Go.Proofs.Tryz
namespace Go.Proofs.YtgaajcbklkchjaaGreatDoor
open Go.RowKit
theorem cell1_new (w : World) (u : Value) (t : TypeId) : ∀ j v, [u][j]? = some v → (w.alloc (.cells #[u] t)).cell? ((⟨w.heap.size, 0, none⟩ : Addr).add j) = some v := by
 intro j v hj
 match j, hj with
 | 0, hj =>
  obtain rfl := Option.some.inj hj
  exact (Blk.new w t #[u]).cell 0
 | j + 1, hj => simp at hj
theorem own_blk {w : World} {B : Nat} {e : TypeId} {s : Nat} {v : Value} {n : Nat} {xs : List Value} (h : w.ownsRow B e s v n xs) {g : Nat} (hg : v.ownBlock = some g) : B ≤ g := by
 rcases h.2 with ⟨rfl, _⟩ | ⟨g', cap, cur, rfl, hg', _⟩
 ·simp [Value.ownBlock] at hg
 ·simp [Value.ownBlock] at hg; omega
def mayK (k : Int) : Bool := stepK k || memberK k || k == 21
def kidOk (k : Nat) (kids : List Int) (i : Nat) (x : Int) : Bool := inB x 0 ((k : Int) - 1) && !(kids.take i).contains x
def kidsB (k : Nat) (kids : List Int) : Bool := allIB (kidOk k kids) kids
def kindsOf (ps : List PN) (kids : List Int) : List Int := kids.map (kindAt ps)
def nodeB (ps : List PN) (k : Nat) : Bool :=
 match ps[k]? with
 | some x => decide (x.kids.length ≤ 12) && textB x.kind x.text && kidsB k x.kids && (kfB x.kind (kindsOf ps x.kids) && (callsB ps x.kind x.kids && (mayK x.kind || !x.blank)))
 | none => false
def nodeZ (ps : List PN) (k : Int) : Bool := if 0 ≤ k ∧ k < (ps.length : Int) then nodeB ps k.toNat else false
def PNs (ps : List PN) : Prop := ∀ p ∈ ps, p.text.size ≤ 1048576 ∧ p.kids.length ≤ 1048576
section
variable {ps : List PN} {k : Nat} {x : PN}
theorem nodeB_many (h : ps[k]? = some x) (h1 : ¬ x.kids.length ≤ 12) : nodeB ps k = false := by unfold nodeB; rw [h]; simp [h1]
theorem nodeB_text (h : ps[k]? = some x) (h1 : textB x.kind x.text = false) : nodeB ps k = false := by unfold nodeB; rw [h]; simp [h1]
theorem nodeB_kids (h : ps[k]? = some x) (h1 : kidsB k x.kids = false) : nodeB ps k = false := by unfold nodeB; rw [h]; simp [h1]
theorem nodeB_rest (h : ps[k]? = some x) (h1 : x.kids.length ≤ 12) (h2 : textB x.kind x.text = true) (h3 : kidsB k x.kids = true) : nodeB ps k = (kfB x.kind (kindsOf ps x.kids) && (callsB ps x.kind x.kids && (mayK x.kind || !x.blank))) := by unfold nodeB; rw [h]; simp [h1, h2, h3]
theorem nodeZ_out {k : Int} (h : ¬ (0 ≤ k ∧ k < (ps.length : Int))) : nodeZ ps k = false := by unfold nodeZ; rw [if_neg h]
theorem nodeZ_in (h : k < ps.length) : nodeZ ps (k : Int) = nodeB ps k := by unfold nodeZ; rw [if_pos ⟨by omega, by omega⟩, Int.toNat_natCast]
end
theorem kinds_step {ps : List PN} {kids : List Int} {t : Nat} {q : Nat} {y : PN} (hd : kids[t]? = some (q : Int)) (hy : ps[q]? = some y) : kindsOf ps (kids.take (t + 1)) = kindsOf ps (kids.take t) ++ [y.kind] := by
 unfold kindsOf; rw [List.take_add_one, hd]; simp [kindAt_some hy]
theorem implNodeOk_out (A : Option Addr) (n c : Nat) (ps : List PN) (k : Int) (w : World) (hl : Hid (ps.length = n)) (hk : ¬ (0 ≤ k ∧ k < (n : Int))) :
  Calls prog 145 #[.slice A n c, .int .i64 k] w fun e w' => e = .returned (.bool (nodeZ ps k)) ∧ Below w.heap.size w w' := by
 rw [nodeZ_out (by rw [hl.out]; exact hk)]
 have HN := hid (fun W => isNode_is (n := n) (show inB k 0 ((n : Int) - 1) = false from decide_eq_false (by omega)) A c W)
 go_enter func145, ntmps145
 go_wp2_with (go_at_call 55; refine (HN.out _).mono ?_; rintro e w1 ⟨rfl, rfl⟩)
 go_ret
 exact ⟨rfl, grow_⟩
theorem Mine.cap {w : World} {B : Nat} {e : TypeId} {s : Nat} {A : Option Addr} {n c : Nat} {xs : List Value} (h : Mine w B e s A n c xs) : n ≤ c := by
 rcases h.own with ⟨_, rfl, rfl⟩ | ⟨g, _, _, h2, _⟩
 ·exact Nat.le_refl _
 ·exact h2
theorem kidOk_lo {k : Nat} {kids : List Int} {i : Nat} {x : Int} (h : inB x 0 ((k : Int) - 1) = false) : kidOk k kids i x = false := by unfold kidOk; rw [h]; rfl
theorem kidOk_dup {k : Nat} {kids : List Int} {i : Nat} {x : Int} (h : (kids.take i).contains x = true) : kidOk k kids i x = false := by unfold kidOk; rw [h]; simp
theorem kidOk_yes {k : Nat} {kids : List Int} {i : Nat} {x : Int} (h : inB x 0 ((k : Int) - 1) = true) (h2 : (kids.take i).contains x = false) : kidOk k kids i x = true := by unfold kidOk; rw [h, h2]; rfl
theorem getD_of {l : List Int} {j : Nat} {x : Int} (h : l[j]? = some x) : l.getD j 0 = x := by rw [List.getD_eq_getElem?_getD, h]; rfl
theorem implNodeOk_in (A : Option Addr) (n c : Nat) (ps : List PN) (k : Nat) (w : World) (hn : n ≤ 1048576) (hps : Nps w A n ps) (hb : Hid (PNs ps)) (hk : k < n) :
  Calls prog 145 #[.slice A n c, .int .i64 k] w fun e w' => e = .returned (.bool (nodeB ps k)) ∧ Below w.heap.size w w' := by
 have HP := hid hps
 have HL := hid hps.len
 have HB2 : Hid (∀ p ∈ ps, p.kids.length ≤ 1048576) := (show ∀ p ∈ ps, _ from fun p hp => (hb.out p hp).2)
 obtain ⟨x, hx⟩ := hps.get hk
 obtain ⟨b, off, A2, c2, rfl, hblt, x0, x1, x2, x3, hcap, hxr⟩ := hps.atc hk hx
 have hxb := hb.out x (List.mem_of_getElem? hx)
 have HX := hid hx
 have HXR := hid hxr
 have HN := hid (fun W => isNode_is (n := n) (show inB (k : Int) 0 ((n : Int) - 1) = true from decide_eq_true (by omega)) (some ⟨b, off, none⟩) c W)
 have hk' : (k : Int) < n := by omega
 obtain ⟨hxt, hxk⟩ := hxb
 clear hps hx hxr
 by_cases hm : x.kids.length ≤ 12
 ·have hm' : ¬ ((12 : Int) < x.kids.length) := by omega
  have HT := hid (fun (v : Bool) (h : textB x.kind x.text = v) A n c z W => show Calls prog 175 #[.agg #[.int .i64 x.kind, .string x.text, .slice A n c, .bool z]] W fun e w' => e = .returned (.bool v) ∧ Below W.heap.size W w' by rw [← h]; exact textFits_any x.kind x.text A n c z W (by unfold maxLen; omega))
  cases ht : textB x.kind x.text with
  | false =>
   have HT2 := hid (HT.out _ ht)
   rw [nodeB_text HX.out ht]
   clear HT ht
   go_enter func145, ntmps145
   go_wp2_with fail
   refine (HN.out _).mono ?_
   rintro e w1 ⟨rfl, rfl⟩
   go_wp2_with fail
   refine (HT2.out _ _ _ _ _).mono ?_
   rintro e w2 ⟨rfl, h2⟩
   go_wp2
   go_ret
   exact ⟨rfl, below_box h2⟩
  | true =>
   have HT2 := hid (HT.out _ ht)
   have HNB := hid (fun h3 => nodeB_rest HX.out hm ht h3)
   have HNK := hid (fun h3 => nodeB_kids (k := k) HX.out h3)
   clear HT ht
   generalize hNB : nodeB ps k = NB at HNB HNK ⊢
   clear hNB
   go_enter func145, ntmps145
   go_wp2_with fail
   refine (HN.out _).mono ?_
   rintro e w1 ⟨rfl, rfl⟩
   go_wp2_with fail
   refine (HT2.out _ _ _ _ _).mono ?_
   rintro e w2 ⟨rfl, h2⟩
   have K := Blk.fresh h2
   have hbw := below_box h2
   clear h2 x0 x1 x2 x3 hblt HN HT2
   have HM0 : Mine w2 (w.heap.size + 1) 3 1 none 0 0 (intCells (kindsOf ps (x.kids.take 0))) := Mine.mk_nil _ _ _ _
   obtain ⟨i0, hi, hz0, hz1, hz2⟩ := info_parts infoInt
   have HI := hid (And.intro hi (And.intro hz0 (And.intro hz1 hz2)))
   clear hi hz0 hz1 hz2
   have k2 := K.q2
   have kz := K.lt
   go_wp2
   go_loopw [6, 30] (fun s6 i wr => ∃ (t : Nat) (A6 : Option Addr) (c6 : Nat), t ≤ x.kids.length ∧ i = .int .i64 t ∧ s6 = .slice A6 t c6 ∧ Mine wr (w.heap.size + 1) 3 1 A6 t c6 (intCells (kindsOf ps (x.kids.take t))) ∧ Hid (AllI (kidOk k x.kids) x.kids t) ∧ Blk wr w.heap.size 48 #[.int .i64 x.kind, .string x.text, .slice A2 x.kids.length c2, .bool x.blank] ∧ Below w.heap.size w wr) (fun _ i _ => x.kids.length - (intOf i).toNat)
   case atStart => exact ⟨0, none, 0, Nat.zero_le _, rfl, rfl, HM0, allI_zero _ _, K, hbw⟩
   case round =>
    clear HM0 K hbw k2 kz
    obtain ⟨t, A6, c6, htm, rfl, rfl, HM, HA, hK, hbw⟩ := hrel
    have HMM := hid HM
    have kz := hK.lt
    clear HM
    by_cases hlt : t < x.kids.length
    ·have k2 := hK.cell 2
     simp only [List.getElem?_toArray, List.getElem?_cons_zero, List.getElem?_cons_succ] at k2
     obtain ⟨v, hd⟩ : ∃ d, x.kids[t]? = some d := ⟨_, List.getElem?_eq_getElem hlt⟩
     have hRR := HXR.out.below hbw
     obtain ⟨b5, off5, rfl, hblt5, cv⟩ := int_at hRR hlt hd
     cases hin : inB v 0 ((k : Int) - 1) with
     | false =>
      have hNB : NB = false := HNK.out (allIB_no hd (kidOk_lo hin))
      subst hNB
      have hin2 : ¬ (0 ≤ v ∧ v ≤ (k : Int) - 1) := of_decide_eq_false hin
      clear hd HNB HNK hRR hin HA HMM
      by_cases hv0 : v < 0
      ·go_wp2
       go_ret
       exact ⟨rfl, hbw⟩
      ·have hv1 : (k : Int) ≤ v := by omega
       go_wp2
       go_ret
       exact ⟨rfl, hbw⟩
     | true =>
      have hin2 : 0 ≤ v ∧ v ≤ (k : Int) - 1 := of_decide_eq_true hin
      obtain ⟨q, rfl⟩ := Int.eq_ofNat_of_zero_le hin2.1
      have hqk : q < k := by omega
      have hv0 : ¬ (q : Int) < 0 := by omega
      have hv1 : ¬ (k : Int) ≤ (q : Int) := by omega
      have htc : t ≤ c2 := by omega
      have htc' : (t : Int) ≤ c2 := by omega
      have HC := hid (fun (u : Bool) (h : (x.kids.take t).contains (q : Int) = u) c W (hW : Below wr.heap.size wr W) => show Calls prog 176 #[.slice (some ⟨b5, off5, none⟩) t c, .int .i64 q] W fun e w' => e = .returned (.bool u) ∧ W = w' by
       rw [← h]
       refine (Tryz.slices_Contains_int b5 off5 t c x.kids q W (by omega) (by omega) ?_).mono (fun e w' ⟨h1, h2⟩ => ⟨h1, h2.symm⟩)
       exact (fun j hj => by
        obtain ⟨y, hy⟩ : ∃ y, x.kids[j]? = some y := ⟨_, List.getElem?_eq_getElem hj⟩
        obtain ⟨b6, off6, e6, _, cy⟩ := int_at (hRR.below hW) hj hy
        injection e6 with e6
        injection e6 with e61 e62
        subst e61; subst e62
        rw [getD_of hy]; exact cy))
      cases hcon : (x.kids.take t).contains (q : Int) with
      | true =>
       have hNB : NB = false := HNK.out (allIB_no hd (kidOk_dup hcon))
       subst hNB
       have HC2 := hid (HC.out _ hcon)
       clear hd HNB HNK hRR hin HA HMM HC hcon
       go_wp2_with (go_at_call 176; refine (HC2.out _ _ (Below.refl _ _)).mono ?_; rintro e w1 ⟨rfl, rfl⟩)
       go_ret
       exact ⟨rfl, hbw⟩
      | false =>
       have hA2 := hid (allI_step HA.out hd (kidOk_yes hin hcon))
       have HC2 := hid (HC.out _ hcon)
       obtain ⟨y, hy⟩ := HP.out.get (show q < n by omega)
       obtain ⟨b3, off3, A3, c3, e3, hblt3, y0, y1, y2, y3, hyr⟩ := (HP.out.below hbw).at_ (show q < n by omega) hy
       injection e3 with e3
       injection e3 with e31 e32
       subst e31; subst e32
       have hst := hid (kinds_step hd hy)
       have hqn : (q : Int) < n := by omega
       have hq0 : (0 : Int) ≤ q := by omega
       clear hd HNB HNK hin HA HC hcon hyr y1 y2 y3 hy
       go_wp2_with (first | (go_at_call 176; refine (HC2.out _ _ (Below.refl _ _)).mono ?_; rintro e w1 ⟨rfl, rfl⟩) | (at_builtin; (refine wpList_append_own _ rfl (.tmp 50) (.tmp 56) _ rfl (w.heap.size + 1) 3 i0 (.int .i64 0) 1 8 underlying37 HI.out.1 HI.out.2.1 HI.out.2.2.1 HI.out.2.2.2 rfl (by decide) _ _ _ rfl (Mine.alloc HMM.out _) ⟨wr.heap.size, 0, none⟩ 1 1 [.int .i64 y.kind] rfl rfl (cell1_new _ _ _) (fun x hx => by simp at hx; subst hx; rfl) (by unfold maxLen; omega) (by omega) (by simp; omega) ?_); intro v' w3 hown3 hg3 hnil3))
       have hb3 := hbw.alloc hbw.size (.cells #[.int .i64 y.kind] 3)
       have hb4 : Below w.heap.size w w3 := hb3.grown hg3 hb3.size (fun g hg => by have := (own_blk HMM.out hg); omega)
       have hK3 := (hK.alloc (.cells #[.int .i64 y.kind] 3)).grown hg3 (fun e => by have := own_blk HMM.out e.symm; omega)
       obtain ⟨A7, c7, rfl, m3⟩ := Mine.of hown3
       have HM3 := hid m3
       clear hown3 hg3 hnil3 hb3 m3 hRR
       go_wp2
       go_roundw
       case rel => exact ⟨t + 1, A7, c7, by omega, by go_num, rfl, by rw [hst.out]; simpa [intCells] using HM3.out, hA2, hK3, hb4⟩
       case measure => simp [intOf]; omega
    ·obtain rfl : t = x.kids.length := by omega
     have hkb := allI_all HA.out (Nat.le_refl _)
     have HNB2 := hid (HNB.out hkb)
     have HIN : Hid (∀ v ∈ x.kids, 0 ≤ v ∧ v < (n : Int)) := (show ∀ v ∈ x.kids, _ from fun v hv => by
      obtain ⟨j, hj⟩ := List.mem_iff_getElem?.1 hv
      have h1 := allIB_at hkb hj
      unfold kidOk at h1
      rw [Bool.and_eq_true] at h1
      have h2 := of_decide_eq_true h1.1
      exact ⟨h2.1, by omega⟩)
     have hkl : kindsOf ps (x.kids.take x.kids.length) = kindsOf ps x.kids := by rw [List.take_length]
     rw [hkl] at HMM
     clear HNB HNK HA hkb hkl
     have k0 := hK.q0
     go_upto_region 14 with fail
     go_cut [9] (fun s wx => s = .bool (mayK x.kind) ∧ Mine wx (w.heap.size + 1) 3 1 A6 x.kids.length c6 (intCells (kindsOf ps x.kids)) ∧ Blk wx w.heap.size 48 #[.int .i64 x.kind, .string x.text, .slice A2 x.kids.length c2, .bool x.blank] ∧ Below w.heap.size w wx)
     case first =>
      have HS := hid (fun (u : Bool) (h : stepK x.kind = u) (W : World) => show Calls prog 177 #[.int .i64 x.kind] W fun e w' => e = .returned (.bool u) ∧ W = w' by rw [← h]; exact isStep_any _ W)
      have HME := hid (fun (u : Bool) (h : memberK x.kind = u) (W : World) => show Calls prog 178 #[.int .i64 x.kind] W fun e w' => e = .returned (.bool u) ∧ W = w' by rw [← h]; exact isMember_any _ W)
      cases hs : stepK x.kind with
      | true =>
       have HS2 := hid (HS.out _ hs)
       have hmk : mayK x.kind = true := by unfold mayK; rw [hs]; rfl
       clear HS HME hs HNB2
       go_wp2_with (go_at_call 177; refine (HS2.out _).mono ?_; rintro e w1 ⟨rfl, rfl⟩)
       go_meet
       case rel => exact ⟨by rw [hmk], HMM.out, hK, hbw⟩
      | false =>
       have HS2 := hid (HS.out _ hs)
       cases hme : memberK x.kind with
       | true =>
        have HME2 := hid (HME.out _ hme)
        have hmk : mayK x.kind = true := by unfold mayK; rw [hs, hme]; rfl
        clear HS HME hs hme HNB2
        go_wp2_with (first | (go_at_call 177; refine (HS2.out _).mono ?_; rintro e w1 ⟨rfl, rfl⟩) | (go_at_call 178; refine (HME2.out _).mono ?_; rintro e w1 ⟨rfl, rfl⟩))
        go_meet
        case rel => exact ⟨by rw [hmk], HMM.out, hK, hbw⟩
       | false =>
        have HME2 := hid (HME.out _ hme)
        have hmk : mayK x.kind = (x.kind == 21) := by unfold mayK; rw [hs, hme]; rfl
        clear HS HME hs hme HNB2
        go_wp2_with (first | (go_at_call 177; refine (HS2.out _).mono ?_; rintro e w1 ⟨rfl, rfl⟩) | (go_at_call 178; refine (HME2.out _).mono ?_; rintro e w1 ⟨rfl, rfl⟩))
        go_meet
        case rel => exact ⟨by rw [hmk], HMM.out, hK, hbw⟩
     case rest =>
      clear HMM hK hbw k0 kz
      obtain ⟨rfl, HM, hK, hbw⟩ := hcut
      have k0 := hK.q0
      have k1 := hK.q1
      have k2 := hK.q2
      have k3 := hK.q3
      have kz := hK.lt
      have HKF := hid (fun (u : Bool) (h : kfB x.kind (kindsOf ps x.kids) = u) => show Calls prog 179 #[.int .i64 x.kind, .slice A6 x.kids.length c6] wc fun e w' => e = .returned (.bool u) ∧ Below wc.heap.size wc w' by rw [← h]; exact kindsFit_any x.kind A6 x.kids.length c6 (kindsOf ps x.kids) wc (by omega) HM.cap (hid (by unfold kindsOf; rw [List.length_map])) HM.rd)
      cases hkf : kfB x.kind (kindsOf ps x.kids) with
      | false =>
       have hNB : NB = false := by rw [HNB2.out, hkf]; rfl
       subst hNB
       have HKF2 := hid (HKF.out _ hkf)
       clear HKF hkf HNB2 HM HIN
       go_wp2_with fail
       refine (HKF2.out).mono ?_
       rintro e w5 ⟨rfl, h5⟩
       go_wp2
       go_ret
       exact ⟨rfl, below_next hbw h5⟩
      | true =>
       have HKF2 := hid (HKF.out _ hkf)
       have hNB : NB = (callsB ps x.kind x.kids && (mayK x.kind || !x.blank)) := by rw [HNB2.out, hkf]; rfl
       have HCF := hid (fun (u : Bool) (h : callsB ps x.kind x.kids = u) (W : World) (hW : Below w.heap.size w W) => show Calls prog 180 #[.slice (some ⟨b, off, none⟩) n c, .agg #[.int .i64 x.kind, .string x.text, .slice A2 x.kids.length c2, .bool x.blank]] W fun e w' => e = .returned (.bool u) ∧ Below W.heap.size W w' by rw [← h]; exact callsFit_any _ n c ps x.kind x.text x.kids x.blank A2 x.kids.length c2 W hn hxk (HP.out.below hW) (hid rfl) (HXR.out.below hW) HIN HB2)
       cases hcf : callsB ps x.kind x.kids with
       | false =>
        have HCF2 := hid (HCF.out _ hcf)
        rw [hcf] at hNB
        have hNB2 : NB = false := hNB
        subst hNB2
        clear HKF hkf HNB2 HM HIN hNB HCF hcf
        go_wp2_with fail
        refine (HKF2.out).mono ?_
        rintro e w5 ⟨rfl, h5⟩
        have hbw5 := below_next hbw h5
        obtain ⟨hc5, hf5⟩ := bcell h5
        go_wp2_with fail
        refine (HCF2.out _ hbw5).mono ?_
        rintro e w6 ⟨rfl, h6⟩
        go_wp2
        go_ret
        exact ⟨rfl, below_next hbw5 h6⟩
       | true =>
        have HCF2 := hid (HCF.out _ hcf)
        rw [hcf, Bool.true_and] at hNB
        generalize mayK x.kind = mb at hNB
        cases mb with
        | true =>
         have hNB2 : NB = true := hNB
         subst hNB2
         clear HKF hkf HNB2 HM HIN hNB HCF hcf
         go_wp2_with fail
         refine (HKF2.out).mono ?_
         rintro e w5 ⟨rfl, h5⟩
         have hbw5 := below_next hbw h5
         obtain ⟨hc5, hf5⟩ := bcell h5
         go_wp2_with fail
         refine (HCF2.out _ hbw5).mono ?_
         rintro e w6 ⟨rfl, h6⟩
         go_wp2
         go_ret
         exact ⟨rfl, below_next hbw5 h6⟩
        | false =>
         have hNB2 : NB = !x.blank := hNB
         subst hNB2
         clear HKF hkf HNB2 HM HIN HCF hcf hNB
         go_wp2_with fail
         refine (HKF2.out).mono ?_
         rintro e w5 ⟨rfl, h5⟩
         have hbw5 := below_next hbw h5
         have hK5 := hK.next h5
         obtain ⟨hc5, hf5⟩ := bcell h5
         go_wp2_with fail
         refine (HCF2.out _ hbw5).mono ?_
         rintro e w6 ⟨rfl, h6⟩
         have hK6 := hK5.next h6
         have k63 := hK6.q3
         go_wp2
         go_ret
         exact ⟨rfl, below_next hbw5 h6⟩
 ·have hm' : (12 : Int) < x.kids.length := by omega
  rw [nodeB_many HX.out hm]
  go_enter func145, ntmps145
  go_wp2_with fail
  refine (HN.out _).mono ?_
  rintro e w1 ⟨rfl, rfl⟩
  go_wp2
  go_ret
  exact ⟨rfl, grow_⟩
theorem implNodeOk_any (A : Option Addr) (n c : Nat) (ps : List PN) (k : Int) (w : World) (hn : n ≤ 1048576) (hps : Nps w A n ps) (hb : Hid (PNs ps)) :
  Calls prog 145 #[.slice A n c, .int .i64 k] w fun e w' => e = .returned (.bool (nodeZ ps k)) ∧ Below w.heap.size w w' := by
 have hl := hps.len
 by_cases hk : 0 ≤ k ∧ k < (n : Int)
 ·obtain ⟨q, rfl⟩ := Int.eq_ofNat_of_zero_le hk.1
  rw [nodeZ_in (by omega)]
  exact implNodeOk_in A n c ps q w hn hps hb (by omega)
 ·exact implNodeOk_out A n c ps k w (hid hl) hk
def cntLo (kind : Int) : Int :=
 if kind = 5 ∨ kind = 9 ∨ kind = 20 ∨ kind = 6 ∨ kind = 11 ∨ kind = 13 ∨ kind = 14 then 1
 else if kind = 7 ∨ kind = 10 ∨ kind = 16 ∨ kind = 17 then 2
 else if kind = 8 then 3 else 0
def cntHi (kind : Int) : Int :=
 if kind = 4 ∨ kind = 18 ∨ kind = 21 ∨ kind = 22 ∨ kind = 5 ∨ kind = 9 ∨ kind = 20 ∨ kind = 7 ∨ kind = 10 then 12
 else if kind = 6 ∨ kind = 11 ∨ kind = 13 ∨ kind = 14 ∨ kind = 12 ∨ kind = 15 then 1
 else if kind = 8 ∨ kind = 16 then 3
 else if kind = 17 then 2 else 0
def fitB (ps : List PN) (kind : Int) (n i : Nat) (kid : Int) : Bool :=
 if kind = 9 then (if i + 1 < n then isK 1 (kindAt ps kid) else valueK (kindAt ps kid))
 else if kind = 20 then (if i + 1 < n then isK 1 (kindAt ps kid) else isK 18 (kindAt ps kid))
 else if kind = 10 then (if 0 < i then isK 5 (kindAt ps kid) && (match ps[kid.toNat]? with | some y => (match y.kids with | j :: _ => isK 1 (kindAt ps j) | [] => false) | none => false) else valueK (kindAt ps kid))
 else if kind = 16 ∨ kind = 17 then (if 0 < i then isK 18 (kindAt ps kid) else valueK (kindAt ps kid))
 else if kind = 18 then stmtK (kindAt ps kid)
 else if kind = 21 then memberK (kindAt ps kid)
 else if kind = 22 then isK 21 (kindAt ps kid) || memberK (kindAt ps kid)
 else valueK (kindAt ps kid)
theorem cnt_list (kind : Int) (w : World) (hk : kind = 4 ∨ kind = 18 ∨ kind = 21 ∨ kind = 22) : Calls prog 206 #[.int .i64 kind] w fun e w' => e = .returned (.tuple #[.int .i64 0, .int .i64 12]) ∧ w = w' := by
 rcases hk with rfl | rfl | rfl | rfl
 all_goals
  go_enter func206, ntmps206
  go_wp2
  go_ret2
  exact ⟨rfl, rfl⟩
theorem cnt_call (kind : Int) (w : World) (hk : kind = 5 ∨ kind = 9 ∨ kind = 20) : Calls prog 206 #[.int .i64 kind] w fun e w' => e = .returned (.tuple #[.int .i64 1, .int .i64 12]) ∧ w = w' := by
 rcases hk with rfl | rfl | rfl
 all_goals
  go_enter func206, ntmps206
  go_wp2
  go_ret2
  exact ⟨rfl, rfl⟩
theorem cnt_one (kind : Int) (w : World) (hk : kind = 6 ∨ kind = 11 ∨ kind = 13 ∨ kind = 14) : Calls prog 206 #[.int .i64 kind] w fun e w' => e = .returned (.tuple #[.int .i64 1, .int .i64 1]) ∧ w = w' := by
 rcases hk with rfl | rfl | rfl | rfl
 all_goals
  go_enter func206, ntmps206
  go_wp2
  go_ret2
  exact ⟨rfl, rfl⟩
theorem cnt_chain (kind : Int) (w : World) (hk : kind = 7 ∨ kind = 10) : Calls prog 206 #[.int .i64 kind] w fun e w' => e = .returned (.tuple #[.int .i64 2, .int .i64 12]) ∧ w = w' := by
 rcases hk with rfl | rfl
 all_goals
  go_enter func206, ntmps206
  go_wp2
  go_ret2
  exact ⟨rfl, rfl⟩
theorem cnt_pick (kind : Int) (w : World) (hk : kind = 8) : Calls prog 206 #[.int .i64 kind] w fun e w' => e = .returned (.tuple #[.int .i64 3, .int .i64 3]) ∧ w = w' := by
 rcases hk with rfl
 all_goals
  go_enter func206, ntmps206
  go_wp2
  go_ret2
  exact ⟨rfl, rfl⟩
theorem cnt_var (kind : Int) (w : World) (hk : kind = 12 ∨ kind = 15) : Calls prog 206 #[.int .i64 kind] w fun e w' => e = .returned (.tuple #[.int .i64 0, .int .i64 1]) ∧ w = w' := by
 rcases hk with rfl | rfl
 all_goals
  go_enter func206, ntmps206
  go_wp2
  go_ret2
  exact ⟨rfl, rfl⟩
theorem cnt_if (kind : Int) (w : World) (hk : kind = 16) : Calls prog 206 #[.int .i64 kind] w fun e w' => e = .returned (.tuple #[.int .i64 2, .int .i64 3]) ∧ w = w' := by
 rcases hk with rfl
 all_goals
  go_enter func206, ntmps206
  go_wp2
  go_ret2
  exact ⟨rfl, rfl⟩
theorem cnt_while (kind : Int) (w : World) (hk : kind = 17) : Calls prog 206 #[.int .i64 kind] w fun e w' => e = .returned (.tuple #[.int .i64 2, .int .i64 2]) ∧ w = w' := by
 rcases hk with rfl
 all_goals
  go_enter func206, ntmps206
  go_wp2
  go_ret2
  exact ⟨rfl, rfl⟩
theorem cnt_none (kind : Int) (w : World) (hk : kind = 1 ∨ kind = 2 ∨ kind = 3 ∨ kind = 19) : Calls prog 206 #[.int .i64 kind] w fun e w' => e = .returned (.tuple #[.int .i64 0, .int .i64 0]) ∧ w = w' := by
 rcases hk with rfl | rfl | rfl | rfl
 all_goals
  go_enter func206, ntmps206
  go_wp2
  go_ret2
  exact ⟨rfl, rfl⟩
theorem l05Count_any (kind : Int) (w : World) (hk : 1 ≤ kind ∧ kind ≤ 22) : Calls prog 206 #[.int .i64 kind] w fun e w' => e = .returned (.tuple #[.int .i64 (cntLo kind), .int .i64 (cntHi kind)]) ∧ w = w' := by
 have h2 : kind = 1 ∨ kind = 2 ∨ kind = 3 ∨ kind = 4 ∨ kind = 5 ∨ kind = 6 ∨ kind = 7 ∨ kind = 8 ∨ kind = 9 ∨ kind = 10 ∨ kind = 11 ∨ kind = 12 ∨ kind = 13 ∨ kind = 14 ∨ kind = 15 ∨ kind = 16 ∨ kind = 17 ∨ kind = 18 ∨ kind = 19 ∨ kind = 20 ∨ kind = 21 ∨ kind = 22 := by omega
 rcases h2 with rfl | rfl | rfl | rfl | rfl | rfl | rfl | rfl | rfl | rfl | rfl | rfl | rfl | rfl | rfl | rfl | rfl | rfl | rfl | rfl | rfl | rfl
 ·exact cnt_none 1 w (by omega)
 ·exact cnt_none 2 w (by omega)
 ·exact cnt_none 3 w (by omega)
 ·exact cnt_list 4 w (by omega)
 ·exact cnt_call 5 w (by omega)
 ·exact cnt_one 6 w (by omega)
 ·exact cnt_chain 7 w (by omega)
 ·exact cnt_pick 8 w (by omega)
 ·exact cnt_call 9 w (by omega)
 ·exact cnt_chain 10 w (by omega)
 ·exact cnt_one 11 w (by omega)
 ·exact cnt_var 12 w (by omega)
 ·exact cnt_one 13 w (by omega)
 ·exact cnt_one 14 w (by omega)
 ·exact cnt_var 15 w (by omega)
 ·exact cnt_if 16 w (by omega)
 ·exact cnt_while 17 w (by omega)
 ·exact cnt_list 18 w (by omega)
 ·exact cnt_none 19 w (by omega)
 ·exact cnt_call 20 w (by omega)
 ·exact cnt_list 21 w (by omega)
 ·exact cnt_list 22 w (by omega)
theorem fit_def (A : Option Addr) (n c : Nat) (ps : List PN) (k i : Nat) (x y : PN) (q : Nat) (w : World) (hn : n ≤ 1048576) (hps : Nps w A n ps) (hb : Hid (PNs ps)) (hk : k < n) (hx : Hid (ps[k]? = some x)) (hi : i < x.kids.length) (hd : Hid (x.kids[i]? = some (q : Int))) (hq : q < n) (hy : Hid (ps[q]? = some y)) (hkind : x.kind = 1 ∨ x.kind = 2 ∨ x.kind = 3 ∨ x.kind = 4 ∨ x.kind = 5 ∨ x.kind = 6 ∨ x.kind = 7 ∨ x.kind = 8 ∨ x.kind = 11 ∨ x.kind = 12 ∨ x.kind = 13 ∨ x.kind = 14 ∨ x.kind = 15 ∨ x.kind = 19) :
  Calls prog 209 #[.slice A n c, .int .i64 k, .int .i64 i] w fun e w' => e = .returned (.bool (fitB ps x.kind x.kids.length i q)) ∧ Below w.heap.size w w' := by
 have hxk := (hb.out x (List.mem_of_getElem? hx.out)).2
 obtain ⟨b, off, A2, c2, rfl, hblt, x0, x1, x2, x3, hxr⟩ := hps.at_ hk hx.out
 obtain ⟨b3, off3, A3, c3, e3, hblt3, y0, y1, y2, y3, hyr⟩ := hps.at_ hq hy.out
 injection e3 with e3
 injection e3 with e31 e32
 subst e31; subst e32
 obtain ⟨b5, off5, rfl, hblt5, cv⟩ := int_at hxr hi hd.out
 have g0 : (0 : Int) ≤ (q : Int) := by omega
 have g1 : (q : Int) < n := by omega
 have g2 : (k : Int) < n := by omega
 have g3 : (i : Int) < x.kids.length := by omega
 have hka := kindAt_some hy.out
 have hfb : fitB ps x.kind x.kids.length i (q : Int) = valueK y.kind := by
  unfold fitB; rw [hka, if_neg (by omega), if_neg (by omega), if_neg (by omega), if_neg (by omega), if_neg (by omega), if_neg (by omega), if_neg (by omega)]
 rw [hfb]
 have HV := hid (fun W => specValue_any y.kind W)
 generalize valueK y.kind = u at HV ⊢
 have d9 : (x.kind == 9) = false := by rw [beq_eq_false_iff_ne]; omega
 have d20 : (x.kind == 20) = false := by rw [beq_eq_false_iff_ne]; omega
 have d10 : (x.kind == 10) = false := by rw [beq_eq_false_iff_ne]; omega
 have d16 : (x.kind == 16) = false := by rw [beq_eq_false_iff_ne]; omega
 have d17 : (x.kind == 17) = false := by rw [beq_eq_false_iff_ne]; omega
 have d18 : (x.kind == 18) = false := by rw [beq_eq_false_iff_ne]; omega
 have d21 : (x.kind == 21) = false := by rw [beq_eq_false_iff_ne]; omega
 have d22 : (x.kind == 22) = false := by rw [beq_eq_false_iff_ne]; omega
 clear hkind hfb hka hxr hyr
 go_enter func209, ntmps209
 go_wp2_with fail
 refine (HV.out _).mono ?_
 rintro e w1 ⟨rfl, rfl⟩
 go_wp2
 go_ret
 exact ⟨rfl, grow_⟩
theorem fit_fn (A : Option Addr) (n c : Nat) (ps : List PN) (k i : Nat) (x y : PN) (q : Nat) (w : World) (hn : n ≤ 1048576) (hps : Nps w A n ps) (hb : Hid (PNs ps)) (hk : k < n) (hx : Hid (ps[k]? = some x)) (hi : i < x.kids.length) (hd : Hid (x.kids[i]? = some (q : Int))) (hq : q < n) (hy : Hid (ps[q]? = some y)) (hkind : x.kind = 9) :
  Calls prog 209 #[.slice A n c, .int .i64 k, .int .i64 i] w fun e w' => e = .returned (.bool (fitB ps x.kind x.kids.length i q)) ∧ Below w.heap.size w w' := by
 have hxk := (hb.out x (List.mem_of_getElem? hx.out)).2
 obtain ⟨b, off, A2, c2, rfl, hblt, x0, x1, x2, x3, hxr⟩ := hps.at_ hk hx.out
 obtain ⟨b3, off3, A3, c3, e3, hblt3, y0, y1, y2, y3, hyr⟩ := hps.at_ hq hy.out
 injection e3 with e3
 injection e3 with e31 e32
 subst e31; subst e32
 obtain ⟨b5, off5, rfl, hblt5, cv⟩ := int_at hxr hi hd.out
 have g0 : (0 : Int) ≤ (q : Int) := by omega
 have g1 : (q : Int) < n := by omega
 have g2 : (k : Int) < n := by omega
 have g3 : (i : Int) < x.kids.length := by omega
 have hka := kindAt_some hy.out
 rw [hkind] at x0
 have hfb : fitB ps x.kind x.kids.length i (q : Int) = if i + 1 < x.kids.length then isK 1 y.kind else valueK y.kind := by
  rw [hkind]; unfold fitB; rw [hka]; simp
 rw [hfb]
 clear hfb hka hxr hyr hkind
 by_cases ht : i + 1 < x.kids.length
 ·rw [if_pos ht]
  have i1 : ((i : Int) + 1 < x.kids.length) := by omega
  go_enter func209, ntmps209
  go_wp2
  go_ret
  exact ⟨rfl, grow_⟩
 ·rw [if_neg ht]
  have i1 : (¬ (i : Int) + 1 < x.kids.length) := by omega
  have HV := hid (fun W => specValue_any y.kind W)
  generalize valueK y.kind = u at HV ⊢
  go_enter func209, ntmps209
  go_wp2_with fail
  refine (HV.out _).mono ?_
  rintro e w1 ⟨rfl, rfl⟩
  go_wp2
  go_ret
  exact ⟨rfl, grow_⟩
theorem fit_method (A : Option Addr) (n c : Nat) (ps : List PN) (k i : Nat) (x y : PN) (q : Nat) (w : World) (hn : n ≤ 1048576) (hps : Nps w A n ps) (hb : Hid (PNs ps)) (hk : k < n) (hx : Hid (ps[k]? = some x)) (hi : i < x.kids.length) (hd : Hid (x.kids[i]? = some (q : Int))) (hq : q < n) (hy : Hid (ps[q]? = some y)) (hkind : x.kind = 20) :
  Calls prog 209 #[.slice A n c, .int .i64 k, .int .i64 i] w fun e w' => e = .returned (.bool (fitB ps x.kind x.kids.length i q)) ∧ Below w.heap.size w w' := by
 have hxk := (hb.out x (List.mem_of_getElem? hx.out)).2
 obtain ⟨b, off, A2, c2, rfl, hblt, x0, x1, x2, x3, hxr⟩ := hps.at_ hk hx.out
 obtain ⟨b3, off3, A3, c3, e3, hblt3, y0, y1, y2, y3, hyr⟩ := hps.at_ hq hy.out
 injection e3 with e3
 injection e3 with e31 e32
 subst e31; subst e32
 obtain ⟨b5, off5, rfl, hblt5, cv⟩ := int_at hxr hi hd.out
 have g0 : (0 : Int) ≤ (q : Int) := by omega
 have g1 : (q : Int) < n := by omega
 have g2 : (k : Int) < n := by omega
 have g3 : (i : Int) < x.kids.length := by omega
 have hka := kindAt_some hy.out
 rw [hkind] at x0
 have hfb : fitB ps x.kind x.kids.length i (q : Int) = if i + 1 < x.kids.length then isK 1 y.kind else isK 18 y.kind := by
  rw [hkind]; unfold fitB; rw [hka]; simp
 rw [hfb]
 clear hfb hka hxr hyr hkind
 by_cases ht : i + 1 < x.kids.length
 ·rw [if_pos ht]
  have i1 : ((i : Int) + 1 < x.kids.length) := by omega
  go_enter func209, ntmps209
  go_wp2
  go_ret
  exact ⟨rfl, grow_⟩
 ·rw [if_neg ht]
  have i1 : (¬ (i : Int) + 1 < x.kids.length) := by omega
  go_enter func209, ntmps209
  go_wp2
  go_ret
  exact ⟨rfl, grow_⟩
theorem fit_if (A : Option Addr) (n c : Nat) (ps : List PN) (k i : Nat) (x y : PN) (q : Nat) (w : World) (hn : n ≤ 1048576) (hps : Nps w A n ps) (hb : Hid (PNs ps)) (hk : k < n) (hx : Hid (ps[k]? = some x)) (hi : i < x.kids.length) (hd : Hid (x.kids[i]? = some (q : Int))) (hq : q < n) (hy : Hid (ps[q]? = some y)) (hkind : x.kind = 16) :
  Calls prog 209 #[.slice A n c, .int .i64 k, .int .i64 i] w fun e w' => e = .returned (.bool (fitB ps x.kind x.kids.length i q)) ∧ Below w.heap.size w w' := by
 have hxk := (hb.out x (List.mem_of_getElem? hx.out)).2
 obtain ⟨b, off, A2, c2, rfl, hblt, x0, x1, x2, x3, hxr⟩ := hps.at_ hk hx.out
 obtain ⟨b3, off3, A3, c3, e3, hblt3, y0, y1, y2, y3, hyr⟩ := hps.at_ hq hy.out
 injection e3 with e3
 injection e3 with e31 e32
 subst e31; subst e32
 obtain ⟨b5, off5, rfl, hblt5, cv⟩ := int_at hxr hi hd.out
 have g0 : (0 : Int) ≤ (q : Int) := by omega
 have g1 : (q : Int) < n := by omega
 have g2 : (k : Int) < n := by omega
 have g3 : (i : Int) < x.kids.length := by omega
 have hka := kindAt_some hy.out
 rw [hkind] at x0
 have hfb : fitB ps x.kind x.kids.length i (q : Int) = if 0 < i then isK 18 y.kind else valueK y.kind := by
  rw [hkind]; unfold fitB; rw [hka]; simp
 rw [hfb]
 clear hfb hka hxr hyr hkind
 by_cases ht : 0 < i
 ·rw [if_pos ht]
  have i1 : ((0 : Int) < i) := by omega
  go_enter func209, ntmps209
  go_wp2
  go_ret
  exact ⟨rfl, grow_⟩
 ·rw [if_neg ht]
  have i1 : (¬ (0 : Int) < i) := by omega
  have HV := hid (fun W => specValue_any y.kind W)
  generalize valueK y.kind = u at HV ⊢
  go_enter func209, ntmps209
  go_wp2_with fail
  refine (HV.out _).mono ?_
  rintro e w1 ⟨rfl, rfl⟩
  go_wp2
  go_ret
  exact ⟨rfl, grow_⟩
theorem fit_while (A : Option Addr) (n c : Nat) (ps : List PN) (k i : Nat) (x y : PN) (q : Nat) (w : World) (hn : n ≤ 1048576) (hps : Nps w A n ps) (hb : Hid (PNs ps)) (hk : k < n) (hx : Hid (ps[k]? = some x)) (hi : i < x.kids.length) (hd : Hid (x.kids[i]? = some (q : Int))) (hq : q < n) (hy : Hid (ps[q]? = some y)) (hkind : x.kind = 17) :
  Calls prog 209 #[.slice A n c, .int .i64 k, .int .i64 i] w fun e w' => e = .returned (.bool (fitB ps x.kind x.kids.length i q)) ∧ Below w.heap.size w w' := by
 have hxk := (hb.out x (List.mem_of_getElem? hx.out)).2
 obtain ⟨b, off, A2, c2, rfl, hblt, x0, x1, x2, x3, hxr⟩ := hps.at_ hk hx.out
 obtain ⟨b3, off3, A3, c3, e3, hblt3, y0, y1, y2, y3, hyr⟩ := hps.at_ hq hy.out
 injection e3 with e3
 injection e3 with e31 e32
 subst e31; subst e32
 obtain ⟨b5, off5, rfl, hblt5, cv⟩ := int_at hxr hi hd.out
 have g0 : (0 : Int) ≤ (q : Int) := by omega
 have g1 : (q : Int) < n := by omega
 have g2 : (k : Int) < n := by omega
 have g3 : (i : Int) < x.kids.length := by omega
 have hka := kindAt_some hy.out
 rw [hkind] at x0
 have hfb : fitB ps x.kind x.kids.length i (q : Int) = if 0 < i then isK 18 y.kind else valueK y.kind := by
  rw [hkind]; unfold fitB; rw [hka]; simp
 rw [hfb]
 clear hfb hka hxr hyr hkind
 by_cases ht : 0 < i
 ·rw [if_pos ht]
  have i1 : ((0 : Int) < i) := by omega
  go_enter func209, ntmps209
  go_wp2
  go_ret
  exact ⟨rfl, grow_⟩
 ·rw [if_neg ht]
  have i1 : (¬ (0 : Int) < i) := by omega
  have HV := hid (fun W => specValue_any y.kind W)
  generalize valueK y.kind = u at HV ⊢
  go_enter func209, ntmps209
  go_wp2_with fail
  refine (HV.out _).mono ?_
  rintro e w1 ⟨rfl, rfl⟩
  go_wp2
  go_ret
  exact ⟨rfl, grow_⟩
theorem fit_block (A : Option Addr) (n c : Nat) (ps : List PN) (k i : Nat) (x y : PN) (q : Nat) (w : World) (hn : n ≤ 1048576) (hps : Nps w A n ps) (hb : Hid (PNs ps)) (hk : k < n) (hx : Hid (ps[k]? = some x)) (hi : i < x.kids.length) (hd : Hid (x.kids[i]? = some (q : Int))) (hq : q < n) (hy : Hid (ps[q]? = some y)) (hkind : x.kind = 18) :
  Calls prog 209 #[.slice A n c, .int .i64 k, .int .i64 i] w fun e w' => e = .returned (.bool (fitB ps x.kind x.kids.length i q)) ∧ Below w.heap.size w w' := by
 have hxk := (hb.out x (List.mem_of_getElem? hx.out)).2
 obtain ⟨b, off, A2, c2, rfl, hblt, x0, x1, x2, x3, hxr⟩ := hps.at_ hk hx.out
 obtain ⟨b3, off3, A3, c3, e3, hblt3, y0, y1, y2, y3, hyr⟩ := hps.at_ hq hy.out
 injection e3 with e3
 injection e3 with e31 e32
 subst e31; subst e32
 obtain ⟨b5, off5, rfl, hblt5, cv⟩ := int_at hxr hi hd.out
 have g0 : (0 : Int) ≤ (q : Int) := by omega
 have g1 : (q : Int) < n := by omega
 have g2 : (k : Int) < n := by omega
 have g3 : (i : Int) < x.kids.length := by omega
 have hka := kindAt_some hy.out
 rw [hkind] at x0
 have hfb : fitB ps x.kind x.kids.length i (q : Int) = stmtK y.kind := by
  rw [hkind]; unfold fitB; rw [hka]; simp
 rw [hfb]
 clear hfb hka hxr hyr hkind
 have HV := hid (fun W => specStmt_any y.kind W)
 generalize stmtK y.kind = u at HV ⊢
 go_enter func209, ntmps209
 go_wp2_with fail
 refine (HV.out _).mono ?_
 rintro e w1 ⟨rfl, rfl⟩
 go_wp2
 go_ret
 exact ⟨rfl, grow_⟩
theorem fit_class (A : Option Addr) (n c : Nat) (ps : List PN) (k i : Nat) (x y : PN) (q : Nat) (w : World) (hn : n ≤ 1048576) (hps : Nps w A n ps) (hb : Hid (PNs ps)) (hk : k < n) (hx : Hid (ps[k]? = some x)) (hi : i < x.kids.length) (hd : Hid (x.kids[i]? = some (q : Int))) (hq : q < n) (hy : Hid (ps[q]? = some y)) (hkind : x.kind = 21) :
  Calls prog 209 #[.slice A n c, .int .i64 k, .int .i64 i] w fun e w' => e = .returned (.bool (fitB ps x.kind x.kids.length i q)) ∧ Below w.heap.size w w' := by
 have hxk := (hb.out x (List.mem_of_getElem? hx.out)).2
 obtain ⟨b, off, A2, c2, rfl, hblt, x0, x1, x2, x3, hxr⟩ := hps.at_ hk hx.out
 obtain ⟨b3, off3, A3, c3, e3, hblt3, y0, y1, y2, y3, hyr⟩ := hps.at_ hq hy.out
 injection e3 with e3
 injection e3 with e31 e32
 subst e31; subst e32
 obtain ⟨b5, off5, rfl, hblt5, cv⟩ := int_at hxr hi hd.out
 have g0 : (0 : Int) ≤ (q : Int) := by omega
 have g1 : (q : Int) < n := by omega
 have g2 : (k : Int) < n := by omega
 have g3 : (i : Int) < x.kids.length := by omega
 have hka := kindAt_some hy.out
 rw [hkind] at x0
 have hfb : fitB ps x.kind x.kids.length i (q : Int) = (y.kind == 12 || (y.kind == 20 || y.kind == 19)) := by
  rw [hkind]; unfold fitB; rw [hka]; simp [isK, memberK, Bool.or_assoc]
 rw [hfb]
 clear hfb hka hxr hyr hkind
 cases e0 : (y.kind == 12) with
 | true =>
  simp only [Bool.true_or, Bool.or_true, Bool.false_or]
  go_enter func209, ntmps209
  go_wp2
  go_ret
  exact ⟨rfl, grow_⟩
 | false =>
  cases e1 : (y.kind == 20) with
  | true =>
   simp only [Bool.true_or, Bool.or_true, Bool.false_or]
   go_enter func209, ntmps209
   go_wp2
   go_ret
   exact ⟨rfl, grow_⟩
  | false =>
   simp only [Bool.false_or]
   go_enter func209, ntmps209
   go_wp2
   go_ret
   exact ⟨rfl, grow_⟩
theorem fit_file (A : Option Addr) (n c : Nat) (ps : List PN) (k i : Nat) (x y : PN) (q : Nat) (w : World) (hn : n ≤ 1048576) (hps : Nps w A n ps) (hb : Hid (PNs ps)) (hk : k < n) (hx : Hid (ps[k]? = some x)) (hi : i < x.kids.length) (hd : Hid (x.kids[i]? = some (q : Int))) (hq : q < n) (hy : Hid (ps[q]? = some y)) (hkind : x.kind = 22) :
  Calls prog 209 #[.slice A n c, .int .i64 k, .int .i64 i] w fun e w' => e = .returned (.bool (fitB ps x.kind x.kids.length i q)) ∧ Below w.heap.size w w' := by
 have hxk := (hb.out x (List.mem_of_getElem? hx.out)).2
 obtain ⟨b, off, A2, c2, rfl, hblt, x0, x1, x2, x3, hxr⟩ := hps.at_ hk hx.out
 obtain ⟨b3, off3, A3, c3, e3, hblt3, y0, y1, y2, y3, hyr⟩ := hps.at_ hq hy.out
 injection e3 with e3
 injection e3 with e31 e32
 subst e31; subst e32
 obtain ⟨b5, off5, rfl, hblt5, cv⟩ := int_at hxr hi hd.out
 have g0 : (0 : Int) ≤ (q : Int) := by omega
 have g1 : (q : Int) < n := by omega
 have g2 : (k : Int) < n := by omega
 have g3 : (i : Int) < x.kids.length := by omega
 have hka := kindAt_some hy.out
 rw [hkind] at x0
 have hfb : fitB ps x.kind x.kids.length i (q : Int) = (y.kind == 21 || (y.kind == 12 || (y.kind == 20 || y.kind == 19))) := by
  rw [hkind]; unfold fitB; rw [hka]; simp [isK, memberK, Bool.or_assoc]
 rw [hfb]
 clear hfb hka hxr hyr hkind
 cases e0 : (y.kind == 21) with
 | true =>
  simp only [Bool.true_or, Bool.or_true, Bool.false_or]
  go_enter func209, ntmps209
  go_wp2
  go_ret
  exact ⟨rfl, grow_⟩
 | false =>
  cases e1 : (y.kind == 12) with
  | true =>
   simp only [Bool.true_or, Bool.or_true, Bool.false_or]
   go_enter func209, ntmps209
   go_wp2
   go_ret
   exact ⟨rfl, grow_⟩
  | false =>
   cases e2 : (y.kind == 20) with
   | true =>
    simp only [Bool.true_or, Bool.or_true, Bool.false_or]
    go_enter func209, ntmps209
    go_wp2
    go_ret
    exact ⟨rfl, grow_⟩
   | false =>
    simp only [Bool.false_or]
    go_enter func209, ntmps209
    go_wp2
    go_ret
    exact ⟨rfl, grow_⟩
theorem fit_cascade (A : Option Addr) (n c : Nat) (ps : List PN) (k i : Nat) (x y : PN) (q : Nat) (w : World) (hn : n ≤ 1048576) (hps : Nps w A n ps) (hb : Hid (PNs ps)) (hk : k < n) (hx : Hid (ps[k]? = some x)) (hi : i < x.kids.length) (hd : Hid (x.kids[i]? = some (q : Int))) (hq : q < n) (hy : Hid (ps[q]? = some y)) (hcall : y.kind = 5 → ∃ (r : Nat) (js : List Int), y.kids = (r : Int) :: js ∧ r < n) (hkind : x.kind = 10) :
  Calls prog 209 #[.slice A n c, .int .i64 k, .int .i64 i] w fun e w' => e = .returned (.bool (fitB ps x.kind x.kids.length i q)) ∧ Below w.heap.size w w' := by
 have hxk := (hb.out x (List.mem_of_getElem? hx.out)).2
 obtain ⟨b, off, A2, c2, rfl, hblt, x0, x1, x2, x3, hxr⟩ := hps.at_ hk hx.out
 obtain ⟨b3, off3, A3, c3, e3, hblt3, y0, y1, y2, y3, hyr⟩ := hps.at_ hq hy.out
 injection e3 with e3
 injection e3 with e31 e32
 subst e31; subst e32
 obtain ⟨b5, off5, rfl, hblt5, cv⟩ := int_at hxr hi hd.out
 have g0 : (0 : Int) ≤ (q : Int) := by omega
 have g1 : (q : Int) < n := by omega
 have g2 : (k : Int) < n := by omega
 have g3 : (i : Int) < x.kids.length := by omega
 have hka := kindAt_some hy.out
 rw [hkind] at x0
 have hfb : fitB ps x.kind x.kids.length i (q : Int) = if 0 < i then isK 5 y.kind && (match y.kids with | j :: _ => isK 1 (kindAt ps j) | [] => false) else valueK y.kind := by
  rw [hkind]; unfold fitB; rw [hka, Int.toNat_natCast, hy.out]; simp <;> rfl
 rw [hfb]
 clear hfb hka hxr hkind
 by_cases ht : 0 < i
 ·rw [if_pos ht]
  have i1 : (0 : Int) < i := by omega
  by_cases h5 : y.kind = 5
  ·obtain ⟨r, js, hyk, hrn⟩ := hcall h5
   have hyz : 0 < y.kids.length := by rw [hyk]; simp
   have hj0 : y.kids[0]? = some (r : Int) := by rw [hyk]; rfl
   obtain ⟨b6, off6, rfl, hblt6, cj⟩ := int_at hyr hyz hj0
   simp only [Nat.add_zero] at cj
   have i2 : (0 : Int) < y.kids.length := by omega
   have g4 : (0 : Int) ≤ (r : Int) := by omega
   have g5 : (r : Int) < n := by omega
   obtain ⟨zz, hzz⟩ := hps.get hrn
   obtain ⟨b4, off4, A4, c4, e4, hblt4, z0, z1, z2, z3, hzr⟩ := hps.at_ hrn hzz
   injection e4 with e4
   injection e4 with e41 e42
   subst e41; subst e42
   have hres : (isK 5 y.kind && (match y.kids with | j :: _ => isK 1 (kindAt ps j) | [] => false)) = (zz.kind == 1) := by
    rw [hyk, h5]; simp only [kindAt_some hzz]; rfl
   rw [hres]
   rw [h5] at y0
   clear hres hyk hj0 hzr hyr z1 z2 z3 hzz
   go_enter func209, ntmps209
   go_wp2
   go_ret
   exact ⟨rfl, grow_⟩
  ·have e5 : (y.kind == 5) = false := by rw [beq_eq_false_iff_ne]; exact h5
   have hres : (isK 5 y.kind && (match y.kids with | j :: _ => isK 1 (kindAt ps j) | [] => false)) = false := by
    unfold isK; rw [e5, Bool.false_and]
   rw [hres]
   clear hres hyr
   go_enter func209, ntmps209
   go_wp2
   go_ret
   exact ⟨rfl, grow_⟩
 ·rw [if_neg ht]
  have i1 : ¬ (0 : Int) < i := by omega
  have HV := hid (fun W => specValue_any y.kind W)
  generalize valueK y.kind = u at HV ⊢
  clear hyr
  go_enter func209, ntmps209
  go_wp2_with fail
  refine (HV.out _).mono ?_
  rintro e w1 ⟨rfl, rfl⟩
  go_wp2
  go_ret
  exact ⟨rfl, grow_⟩
theorem l05Fits_any (A : Option Addr) (n c : Nat) (ps : List PN) (k i : Nat) (x y : PN) (q : Nat) (w : World) (hn : n ≤ 1048576) (hps : Nps w A n ps) (hb : Hid (PNs ps)) (hk : k < n) (hx : Hid (ps[k]? = some x)) (hi : i < x.kids.length) (hd : Hid (x.kids[i]? = some (q : Int))) (hq : q < n) (hy : Hid (ps[q]? = some y)) (hcall : y.kind = 5 → ∃ (r : Nat) (js : List Int), y.kids = (r : Int) :: js ∧ r < n) (hkind : 1 ≤ x.kind ∧ x.kind ≤ 22) :
  Calls prog 209 #[.slice A n c, .int .i64 k, .int .i64 i] w fun e w' => e = .returned (.bool (fitB ps x.kind x.kids.length i q)) ∧ Below w.heap.size w w' := by
 by_cases h9 : x.kind = 9
 ·exact fit_fn A n c ps k i x y q w hn hps hb hk hx hi hd hq hy h9
 by_cases h20 : x.kind = 20
 ·exact fit_method A n c ps k i x y q w hn hps hb hk hx hi hd hq hy h20
 by_cases h10 : x.kind = 10
 ·exact fit_cascade A n c ps k i x y q w hn hps hb hk hx hi hd hq hy hcall h10
 by_cases h16 : x.kind = 16
 ·exact fit_if A n c ps k i x y q w hn hps hb hk hx hi hd hq hy h16
 by_cases h17 : x.kind = 17
 ·exact fit_while A n c ps k i x y q w hn hps hb hk hx hi hd hq hy h17
 by_cases h18 : x.kind = 18
 ·exact fit_block A n c ps k i x y q w hn hps hb hk hx hi hd hq hy h18
 by_cases h21 : x.kind = 21
 ·exact fit_class A n c ps k i x y q w hn hps hb hk hx hi hd hq hy h21
 by_cases h22 : x.kind = 22
 ·exact fit_file A n c ps k i x y q w hn hps hb hk hx hi hd hq hy h22
 exact fit_def A n c ps k i x y q w hn hps hb hk hx hi hd hq hy (by omega)
def callIn (ps : List PN) (v : Int) : Bool :=
 match ps[v.toNat]? with
 | some y => if y.kind = 5 then (match y.kids with | [] => false | j :: _ => inB j 0 ((ps.length : Int) - 1)) else true
 | none => false
section
variable {ps : List PN} {k : Nat} {y : PN} {j : Int} {js : List Int}
theorem callIn_other (h : ps[k]? = some y) (h5 : ¬ y.kind = 5) : callIn ps (k : Int) = true := by unfold callIn; rw [Int.toNat_natCast, h]; simp only; rw [if_neg h5]
theorem callIn_bare (h : ps[k]? = some y) (h5 : y.kind = 5) (hk : y.kids = []) : callIn ps (k : Int) = false := by unfold callIn; rw [Int.toNat_natCast, h]; simp only; rw [if_pos h5, hk]
theorem callIn_some (h : ps[k]? = some y) (h5 : y.kind = 5) (hk : y.kids = j :: js) : callIn ps (k : Int) = inB j 0 ((ps.length : Int) - 1) := by unfold callIn; rw [Int.toNat_natCast, h]; simp only; rw [if_pos h5, hk]
end
def kidFit (ps : List PN) (x : PN) (i : Nat) (v : Int) : Bool := callIn ps v && fitB ps x.kind x.kids.length i v
def specNB (ps : List PN) (k : Nat) : Bool :=
 match ps[k]? with
 | some x => inB x.kind 1 22 && (inB (x.kids.length : Int) (cntLo x.kind) (cntHi x.kind) && (textB x.kind x.text && (!(x.blank && !mayK x.kind) && (kidsB k x.kids && allIB (kidFit ps x) x.kids))))
 | none => false
theorem mayK_eq (k : Int) : mayK k = (stmtK k || k == 20 || k == 21) := by
 unfold mayK stmtK memberK stepK
 cases h12 : (k == 12) with
 | true =>
  rw [beq_iff_eq] at h12
  subst h12
  decide
 | false =>
  generalize inB k 12 17 = a
  generalize (k == 20) = b
  generalize (k == 19) = d
  generalize (k == 21) = e
  revert a b d e
  decide
theorem specNodeOk_in (A : Option Addr) (n c : Nat) (ps : List PN) (k : Nat) (w : World) (hn : n ≤ 1048576) (hps : Nps w A n ps) (hb : Hid (PNs ps)) (hk : k < n) :
  Calls prog 174 #[.slice A n c, .int .i64 k] w fun e w' => e = .returned (.bool (specNB ps k)) ∧ Below w.heap.size w w' := by
 have HP := hid hps
 have HL := hid hps.len
 obtain ⟨x, hx⟩ := hps.get hk
 obtain ⟨b, off, A2, c2, rfl, hblt, x0, x1, x2, x3, hcap, hxr⟩ := hps.atc hk hx
 have hxb := hb.out x (List.mem_of_getElem? hx)
 have HX := hid hx
 have HXR := hid hxr
 have HN := hid (fun W => l01In_is' (show inB (k : Int) 0 ((n : Int) - 1) = true from decide_eq_true (by omega)) W)
 have hk' : (k : Int) < n := by omega
 obtain ⟨hxt, hxk⟩ := hxb
 have HNB : Hid (specNB ps k = (inB x.kind 1 22 && (inB (x.kids.length : Int) (cntLo x.kind) (cntHi x.kind) && (textB x.kind x.text && (!(x.blank && !mayK x.kind) && (kidsB k x.kids && allIB (kidFit ps x) x.kids)))))) := (show _ = _ by unfold specNB; rw [hx])
 clear hps hx hxr
 generalize specNB ps k = NB at HNB ⊢
 cases hkd : inB x.kind 1 22 with
 | false =>
  have hNB : NB = false := by rw [HNB.out, hkd]; rfl
  subst hNB
  have HK := hid (fun W => l01In_is' hkd W)
  clear HNB hkd
  go_enter func174, ntmps174
  go_wp2_with fail
  refine (HN.out _).mono ?_
  rintro e w1 ⟨rfl, rfl⟩
  go_wp2_with fail
  refine (HK.out _).mono ?_
  rintro e w1 ⟨rfl, rfl⟩
  go_wp2
  go_ret
  exact ⟨rfl, grow_⟩
 | true =>
  have HK := hid (fun W => l01In_is' hkd W)
  have hkd2 : 1 ≤ x.kind ∧ x.kind ≤ 22 := of_decide_eq_true hkd
  have HC := hid (fun W => l05Count_any x.kind W hkd2)
  have HKD := hid hkd2
  replace HNB : Hid (NB = (inB (x.kids.length : Int) (cntLo x.kind) (cntHi x.kind) && (textB x.kind x.text && (!(x.blank && !mayK x.kind) && (kidsB k x.kids && allIB (kidFit ps x) x.kids))))) := (show _ = _ by rw [HNB.out, hkd, Bool.true_and])
  clear hkd hkd2
  have HCI := hid (fun (v : Bool) (h : inB (x.kids.length : Int) (cntLo x.kind) (cntHi x.kind) = v) W => l01In_is' h W)
  cases hci : inB (x.kids.length : Int) (cntLo x.kind) (cntHi x.kind) with
  | false =>
   have hNB : NB = false := by rw [HNB.out, hci]; rfl
   subst hNB
   have HCI2 := hid (HCI.out _ hci)
   clear HNB hci HCI
   generalize cntLo x.kind = lo at *
   generalize cntHi x.kind = hh at *
   go_enter func174, ntmps174
   go_wp2_with fail
   refine (HN.out _).mono ?_
   rintro e w1 ⟨rfl, rfl⟩
   go_wp2_with fail
   refine (HK.out _).mono ?_
   rintro e w1 ⟨rfl, rfl⟩
   go_wp2_with fail
   refine (HC.out _).mono ?_
   rintro e w1 ⟨rfl, rfl⟩
   go_wp2_with fail
   refine (HCI2.out _).mono ?_
   rintro e w1 ⟨rfl, rfl⟩
   go_wp2
   go_ret
   exact ⟨rfl, grow_⟩
  | true =>
   have HCI2 := hid (HCI.out _ hci)
   replace HNB : Hid (NB = (textB x.kind x.text && (!(x.blank && !mayK x.kind) && (kidsB k x.kids && allIB (kidFit ps x) x.kids)))) := (show _ = _ by rw [HNB.out, hci, Bool.true_and])
   clear hci HCI
   have HT := hid (fun (v : Bool) (h : textB x.kind x.text = v) W => show Calls prog 207 #[.int .i64 x.kind, .string x.text] W fun e w' => e = .returned (.bool v) ∧ Below W.heap.size W w' by rw [← h]; exact l05Text_any x.kind x.text W (by omega))
   generalize cntLo x.kind = lo at *
   generalize cntHi x.kind = hh at *
   cases ht : textB x.kind x.text with
   | false =>
    have hNB : NB = false := by rw [HNB.out, ht]; rfl
    subst hNB
    have HT2 := hid (HT.out _ ht)
    clear HNB ht HT
    go_enter func174, ntmps174
    go_wp2_with fail
    refine (HN.out _).mono ?_
    rintro e w1 ⟨rfl, rfl⟩
    go_wp2_with fail
    refine (HK.out _).mono ?_
    rintro e w1 ⟨rfl, rfl⟩
    go_wp2_with fail
    refine (HC.out _).mono ?_
    rintro e w1 ⟨rfl, rfl⟩
    go_wp2_with fail
    refine (HCI2.out _).mono ?_
    rintro e w1 ⟨rfl, rfl⟩
    go_wp2_with fail
    refine (HT2.out _).mono ?_
    rintro e w2 ⟨rfl, h2⟩
    go_wp2
    go_ret
    exact ⟨rfl, below_box h2⟩
   | true =>
    have HT2 := hid (HT.out _ ht)
    replace HNB : Hid (NB = (!(x.blank && !mayK x.kind) && (kidsB k x.kids && allIB (kidFit ps x) x.kids))) := (show _ = _ by rw [HNB.out, ht, Bool.true_and])
    clear ht HT
    go_enter func174, ntmps174
    go_wp2_with fail
    refine (HN.out _).mono ?_
    rintro e w1 ⟨rfl, rfl⟩
    go_wp2_with fail
    refine (HK.out _).mono ?_
    rintro e w1 ⟨rfl, rfl⟩
    go_wp2_with fail
    refine (HC.out _).mono ?_
    rintro e w1 ⟨rfl, rfl⟩
    go_wp2_with fail
    refine (HCI2.out _).mono ?_
    rintro e w1 ⟨rfl, rfl⟩
    go_wp2_with fail
    refine (HT2.out _).mono ?_
    rintro e w2 ⟨rfl, h2⟩
    have K := Blk.fresh h2
    have hbw := below_box h2
    clear h2 x0 x1 x2 x3 hblt HN HK HC HCI2 HT2
    have k0 := K.q0
    have k2 := K.q2
    have k3 := K.q3
    have kz := K.lt
    go_upto_region 7 with fail
    go_cut [69] (fun s wx => s = .bool (x.blank && !mayK x.kind) ∧ Blk wx w.heap.size 48 #[.int .i64 x.kind, .string x.text, .slice A2 x.kids.length c2, .bool x.blank] ∧ Below w.heap.size w wx)
    case first =>
     have HS := hid (fun (u : Bool) (h : stmtK x.kind = u) (W : World) => show Calls prog 208 #[.int .i64 x.kind] W fun e w' => e = .returned (.bool u) ∧ W = w' by rw [← h]; exact specStmt_any _ W)
     have hmk := hid (mayK_eq x.kind)
     clear HNB
     cases hbl : x.blank with
     | false =>
      rw [hbl] at k3
      clear HS hmk
      go_wp2
      go_meet
      case rel => exact ⟨by rw [hbl, Bool.false_and], K, hbw⟩
     | true =>
      rw [hbl] at k3
      cases hs : stmtK x.kind with
      | true =>
       have HS2 := hid (HS.out _ hs)
       have hm := hid (show mayK x.kind = true by rw [hmk.out, hs]; rfl)
       clear HS hs hmk
       go_wp2_with fail
       refine (HS2.out _).mono ?_
       rintro e w1 ⟨rfl, rfl⟩
       go_wp2
       go_meet
       case rel => exact ⟨by rw [hbl, hm.out]; rfl, K, hbw⟩
      | false =>
       have HS2 := hid (HS.out _ hs)
       cases h20 : (x.kind == 20) with
       | true =>
        have hm := hid (show mayK x.kind = true by rw [hmk.out, h20]; simp)
        have h20' : (x.kind != 20) = false := by unfold bne; rw [h20]; rfl
        clear HS hs hmk h20
        go_wp2_with fail
        refine (HS2.out _).mono ?_
        rintro e w1 ⟨rfl, rfl⟩
        go_wp2
        go_meet
        case rel => exact ⟨by rw [hbl, hm.out]; rfl, K, hbw⟩
       | false =>
        have hm := hid (show (!mayK x.kind) = (x.kind != 21) by rw [hmk.out, hs, h20]; rfl)
        have h20' : (x.kind != 20) = true := by unfold bne; rw [h20]; rfl
        clear HS hs hmk h20
        go_wp2_with fail
        refine (HS2.out _).mono ?_
        rintro e w1 ⟨rfl, rfl⟩
        go_wp2
        go_meet
        case rel => exact ⟨by rw [hbl, hm.out]; rfl, K, hbw⟩
    case rest =>
     clear K hbw k0 k2 k3 kz
     obtain ⟨rfl, K, hbw⟩ := hcut
     generalize hbm : (x.blank && !mayK x.kind) = bm at HNB ⊢
     clear hbm
     cases bm with
     | true =>
      have hNB : NB = false := HNB.out
      subst hNB
      go_wp2
      go_ret
      exact ⟨rfl, hbw⟩
     | false =>
      replace HNB : Hid (NB = (kidsB k x.kids && allIB (kidFit ps x) x.kids)) := (show _ = _ by rw [HNB.out]; rfl)
      have HNK := hid (fun h3 : kidsB k x.kids = false => show NB = false by rw [HNB.out, h3]; rfl)
      have HNA := hid (fun h3 : kidsB k x.kids = true => show NB = allIB (kidFit ps x) x.kids by rw [HNB.out, h3]; rfl)
      clear HNB
      go_wp2
      go_loopw [8] (fun i wr => ∃ t : Nat, t ≤ x.kids.length ∧ i = .int .i64 t ∧ Hid (AllI (kidOk k x.kids) x.kids t) ∧ Blk wr w.heap.size 48 #[.int .i64 x.kind, .string x.text, .slice A2 x.kids.length c2, .bool x.blank] ∧ Below w.heap.size w wr) (fun i _ => x.kids.length - (intOf i).toNat)
      case atStart => exact ⟨0, Nat.zero_le _, rfl, allI_zero _ _, K, hbw⟩
      case round =>
       clear K hbw
       obtain ⟨t, htm, rfl, HA, K, hbw⟩ := hrel
       have kz := K.lt
       have k2 := K.q2
       by_cases hlt : t < x.kids.length
       ·obtain ⟨v, hd⟩ : ∃ d, x.kids[t]? = some d := ⟨_, List.getElem?_eq_getElem hlt⟩
        obtain ⟨b5, off5, rfl, hblt5, cv⟩ := int_at (HXR.out.below hbw) hlt hd
        have HI := hid (fun (u : Bool) (h : inB v 0 ((k : Int) - 1) = u) W => l01In_is' h W)
        cases hin : inB v 0 ((k : Int) - 1) with
        | false =>
         have hNB : NB = false := HNK.out (allIB_no hd (kidOk_lo hin))
         subst hNB
         have HI2 := hid (HI.out _ hin)
         clear hd HNA HNK hin HA HI
         go_wp2_with fail
         refine (HI2.out _).mono ?_
         rintro e w1 ⟨rfl, rfl⟩
         go_wp2
         go_ret
         exact ⟨rfl, hbw⟩
        | true =>
         have HI2 := hid (HI.out _ hin)
         have HD := hid hd
         have HINV := hid hin
         clear hd HI hin
         go_wp2_with fail
         refine (HI2.out _).mono ?_
         rintro e w1 ⟨rfl, rfl⟩
         go_wp2
         clear HI2
         go_loopw [9] (fun i w2 => ∃ s : Nat, s ≤ t ∧ i = .int .i64 s ∧ Hid ((x.kids.take s).contains v = false) ∧ Blk w2 w.heap.size 48 #[.int .i64 x.kind, .string x.text, .slice (some ⟨b5, off5, none⟩) x.kids.length c2, .bool x.blank] ∧ Below w.heap.size w w2) (fun i _ => t - (intOf i).toNat)
         case atStart => exact ⟨0, Nat.zero_le _, rfl, (show _ = _ by simp), K, hbw⟩
         case round =>
          clear K hbw kz k2 cv hblt5
          obtain ⟨s, hst, rfl, HC, K, hbw⟩ := hrel
          have kz := K.lt
          have k2 := K.q2
          by_cases hlt2 : s < t
          ·obtain ⟨u, hu⟩ : ∃ d, x.kids[s]? = some d := ⟨_, gE (by omega)⟩
           obtain ⟨b6, off6, e6, hblt6, cu⟩ := int_at (HXR.out.below hbw) (by omega) hu
           injection e6 with e6
           injection e6 with e61 e62
           subst e61; subst e62
           obtain ⟨b7, off7, e7, hblt7, cv⟩ := int_at (HXR.out.below hbw) hlt HD.out
           injection e7 with e7
           injection e7 with e71 e72
           subst e71; subst e72
           have gs : (s : Int) < x.kids.length := by omega
           have gt : (t : Int) < x.kids.length := by omega
           cases heq : (v == u) with
           | true =>
            have hNB : NB = false := HNK.out (allIB_no HD.out (kidOk_dup (by
             rw [List.contains_iff_exists_mem_beq]
             exact ⟨u, List.mem_of_getElem? (i := s) (by rw [List.getElem?_take, if_pos hlt2]; exact hu), heq⟩)))
            subst hNB
            rw [beq_iff_eq] at heq
            subst heq
            clear HNA HNK HA HC hu
            go_wp2
            go_quiet (fail)
            go_wp2
            go_ret
            exact ⟨rfl, grow_⟩
           | false =>
            have HC2 : Hid ((x.kids.take (s + 1)).contains v = false) := (show _ = _ by
             rw [List.take_add_one, hu]
             have := HC.out
             simp only [List.contains_eq_mem] at this ⊢
             simp at this heq ⊢
             exact ⟨this, heq⟩)
            clear HNA HNK HA HC hu
            go_wp2
            go_quiet (fail)
            go_wp2
            go_roundw
            case rel => exact ⟨s + 1, by omega, by go_num, HC2, K, grow_⟩
            case measure => simp [intOf]; omega
          ·obtain rfl : s = t := by omega
           have hA2 := hid (allI_step HA.out HD.out (kidOk_yes HINV.out HC.out))
           clear HNA HNK HA HC
           go_wp2
           go_roundw
           case rel => exact ⟨s + 1, by omega, by go_num, hA2, K, hbw⟩
           case measure => simp [intOf]; omega
       ·obtain rfl : t = x.kids.length := by omega
        have hkb := allI_all HA.out (Nat.le_refl _)
        have HNB2 := hid (HNA.out hkb)
        have HIN : Hid (∀ v ∈ x.kids, 0 ≤ v ∧ v < (n : Int)) := (show ∀ v ∈ x.kids, _ from fun v hv => by
         obtain ⟨j, hj⟩ := List.mem_iff_getElem?.1 hv
         have h1 := allIB_at hkb hj
         unfold kidOk at h1
         rw [Bool.and_eq_true] at h1
         have h2 := of_decide_eq_true h1.1
         exact ⟨h2.1, by omega⟩)
        clear HNA HNK HA hkb
        go_wp2
        go_loopw [10] (fun i wr => ∃ t : Nat, t ≤ x.kids.length ∧ i = .int .i64 t ∧ Hid (AllI (kidFit ps x) x.kids t) ∧ Blk wr w.heap.size 48 #[.int .i64 x.kind, .string x.text, .slice A2 x.kids.length c2, .bool x.blank] ∧ Below w.heap.size w wr) (fun i _ => x.kids.length - (intOf i).toNat)
        case atStart => exact ⟨0, Nat.zero_le _, rfl, allI_zero _ _, K, hbw⟩
        case round =>
         clear K hbw kz k2
         obtain ⟨t, htm, rfl, HA, K, hbw⟩ := hrel
         have kz := K.lt
         have k2 := K.q2
         by_cases hlt : t < x.kids.length
         ·obtain ⟨v, hd⟩ : ∃ d, x.kids[t]? = some d := ⟨_, List.getElem?_eq_getElem hlt⟩
          have hv := HIN.out v (List.mem_of_getElem? hd)
          obtain ⟨q, rfl⟩ := Int.eq_ofNat_of_zero_le hv.1
          have hqn : q < n := by omega
          have g0 : (0 : Int) ≤ (q : Int) := by omega
          have g1 : (q : Int) < n := by omega
          have gt : (t : Int) < x.kids.length := by omega
          obtain ⟨b5, off5, rfl, hblt5, cv⟩ := int_at (HXR.out.below hbw) hlt hd
          obtain ⟨y, hy⟩ := HP.out.get hqn
          obtain ⟨b3, off3, A3, c3, e3, hblt3, y0, y1, y2, y3, hyr⟩ := (HP.out.below hbw).at_ hqn hy
          injection e3 with e3
          injection e3 with e31 e32
          subst e31; subst e32
          have hyb := (hb.out y (List.mem_of_getElem? hy)).2
          have HY := hid hy
          have HD := hid hd
          have HF := hid (fun (hcall : y.kind = 5 → ∃ (r : Nat) (js : List Int), y.kids = (r : Int) :: js ∧ r < n) (u : Bool) (h : fitB ps x.kind x.kids.length t (q : Int) = u) (W : World) (hW : Below w.heap.size w W) => show Calls prog 209 #[.slice (some ⟨b, off, none⟩) n c, .int .i64 k, .int .i64 t] W fun e w' => e = .returned (.bool u) ∧ Below W.heap.size W w' by rw [← h]; exact l05Fits_any _ n c ps k t x y q W hn (HP.out.below hW) hb hk HX hlt HD hqn HY hcall HKD.out)
          have hb1 : Below w.heap.size w (wr.alloc (.cells #[.int .i64 y.kind, .string y.text, .slice A3 y.kids.length c3, .bool y.blank] 48)) := grow_
          clear hv hy hd
          by_cases h5 : y.kind = 5
          ·cases hyk : y.kids with
           | nil =>
            have hNB : NB = false := by rw [HNB2.out]; exact allIB_no HD.out (by unfold kidFit; rw [callIn_bare HY.out h5 hyk]; rfl)
            subst hNB
            rw [hyk] at y2
            rw [h5] at y0
            clear HNB2 HA HF hyr hyk hb1
            go_wp2
            go_ret
            exact ⟨rfl, grow_⟩
           | cons j js =>
            have hyz : 0 < y.kids.length := by rw [hyk]; simp
            have hj0 : y.kids[0]? = some j := by rw [hyk]; rfl
            obtain ⟨b4, off4, rfl, hblt4, cj⟩ := int_at hyr hyz hj0
            simp only [Nat.add_zero] at cj
            have i1 : ((y.kids.length : Int) == 0) = false := by rw [beq_eq_false_iff_ne]; omega
            have i2 : (0 : Int) < y.kids.length := by omega
            have HI := hid (fun (u : Bool) (h : inB j 0 ((n : Int) - 1) = u) W => l01In_is' h W)
            have hci := callIn_some HY.out h5 hyk
            rw [HL.out] at hci
            have h5' := h5
            rw [h5] at y0
            cases hin : inB j 0 ((n : Int) - 1) with
            | false =>
             have hNB : NB = false := by rw [HNB2.out]; exact allIB_no HD.out (by unfold kidFit; rw [hci, hin]; rfl)
             subst hNB
             have HI2 := hid (HI.out _ hin)
             clear HNB2 HA HF hyr hyk hb1 HI hin hci hj0
             go_wp2_with fail
             refine (HI2.out _).mono ?_
             rintro e w1 ⟨rfl, rfl⟩
             go_wp2
             go_ret
             exact ⟨rfl, grow_⟩
            | true =>
             have hjb := of_decide_eq_true hin
             have HI2 := hid (HI.out _ hin)
             have hcall : y.kind = 5 → ∃ (r : Nat) (js : List Int), y.kids = (r : Int) :: js ∧ r < n := fun _ => by
              obtain ⟨r, hr⟩ := Int.eq_ofNat_of_zero_le hjb.1
              exact ⟨r, js, by rw [hyk, hr], by omega⟩
             cases hf : fitB ps x.kind x.kids.length t (q : Int) with
             | false =>
              have hNB : NB = false := by rw [HNB2.out]; exact allIB_no HD.out (by unfold kidFit; rw [hf, Bool.and_false])
              subst hNB
              have HF2 := hid (HF.out hcall _ hf)
              clear HNB2 HA HF hyr hyk HI hin hci hj0 hjb hcall hf
              go_wp2_with fail
              refine (HI2.out _).mono ?_
              rintro e w1 ⟨rfl, rfl⟩
              rw [h5'] at hb1
              go_wp2_with fail
              refine (HF2.out _ hb1).mono ?_
              rintro e w6 ⟨rfl, h6⟩
              go_wp2
              go_ret
              exact ⟨rfl, below_next hb1 h6⟩
             | true =>
              have hA2 := hid (allI_step HA.out HD.out (by unfold kidFit; rw [hci, hin, hf]; rfl))
              have HF2 := hid (HF.out hcall _ hf)
              clear HNB2 HA HF hyr hyk HI hin hci hj0 hjb hcall hf
              go_wp2_with fail
              refine (HI2.out _).mono ?_
              rintro e w1 ⟨rfl, rfl⟩
              rw [h5'] at hb1
              go_wp2_with fail
              refine (HF2.out _ hb1).mono ?_
              rintro e w6 ⟨rfl, h6⟩
              have K6 := (K.alloc _).next h6
              go_wp2
              go_roundw
              case rel => exact ⟨t + 1, by omega, by go_num, hA2, K6, below_next hb1 h6⟩
              case measure => simp [intOf]; omega
          ·have e5 : (y.kind == 5) = false := by rw [beq_eq_false_iff_ne]; exact h5
           have hci := callIn_other HY.out h5
           have hcall : y.kind = 5 → ∃ (r : Nat) (js : List Int), y.kids = (r : Int) :: js ∧ r < n := fun h => absurd h h5
           cases hf : fitB ps x.kind x.kids.length t (q : Int) with
           | false =>
            have hNB : NB = false := by rw [HNB2.out]; exact allIB_no HD.out (by unfold kidFit; rw [hf, Bool.and_false])
            subst hNB
            have HF2 := hid (HF.out hcall _ hf)
            clear HNB2 HA HF hyr hci hcall hf h5
            go_wp2_with fail
            refine (HF2.out _ hb1).mono ?_
            rintro e w6 ⟨rfl, h6⟩
            go_wp2
            go_ret
            exact ⟨rfl, below_next hb1 h6⟩
           | true =>
            have hA2 := hid (allI_step HA.out HD.out (by unfold kidFit; rw [hci, hf]; rfl))
            have HF2 := hid (HF.out hcall _ hf)
            clear HNB2 HA HF hyr hci hcall hf h5
            go_wp2_with fail
            refine (HF2.out _ hb1).mono ?_
            rintro e w6 ⟨rfl, h6⟩
            have K6 := (K.alloc _).next h6
            go_wp2
            go_roundw
            case rel => exact ⟨t + 1, by omega, by go_num, hA2, K6, below_next hb1 h6⟩
            case measure => simp [intOf]; omega
         ·obtain rfl : t = x.kids.length := by omega
          have hNB : NB = true := by rw [HNB2.out]; exact allI_all HA.out (Nat.le_refl _)
          subst hNB
          clear HNB2 HA
          go_wp2
          go_ret
          exact ⟨rfl, hbw⟩
theorem allIB_and (p q : Nat → Int → Bool) (l : List Int) : (allIB p l && allIB q l) = allIB (fun i v => p i v && q i v) l := by
 cases h : allIB (fun i v => p i v && q i v) l with
 | true =>
  have h1 : allIB p l = true := allIB_yes (fun j x hx => by have := allIB_at h hx; simp only [Bool.and_eq_true] at this; exact this.1)
  have h2 : allIB q l = true := allIB_yes (fun j x hx => by have := allIB_at h hx; simp only [Bool.and_eq_true] at this; exact this.2)
  rw [h1, h2]; rfl
 | false =>
  cases h1 : allIB p l with
  | false => rfl
  | true =>
   cases h2 : allIB q l with
   | false => rfl
   | true =>
    rw [allIB_yes (fun j x hx => by simp only [Bool.and_eq_true]; exact ⟨allIB_at h1 hx, allIB_at h2 hx⟩)] at h
    cases h
theorem bool_iff {a b : Bool} (h : a = true ↔ b = true) : a = b := by
 cases a <;> cases b <;> simp at h ⊢
theorem allIB_iff {p : Nat → Int → Bool} {l : List Int} : allIB p l = true ↔ ∀ j x, l[j]? = some x → p j x = true := ⟨fun h j x hx => allIB_at h hx, allIB_yes⟩
section
variable {ps : List PN} {kids : List Int}
theorem kinds_len (ps : List PN) (kids : List Int) : (kindsOf ps kids).length = kids.length := by unfold kindsOf; rw [List.length_map]
theorem kinds_all (p : Int → Bool) : (kindsOf ps kids).all p = allIB (fun i v => p (kindAt ps v)) kids := by
 apply bool_iff
 rw [allIB_iff, List.all_eq_true]
 unfold kindsOf
 constructor
 ·intro h j x hx
  exact h _ (List.mem_map.2 ⟨x, List.mem_of_getElem? hx, rfl⟩)
 ·intro h y hy
  obtain ⟨x, hx, rfl⟩ := List.mem_map.1 hy
  obtain ⟨j, hj⟩ := List.mem_iff_getElem?.1 hx
  exact h j x hj
theorem kinds_get (ps : List PN) (kids : List Int) (j : Nat) : (kindsOf ps kids)[j]? = (kids[j]?).map (kindAt ps) := by unfold kindsOf; rw [List.getElem?_map]
theorem all_get {l : List Int} {p : Int → Bool} : l.all p = true ↔ ∀ (j : Nat) x, l[j]? = some x → p x = true := by
 rw [List.all_eq_true]
 constructor
 ·intro h j x hx; exact h x (List.mem_of_getElem? hx)
 ·intro h x hx
  obtain ⟨j, hj⟩ := List.mem_iff_getElem?.1 hx
  exact h j x hj
theorem kinds_head (p q : Int → Bool) (h : 1 ≤ kids.length) : (headB p (kindsOf ps kids) && ((kindsOf ps kids).drop 1).all q) = allIB (fun i v => if 0 < i then q (kindAt ps v) else p (kindAt ps v)) kids := by
 match kids, h with
 | x :: r, _ =>
  have e0 : headB p (kindsOf ps (x :: r)) = p (kindAt ps x) := rfl
  rw [e0]
  apply bool_iff
  rw [allIB_iff, Bool.and_eq_true, all_get]
  constructor
  ·rintro ⟨h1, h2⟩ j v hv
   cases j with
   | zero => simp at hv; subst hv; simpa using h1
   | succ j =>
    simp only [Nat.zero_lt_succ, if_true]
    refine h2 j _ ?_
    rw [List.getElem?_drop, kinds_get, Nat.add_comm 1 j, hv]; rfl
  ·intro h
   refine ⟨by simpa using h 0 x rfl, fun j v hv => ?_⟩
   rw [List.getElem?_drop, kinds_get, Nat.add_comm 1 j] at hv
   obtain ⟨u, hu, rfl⟩ := Option.map_eq_some_iff.1 hv
   have := h (j + 1) u hu
   simpa using this
theorem kinds_last (p : Int → Bool) (h : 1 ≤ kids.length) : lastB p (kindsOf ps kids) = allIB (fun i v => if i + 1 < kids.length then isK 1 (kindAt ps v) else p (kindAt ps v)) kids := by
 obtain ⟨m, hm⟩ : ∃ m, kids.length = m + 1 := ⟨kids.length - 1, by omega⟩
 obtain ⟨x, hx⟩ : ∃ x, kids[m]? = some x := ⟨_, gE (by omega)⟩
 rw [lastB_some (m := m) (x := kindAt ps x) (by rw [kinds_len]; exact hm) (by rw [kinds_get, hx]; rfl)]
 apply bool_iff
 rw [allIB_iff, Bool.and_eq_true, all_get]
 constructor
 ·rintro ⟨h1, h2⟩ j v hv
  have hjl := (List.getElem?_eq_some_iff.1 hv).1
  by_cases hj : j + 1 < kids.length
  ·rw [if_pos hj]
   refine h2 j _ ?_
   rw [List.getElem?_take, if_pos (by omega), kinds_get, hv]; rfl
  ·rw [if_neg hj]
   obtain rfl : j = m := by omega
   rw [hx] at hv
   obtain rfl := Option.some.inj hv
   exact h1
 ·intro h
  refine ⟨?_, fun j v hv => ?_⟩
  ·have := h m x hx
   rwa [if_neg (by omega)] at this
  ·rw [List.getElem?_take] at hv
   split at hv
   ·rename_i hjm
    rw [kinds_get] at hv
    obtain ⟨u, hu, rfl⟩ := Option.map_eq_some_iff.1 hv
    have := h j u hu
    rwa [if_pos (by omega)] at this
   ·cases hv
end
def kfF (kind : Int) (n i : Nat) (y : Int) : Bool :=
 if kind = 9 then (if i + 1 < n then isK 1 y else valueK y)
 else if kind = 20 then (if i + 1 < n then isK 1 y else isK 18 y)
 else if kind = 10 then (if 0 < i then isK 5 y else valueK y)
 else if kind = 16 ∨ kind = 17 then (if 0 < i then isK 18 y else valueK y)
 else if kind = 18 then stmtK y
 else if kind = 21 then memberK y
 else if kind = 22 then topK y
 else valueK y
section
variable {ps : List PN} {kids : List Int}
theorem form_1 (hn : kids.length ≤ 12) : kfB 1 (kindsOf ps kids) = (inB (kids.length : Int) (cntLo 1) (cntHi 1) && allIB (fun i v => kfF 1 kids.length i (kindAt ps v)) kids) := by
 have e2 : inB (kids.length : Int) (cntLo 1) (cntHi 1) = decide (kids.length = 0) := by
  show decide ((0 : Int) ≤ kids.length ∧ (kids.length : Int) ≤ 0) = decide (kids.length = 0)
  exact decide_eq_decide.2 (by omega)
 rw [e2, show kfB 1 (kindsOf ps kids) = decide ((kindsOf ps kids).length = 0) from rfl, kinds_len]
 by_cases h : kids.length = 0
 ·have : kids = [] := List.eq_nil_of_length_eq_zero h
  subst this; rfl
 ·rw [decide_eq_false h, Bool.false_and]
theorem form_2 (hn : kids.length ≤ 12) : kfB 2 (kindsOf ps kids) = (inB (kids.length : Int) (cntLo 2) (cntHi 2) && allIB (fun i v => kfF 2 kids.length i (kindAt ps v)) kids) := by
 have e2 : inB (kids.length : Int) (cntLo 2) (cntHi 2) = decide (kids.length = 0) := by
  show decide ((0 : Int) ≤ kids.length ∧ (kids.length : Int) ≤ 0) = decide (kids.length = 0)
  exact decide_eq_decide.2 (by omega)
 rw [e2, show kfB 2 (kindsOf ps kids) = decide ((kindsOf ps kids).length = 0) from rfl, kinds_len]
 by_cases h : kids.length = 0
 ·have : kids = [] := List.eq_nil_of_length_eq_zero h
  subst this; rfl
 ·rw [decide_eq_false h, Bool.false_and]
theorem form_3 (hn : kids.length ≤ 12) : kfB 3 (kindsOf ps kids) = (inB (kids.length : Int) (cntLo 3) (cntHi 3) && allIB (fun i v => kfF 3 kids.length i (kindAt ps v)) kids) := by
 have e2 : inB (kids.length : Int) (cntLo 3) (cntHi 3) = decide (kids.length = 0) := by
  show decide ((0 : Int) ≤ kids.length ∧ (kids.length : Int) ≤ 0) = decide (kids.length = 0)
  exact decide_eq_decide.2 (by omega)
 rw [e2, show kfB 3 (kindsOf ps kids) = decide ((kindsOf ps kids).length = 0) from rfl, kinds_len]
 by_cases h : kids.length = 0
 ·have : kids = [] := List.eq_nil_of_length_eq_zero h
  subst this; rfl
 ·rw [decide_eq_false h, Bool.false_and]
theorem form_4 (hn : kids.length ≤ 12) : kfB 4 (kindsOf ps kids) = (inB (kids.length : Int) (cntLo 4) (cntHi 4) && allIB (fun i v => kfF 4 kids.length i (kindAt ps v)) kids) := by
 have e2 : inB (kids.length : Int) (cntLo 4) (cntHi 4) = decide (True) := by
  show decide ((0 : Int) ≤ kids.length ∧ (kids.length : Int) ≤ 12) = decide (True)
  exact decide_eq_decide.2 ⟨fun _ => trivial, fun _ => by omega⟩
 rw [e2, show kfB 4 (kindsOf ps kids) = (kindsOf ps kids).all valueK from rfl, kinds_all, decide_true, Bool.true_and]
 rfl
theorem form_5 (hn : kids.length ≤ 12) : kfB 5 (kindsOf ps kids) = (inB (kids.length : Int) (cntLo 5) (cntHi 5) && allIB (fun i v => kfF 5 kids.length i (kindAt ps v)) kids) := by
 have e2 : inB (kids.length : Int) (cntLo 5) (cntHi 5) = decide (1 ≤ kids.length) := by
  show decide ((1 : Int) ≤ kids.length ∧ (kids.length : Int) ≤ 12) = decide (1 ≤ kids.length)
  exact decide_eq_decide.2 (by omega)
 rw [e2, show kfB 5 (kindsOf ps kids) = (decide (1 ≤ (kindsOf ps kids).length) && (kindsOf ps kids).all valueK) from rfl, kinds_len, kinds_all]
 rfl
theorem form_6 (hn : kids.length ≤ 12) : kfB 6 (kindsOf ps kids) = (inB (kids.length : Int) (cntLo 6) (cntHi 6) && allIB (fun i v => kfF 6 kids.length i (kindAt ps v)) kids) := by
 have e2 : inB (kids.length : Int) (cntLo 6) (cntHi 6) = decide (kids.length = 1) := by
  show decide ((1 : Int) ≤ kids.length ∧ (kids.length : Int) ≤ 1) = decide (kids.length = 1)
  exact decide_eq_decide.2 (by omega)
 rw [e2, show kfB 6 (kindsOf ps kids) = (decide ((kindsOf ps kids).length = 1) && (kindsOf ps kids).all valueK) from rfl, kinds_len, kinds_all]
 rfl
theorem form_7 (hn : kids.length ≤ 12) : kfB 7 (kindsOf ps kids) = (inB (kids.length : Int) (cntLo 7) (cntHi 7) && allIB (fun i v => kfF 7 kids.length i (kindAt ps v)) kids) := by
 have e2 : inB (kids.length : Int) (cntLo 7) (cntHi 7) = decide (2 ≤ kids.length) := by
  show decide ((2 : Int) ≤ kids.length ∧ (kids.length : Int) ≤ 12) = decide (2 ≤ kids.length)
  exact decide_eq_decide.2 (by omega)
 rw [e2, show kfB 7 (kindsOf ps kids) = (decide (2 ≤ (kindsOf ps kids).length) && (kindsOf ps kids).all valueK) from rfl, kinds_len, kinds_all]
 rfl
theorem form_8 (hn : kids.length ≤ 12) : kfB 8 (kindsOf ps kids) = (inB (kids.length : Int) (cntLo 8) (cntHi 8) && allIB (fun i v => kfF 8 kids.length i (kindAt ps v)) kids) := by
 have e2 : inB (kids.length : Int) (cntLo 8) (cntHi 8) = decide (kids.length = 3) := by
  show decide ((3 : Int) ≤ kids.length ∧ (kids.length : Int) ≤ 3) = decide (kids.length = 3)
  exact decide_eq_decide.2 (by omega)
 rw [e2, show kfB 8 (kindsOf ps kids) = (decide ((kindsOf ps kids).length = 3) && (kindsOf ps kids).all valueK) from rfl, kinds_len, kinds_all]
 rfl
theorem form_9 (hn : kids.length ≤ 12) : kfB 9 (kindsOf ps kids) = (inB (kids.length : Int) (cntLo 9) (cntHi 9) && allIB (fun i v => kfF 9 kids.length i (kindAt ps v)) kids) := by
 have e2 : inB (kids.length : Int) (cntLo 9) (cntHi 9) = decide (1 ≤ kids.length) := by
  show decide ((1 : Int) ≤ kids.length ∧ (kids.length : Int) ≤ 12) = decide (1 ≤ kids.length)
  exact decide_eq_decide.2 (by omega)
 rw [e2, show kfB 9 (kindsOf ps kids) = lastB valueK (kindsOf ps kids) from rfl]
 by_cases h : 1 ≤ kids.length
 ·rw [kinds_last _ h, decide_eq_true h, Bool.true_and]
  rfl
 ·have : kids = [] := List.eq_nil_of_length_eq_zero (by omega)
  subst this; rfl
theorem form_10 (hn : kids.length ≤ 12) : kfB 10 (kindsOf ps kids) = (inB (kids.length : Int) (cntLo 10) (cntHi 10) && allIB (fun i v => kfF 10 kids.length i (kindAt ps v)) kids) := by
 have e2 : inB (kids.length : Int) (cntLo 10) (cntHi 10) = decide (2 ≤ kids.length) := by
  show decide ((2 : Int) ≤ kids.length ∧ (kids.length : Int) ≤ 12) = decide (2 ≤ kids.length)
  exact decide_eq_decide.2 (by omega)
 rw [e2, show kfB 10 (kindsOf ps kids) = (decide (2 ≤ (kindsOf ps kids).length) && headB valueK (kindsOf ps kids) && ((kindsOf ps kids).drop 1).all (isK 5)) from rfl, kinds_len, Bool.and_assoc]
 by_cases h : 1 ≤ kids.length
 ·rw [kinds_head _ _ h]
  rfl
 ·rw [decide_eq_false (by omega), Bool.false_and, Bool.false_and]
theorem form_11 (hn : kids.length ≤ 12) : kfB 11 (kindsOf ps kids) = (inB (kids.length : Int) (cntLo 11) (cntHi 11) && allIB (fun i v => kfF 11 kids.length i (kindAt ps v)) kids) := by
 have e2 : inB (kids.length : Int) (cntLo 11) (cntHi 11) = decide (kids.length = 1) := by
  show decide ((1 : Int) ≤ kids.length ∧ (kids.length : Int) ≤ 1) = decide (kids.length = 1)
  exact decide_eq_decide.2 (by omega)
 rw [e2, show kfB 11 (kindsOf ps kids) = (decide ((kindsOf ps kids).length = 1) && (kindsOf ps kids).all valueK) from rfl, kinds_len, kinds_all]
 rfl
theorem form_12 (hn : kids.length ≤ 12) : kfB 12 (kindsOf ps kids) = (inB (kids.length : Int) (cntLo 12) (cntHi 12) && allIB (fun i v => kfF 12 kids.length i (kindAt ps v)) kids) := by
 have e2 : inB (kids.length : Int) (cntLo 12) (cntHi 12) = decide (kids.length ≤ 1) := by
  show decide ((0 : Int) ≤ kids.length ∧ (kids.length : Int) ≤ 1) = decide (kids.length ≤ 1)
  exact decide_eq_decide.2 (by omega)
 rw [e2, show kfB 12 (kindsOf ps kids) = (decide ((kindsOf ps kids).length ≤ 1) && (kindsOf ps kids).all valueK) from rfl, kinds_len, kinds_all]
 rfl
theorem form_13 (hn : kids.length ≤ 12) : kfB 13 (kindsOf ps kids) = (inB (kids.length : Int) (cntLo 13) (cntHi 13) && allIB (fun i v => kfF 13 kids.length i (kindAt ps v)) kids) := by
 have e2 : inB (kids.length : Int) (cntLo 13) (cntHi 13) = decide (kids.length = 1) := by
  show decide ((1 : Int) ≤ kids.length ∧ (kids.length : Int) ≤ 1) = decide (kids.length = 1)
  exact decide_eq_decide.2 (by omega)
 rw [e2, show kfB 13 (kindsOf ps kids) = (decide ((kindsOf ps kids).length = 1) && (kindsOf ps kids).all valueK) from rfl, kinds_len, kinds_all]
 rfl
theorem form_14 (hn : kids.length ≤ 12) : kfB 14 (kindsOf ps kids) = (inB (kids.length : Int) (cntLo 14) (cntHi 14) && allIB (fun i v => kfF 14 kids.length i (kindAt ps v)) kids) := by
 have e2 : inB (kids.length : Int) (cntLo 14) (cntHi 14) = decide (kids.length = 1) := by
  show decide ((1 : Int) ≤ kids.length ∧ (kids.length : Int) ≤ 1) = decide (kids.length = 1)
  exact decide_eq_decide.2 (by omega)
 rw [e2, show kfB 14 (kindsOf ps kids) = (decide ((kindsOf ps kids).length = 1) && (kindsOf ps kids).all valueK) from rfl, kinds_len, kinds_all]
 rfl
theorem form_15 (hn : kids.length ≤ 12) : kfB 15 (kindsOf ps kids) = (inB (kids.length : Int) (cntLo 15) (cntHi 15) && allIB (fun i v => kfF 15 kids.length i (kindAt ps v)) kids) := by
 have e2 : inB (kids.length : Int) (cntLo 15) (cntHi 15) = decide (kids.length ≤ 1) := by
  show decide ((0 : Int) ≤ kids.length ∧ (kids.length : Int) ≤ 1) = decide (kids.length ≤ 1)
  exact decide_eq_decide.2 (by omega)
 rw [e2, show kfB 15 (kindsOf ps kids) = (decide ((kindsOf ps kids).length ≤ 1) && (kindsOf ps kids).all valueK) from rfl, kinds_len, kinds_all]
 rfl
theorem form_16 (hn : kids.length ≤ 12) : kfB 16 (kindsOf ps kids) = (inB (kids.length : Int) (cntLo 16) (cntHi 16) && allIB (fun i v => kfF 16 kids.length i (kindAt ps v)) kids) := by
 have e2 : inB (kids.length : Int) (cntLo 16) (cntHi 16) = decide (2 ≤ kids.length ∧ kids.length ≤ 3) := by
  show decide ((2 : Int) ≤ kids.length ∧ (kids.length : Int) ≤ 3) = decide (2 ≤ kids.length ∧ kids.length ≤ 3)
  exact decide_eq_decide.2 (by omega)
 rw [e2, show kfB 16 (kindsOf ps kids) = (decide (2 ≤ (kindsOf ps kids).length ∧ (kindsOf ps kids).length ≤ 3) && headB valueK (kindsOf ps kids) && ((kindsOf ps kids).drop 1).all (isK 18)) from rfl, kinds_len, Bool.and_assoc]
 by_cases h : 1 ≤ kids.length
 ·rw [kinds_head _ _ h]
  rfl
 ·rw [decide_eq_false (by omega), Bool.false_and, Bool.false_and]
theorem form_17 (hn : kids.length ≤ 12) : kfB 17 (kindsOf ps kids) = (inB (kids.length : Int) (cntLo 17) (cntHi 17) && allIB (fun i v => kfF 17 kids.length i (kindAt ps v)) kids) := by
 have e2 : inB (kids.length : Int) (cntLo 17) (cntHi 17) = decide (kids.length = 2) := by
  show decide ((2 : Int) ≤ kids.length ∧ (kids.length : Int) ≤ 2) = decide (kids.length = 2)
  exact decide_eq_decide.2 (by omega)
 rw [e2, show kfB 17 (kindsOf ps kids) = (decide ((kindsOf ps kids).length = 2) && headB valueK (kindsOf ps kids) && ((kindsOf ps kids).drop 1).all (isK 18)) from rfl, kinds_len, Bool.and_assoc]
 by_cases h : 1 ≤ kids.length
 ·rw [kinds_head _ _ h]
  rfl
 ·rw [decide_eq_false (by omega), Bool.false_and, Bool.false_and]
theorem form_18 (hn : kids.length ≤ 12) : kfB 18 (kindsOf ps kids) = (inB (kids.length : Int) (cntLo 18) (cntHi 18) && allIB (fun i v => kfF 18 kids.length i (kindAt ps v)) kids) := by
 have e2 : inB (kids.length : Int) (cntLo 18) (cntHi 18) = decide (True) := by
  show decide ((0 : Int) ≤ kids.length ∧ (kids.length : Int) ≤ 12) = decide (True)
  exact decide_eq_decide.2 ⟨fun _ => trivial, fun _ => by omega⟩
 rw [e2, show kfB 18 (kindsOf ps kids) = (kindsOf ps kids).all stmtK from rfl, kinds_all, decide_true, Bool.true_and]
 rfl
theorem form_19 (hn : kids.length ≤ 12) : kfB 19 (kindsOf ps kids) = (inB (kids.length : Int) (cntLo 19) (cntHi 19) && allIB (fun i v => kfF 19 kids.length i (kindAt ps v)) kids) := by
 have e2 : inB (kids.length : Int) (cntLo 19) (cntHi 19) = decide (kids.length = 0) := by
  show decide ((0 : Int) ≤ kids.length ∧ (kids.length : Int) ≤ 0) = decide (kids.length = 0)
  exact decide_eq_decide.2 (by omega)
 rw [e2, show kfB 19 (kindsOf ps kids) = decide ((kindsOf ps kids).length = 0) from rfl, kinds_len]
 by_cases h : kids.length = 0
 ·have : kids = [] := List.eq_nil_of_length_eq_zero h
  subst this; rfl
 ·rw [decide_eq_false h, Bool.false_and]
theorem form_20 (hn : kids.length ≤ 12) : kfB 20 (kindsOf ps kids) = (inB (kids.length : Int) (cntLo 20) (cntHi 20) && allIB (fun i v => kfF 20 kids.length i (kindAt ps v)) kids) := by
 have e2 : inB (kids.length : Int) (cntLo 20) (cntHi 20) = decide (1 ≤ kids.length) := by
  show decide ((1 : Int) ≤ kids.length ∧ (kids.length : Int) ≤ 12) = decide (1 ≤ kids.length)
  exact decide_eq_decide.2 (by omega)
 rw [e2, show kfB 20 (kindsOf ps kids) = lastB (isK 18) (kindsOf ps kids) from rfl]
 by_cases h : 1 ≤ kids.length
 ·rw [kinds_last _ h, decide_eq_true h, Bool.true_and]
  rfl
 ·have : kids = [] := List.eq_nil_of_length_eq_zero (by omega)
  subst this; rfl
theorem form_21 (hn : kids.length ≤ 12) : kfB 21 (kindsOf ps kids) = (inB (kids.length : Int) (cntLo 21) (cntHi 21) && allIB (fun i v => kfF 21 kids.length i (kindAt ps v)) kids) := by
 have e2 : inB (kids.length : Int) (cntLo 21) (cntHi 21) = decide (True) := by
  show decide ((0 : Int) ≤ kids.length ∧ (kids.length : Int) ≤ 12) = decide (True)
  exact decide_eq_decide.2 ⟨fun _ => trivial, fun _ => by omega⟩
 rw [e2, show kfB 21 (kindsOf ps kids) = (kindsOf ps kids).all memberK from rfl, kinds_all, decide_true, Bool.true_and]
 rfl
theorem form_22 (hn : kids.length ≤ 12) : kfB 22 (kindsOf ps kids) = (inB (kids.length : Int) (cntLo 22) (cntHi 22) && allIB (fun i v => kfF 22 kids.length i (kindAt ps v)) kids) := by
 have e2 : inB (kids.length : Int) (cntLo 22) (cntHi 22) = decide (True) := by
  show decide ((0 : Int) ≤ kids.length ∧ (kids.length : Int) ≤ 12) = decide (True)
  exact decide_eq_decide.2 ⟨fun _ => trivial, fun _ => by omega⟩
 rw [e2, show kfB 22 (kindsOf ps kids) = (kindsOf ps kids).all topK from rfl, kinds_all, decide_true, Bool.true_and]
 rfl
theorem kf_form {kind : Int} (hk : 1 ≤ kind ∧ kind ≤ 22) (hn : kids.length ≤ 12) : kfB kind (kindsOf ps kids) = (inB (kids.length : Int) (cntLo kind) (cntHi kind) && allIB (fun i v => kfF kind kids.length i (kindAt ps v)) kids) := by
 have h2 : kind = 1 ∨ kind = 2 ∨ kind = 3 ∨ kind = 4 ∨ kind = 5 ∨ kind = 6 ∨ kind = 7 ∨ kind = 8 ∨ kind = 9 ∨ kind = 10 ∨ kind = 11 ∨ kind = 12 ∨ kind = 13 ∨ kind = 14 ∨ kind = 15 ∨ kind = 16 ∨ kind = 17 ∨ kind = 18 ∨ kind = 19 ∨ kind = 20 ∨ kind = 21 ∨ kind = 22 := by omega
 rcases h2 with rfl | rfl | rfl | rfl | rfl | rfl | rfl | rfl | rfl | rfl | rfl | rfl | rfl | rfl | rfl | rfl | rfl | rfl | rfl | rfl | rfl | rfl
 ·exact form_1 hn
 ·exact form_2 hn
 ·exact form_3 hn
 ·exact form_4 hn
 ·exact form_5 hn
 ·exact form_6 hn
 ·exact form_7 hn
 ·exact form_8 hn
 ·exact form_9 hn
 ·exact form_10 hn
 ·exact form_11 hn
 ·exact form_12 hn
 ·exact form_13 hn
 ·exact form_14 hn
 ·exact form_15 hn
 ·exact form_16 hn
 ·exact form_17 hn
 ·exact form_18 hn
 ·exact form_19 hn
 ·exact form_20 hn
 ·exact form_21 hn
 ·exact form_22 hn
theorem kf_never {kind : Int} (l : List Int) (hk : ¬ (1 ≤ kind ∧ kind ≤ 22)) : kfB kind l = false := by
 unfold kfB
 rw [if_neg (by omega), if_neg (by omega), if_neg (by omega), if_neg (by omega), if_neg (by omega), if_neg (by omega), if_neg (by omega), if_neg (by omega), if_neg (by omega), if_neg (by omega), if_neg (by omega), if_neg (by omega), if_neg (by omega), if_neg (by omega), if_neg (by omega)]
theorem cnt_le (kind : Int) : cntHi kind ≤ 12 := by unfold cntHi; split <;> (try split) <;> (try split) <;> (try split) <;> omega
theorem call_not10 {kind : Int} (h : kind ≠ 10) (i : Nat) (v : Int) : callOk ps kind i v = callIn ps v := by
 unfold callOk callIn
 have hb : (kind == 10) = false := by rw [beq_eq_false_iff_ne]; exact h
 rw [hb]
 cases ps[v.toNat]? with
 | none => rfl
 | some y =>
  simp only [Bool.false_and, Bool.not_false, Bool.true_or, Bool.and_true]
  split
  ·cases y.kids <;> rfl
  ·rfl
theorem pair_eq {kind : Int} (hk : 1 ≤ kind ∧ kind ≤ 22) (n i : Nat) (v : Int) : (kfF kind n i (kindAt ps v) && callOk ps kind i v) = (callIn ps v && fitB ps kind n i v) := by
 by_cases h10 : kind = 10
 ·subst h10
  have e1 : kfF 10 n i (kindAt ps v) = if 0 < i then isK 5 (kindAt ps v) else valueK (kindAt ps v) := rfl
  have e2 : fitB ps 10 n i v = if 0 < i then isK 5 (kindAt ps v) && (match ps[v.toNat]? with | some y => (match y.kids with | j :: _ => isK 1 (kindAt ps j) | [] => false) | none => false) else valueK (kindAt ps v) := rfl
  rw [e1, e2]
  by_cases hi : 0 < i
  ·rw [if_pos hi, if_pos hi]
   unfold callOk callIn
   rw [decide_eq_true hi]
   unfold kindAt
   cases ps[v.toNat]? with
   | none => simp
   | some y =>
    simp only
    by_cases h5 : y.kind = 5
    ·rw [if_pos h5, if_pos h5, h5]
     cases y.kids with
     | nil => simp
     | cons j js =>
      simp [isK]
    ·have : isK 5 y.kind = false := by unfold isK; rw [beq_eq_false_iff_ne]; exact h5
     rw [this, Bool.false_and, Bool.false_and, Bool.and_false]
  ·rw [if_neg hi, if_neg hi]
   have : callOk ps 10 i v = callIn ps v := by
    unfold callOk callIn
    rw [decide_eq_false hi]
    cases ps[v.toNat]? with
    | none => rfl
    | some y =>
     simp only [Bool.and_false, Bool.not_false, Bool.true_or, Bool.and_true]
     split
     ·cases y.kids <;> rfl
     ·rfl
   rw [this, Bool.and_comm]
 ·rw [call_not10 h10, Bool.and_comm]
  congr 1
  unfold kfF fitB
  simp only [if_neg h10]
  split
  ·rfl
  ·split
   ·rfl
   ·split
    ·rfl
    ·split
     ·rfl
     ·split
      ·rfl
      ·split
       ·unfold topK isK; rw [Bool.or_comm]
       ·rfl
theorem nodes_agree (k : Nat) : specNB ps k = nodeB ps k := by
 unfold specNB nodeB
 cases ps[k]? with
 | none => rfl
 | some x =>
  simp only
  have core : (decide (x.kids.length ≤ 12) && (kfB x.kind (kindsOf ps x.kids) && callsB ps x.kind x.kids)) = (inB x.kind 1 22 && (inB (x.kids.length : Int) (cntLo x.kind) (cntHi x.kind) && allIB (kidFit ps x) x.kids)) := by
   by_cases hk : 1 ≤ x.kind ∧ x.kind ≤ 22
   ·rw [show inB x.kind 1 22 = true from decide_eq_true hk, Bool.true_and]
    by_cases hn : x.kids.length ≤ 12
    ·rw [decide_eq_true hn, Bool.true_and, kf_form hk hn, Bool.and_assoc]
     unfold callsB
     rw [allIB_and]
     congr 1
     exact allIB_congr (fun j v _ => by unfold kidFit; exact pair_eq hk _ j v)
    ·have h12 := cnt_le x.kind
     rw [decide_eq_false hn, Bool.false_and, inB_hi (show ¬ (x.kids.length : Int) ≤ cntHi x.kind by omega), Bool.false_and]
   ·rw [show inB x.kind 1 22 = false from decide_eq_false hk, kf_never _ hk, Bool.false_and, Bool.false_and, Bool.and_false]
  have hm : (!(x.blank && !mayK x.kind)) = (mayK x.kind || !x.blank) := by cases x.blank <;> cases mayK x.kind <;> rfl
  rw [hm]
  revert core
  generalize inB x.kind 1 22 = a
  generalize inB (x.kids.length : Int) (cntLo x.kind) (cntHi x.kind) = b
  generalize textB x.kind x.text = c
  generalize (mayK x.kind || !x.blank) = d
  generalize kidsB k x.kids = e
  generalize allIB (kidFit ps x) x.kids = f
  generalize decide (x.kids.length ≤ 12) = g
  generalize kfB x.kind (kindsOf ps x.kids) = h
  generalize callsB ps x.kind x.kids = i
  revert a b c d e f g h i
  decide
end
end Go.Proofs.YtgaajcbklkchjaaGreatDoor

/-
  Put together by program (shake.py): RfE, RfF, RfG, RfH, RfI, RfJ.
-/
import Derived.Test.YtgaajcbklkchjaaGreatDoorMtH
import Derived.StillTailTactics
import Derived.Deep.RegionHeld3
import Derived.Test.YtgaajcbklkchjaaGreatDoorMtI
import Derived.Test.YtgaajcbklkchjaaGreatDoorMtJ
import Derived.Test.YtgaajcbklkchjaaGreatDoorMtG
set_option maxRecDepth 100000
set_option maxHeartbeats 25600000
set_option linter.unusedVariables false
set_option linter.unusedSimpArgs false
open Go.Lib (hid)
open Go.Proofs.Tryz
namespace Go.Proofs.YtgaajcbklkchjaaGreatDoor
open Go.RowKit
def PutM (F : FuncId) (A : Option Addr) (n c : Nat) (w0 : World) (Y : Way) (ps : List PN) (k : Nat) : Prop :=
 ∀ U AN cN l w, MkC (RS w0 U) 0 (.bool false) AN cN l w → l.length + visV ps k ≤ 300 → Calls prog F #[.slice A n c, .int .i64 (k : Int), .slice AN l.length cN] w (PutR (RS w0 U) Y ps k AN l w)
theorem put26_any (A : Option Addr) (n c : Nat) (ps : List PN) (w0 : World) (hps : Nps w0 A n ps) (hgd : Good ps) :
  ∀ k, k < n → PutM 72 A n c w0 idW ps k := by
 intro k
 induction k using Nat.strongRecOn with
 | ind k ih =>
 intro hk U AN cN l w hc hv
 obtain ⟨x, hx⟩ := hps.get hk
 have hlen := hps.len
 have HL := hid (hgd k x hx)
 have hk12 := HL.out.1
 have hvk := visV_eq hgd hx
 have HEQ := hid (mkV_eq (idW_fits hgd) hx rfl (l.map Nd.pn))
 have HF := hid (fun (i : Nat) (kid : Int) h => idW_fits hgd k x i kid hx rfl h)
 have HIH := hid ih
 obtain ⟨b, off, A', c', rfl, hblt0, y0, y1, y2, y3, hxr⟩ := hps.at_ hk hx
 have hcb := (bcell hc.old).1
 have x0 := (hcb _ _ hblt0).trans y0
 have x1 := (hcb _ _ hblt0).trans y1
 have x2 := (hcb _ _ hblt0).trans y2
 have x3 := (hcb _ _ hblt0).trans y3
 have hblt : b < w.heap.size := Nat.lt_of_lt_of_le hblt0 hc.old.size
 have HX2 := hid (fun W (hW : Below w0.heap.size w0 W) => ((bcell hW).1 _ _ hblt0).trans y2)
 have HXR := hid (fun W (hW : Below w0.heap.size w0 W) => hxr.next hW)
 have HBL0 := hid hblt0
 clear y0 y1 y2 y3 hcb
 have HCC := hid hc
 obtain ⟨Q, hQ⟩ : ∃ Q, mkKids (mkV idW ps) (idW.turn x) 0 x.kids (l.map Nd.pn) [] = Q := ⟨_, rfl⟩
 rw [hQ] at HEQ
 replace hQ := hid hQ
 have HOLD := hid (show Below w0.heap.size w0 w from hc.old)
 have HU := hid (show ∀ g, U g → g < w.heap.size from hc.2.2.1.2.1)
 have HV0 := hid (show l.length + costK (visV ps) (x.kids.drop 0) + 1 ≤ 300 by rw [List.drop_zero]; omega)
 clear hx hc hxr ih hvk hv hblt0
 go_enter func72, ntmps72
 go_wp2_with fail
 go_cut [8] (fun s8 wx => ∃ g g1 : Nat, s8 = .pointer (some ⟨g, 0, none⟩) ∧ Hid (KidG (RS w0 U) w (AN.map (·.block)) g #[.int .i64 x.kind, .string x.text, .slice A' x.kids.length c', .bool x.blank] 0 (some ⟨g1, 0, none⟩) 0 [] AN cN l wx))
 case first =>
  go_region_held3 (fun w' => w'.cell? ⟨b, off + k * 4, none⟩ = some (.int .i64 x.kind) ∧ w'.cell? ⟨b, off + k * 4 + 1, none⟩ = some (.string x.text) ∧ w'.cell? ⟨b, off + k * 4 + 3, none⟩ = some (.bool x.blank)) (go_keep) (first | fail)
  ·go_wp2_with fail; go_meet; exact ⟨w.heap.size + 1, w.heap.size, rfl, KidG.laid1 rfl HCC.out _ _ _ _⟩
  ·go_wp2_with fail; go_meet; exact ⟨w.heap.size, w.heap.size + 1, rfl, KidG.laid2 rfl HCC.out _ _ _ _⟩
 case rest =>
 obtain ⟨g, g1, rfl, HC0⟩ := hcut
 clear HCC x0 x1 x2 x3
 go_wp2
 go_loopw [2, 9] (fun s2 s9 wr => ∃ (j : Nat) (AK : Option Addr) (cK : Nat) (ks : List Int) (AL : Option Addr) (cL : Nat) (l2 : List Nd), j ≤ x.kids.length ∧ s9 = .int .i64 j ∧ s2 = .slice AL l2.length cL ∧ Hid (KidG (RS w0 U) w (AN.map (·.block)) g #[.int .i64 x.kind, .string x.text, .slice A' x.kids.length c', .bool x.blank] j AK cK ks AL cL l2 wr) ∧ Hid (mkKids (mkV idW ps) (idW.turn x) j (x.kids.drop j) (l2.map Nd.pn) ks = Q) ∧ Hid (l2.length + costK (visV ps) (x.kids.drop j) + 1 ≤ 300)) (fun _ i _ => x.kids.length - (intOf i).toNat)
 case atStart => exact ⟨0, _, 0, [], AN, cN, l, Nat.zero_le _, rfl, rfl, HC0, hQ, HV0⟩
 case round =>
  clear HC0 hQ HV0
  obtain ⟨j, AK, cK, ks, AL, cL, l2, hj, rfl, rfl, HM, HE, HV⟩ := hrel
  obtain ⟨kc, kf, kz⟩ := HM.out.cells
  have hwold : Below w0.heap.size w0 wr := HM.out.mkc.old
  have hl300 : l2.length ≤ 300 := by have := HV.out; omega
  have x2 := HX2.out wr hwold
  have hblt2 : b < wr.heap.size := Nat.lt_of_lt_of_le HBL0.out hwold.size
  by_cases hjl : j < x.kids.length
  ·obtain ⟨v, hd⟩ : ∃ d, x.kids[j]? = some d := ⟨_, List.getElem?_eq_getElem hjl⟩
   have hxr : Rd wr 1 A' x.kids.length (intCells x.kids) := HXR.out wr hwold
   obtain ⟨b5, off5, rfl, hblt5, cv⟩ := int_at hxr hjl hd
   have hF := HF.out j v hd
   have hvn := HL.out.2 v (List.mem_of_getElem? hd)
   have HSTEP := hid (fun (o : List PN) ks => mkKids_at (go := mkV idW ps) (turn := idW.turn x) (o := o) (ks := ks) hd)
   have HCO := hid (costK_drop (g := visV ps) hd)
   obtain ⟨o, rfl⟩ : ∃ o : Nat, v = (o : Int) := ⟨v.toNat, by omega⟩
   have hok : o < k := by omega
   have hon : o < n := by omega
   have HLEN := hid (mkV_len hgd (idW_fits hgd) o (by omega))
   have HCS := hid (show l2.length + visV ps o ≤ 300 by have h1 := HV.out; have h2 := HCO.out; simp only [Int.toNat_natCast] at h2; omega)
   clear hd hxr hwold kc kf kz
   go_wp2_with fail
   refine (HIH.out o hok hon _ _ _ _ _ HM.out.mkc HCS.out).mono ?_
   rintro e w3 h3
   obtain ⟨A3, c3, l3, rfl, h3m, h3e⟩ := HM.out.node rfl h3
   have HM3 := hid h3m
   have HE3 := hid h3e
   have hl3 : l3.length ≤ l2.length + visV ps o := by
    have := HLEN.out (l2.map Nd.pn)
    rw [← h3e, List.length_map, List.length_map] at this
    exact this
   obtain ⟨kc, kf, kz⟩ := HM3.out.cells
   have k2 : w3.cell? ⟨g, 2, none⟩ = some (.slice AK j cK) := kc 2
   have f2 := kf 2
   clear h3 h3m h3e HM kc kf x2 cv
   have hjk : j ≤ 12 := by omega
   have HV3 := hid (show l3.length + costK (visV ps) (x.kids.drop (j + 1)) + 1 ≤ 300 by have h1 := HV.out; have h2 := HCO.out; simp only [Int.toNat_natCast] at h2; omega)
   have HE4 := hid (show mkKids (mkV idW ps) (idW.turn x) (j + 1) (x.kids.drop (j + 1)) (l3.map Nd.pn) (ks ++ [(l3.length : Int) - 1]) = Q by
    have h1 := HSTEP.out (l2.map Nd.pn) ks
    have h2 : onePut (mkV idW ps) (idW.turn x j (o : Int)) (l2.map Nd.pn) = l3.map Nd.pn := by rw [HE3.out]; rfl
    rw [h2, List.length_map] at h1
    rw [← h1]; exact HE.out)
   have HOS := hid (show w0.heap.size ≤ w.heap.size from HOLD.out.size)
   obtain ⟨i0, hi0, hz0, hz1, hz2⟩ := info_parts infoInt
   have HI := hid (And.intro hi0 (And.intro hz0 (And.intro hz1 hz2)))
   clear HE HV HSTEP HLEN HE3 hi0 hz0 hz1 hz2
   go_wp2_with (at_builtin; refine wpList_append_row _ rfl (.tmp 53) (.tmp 55) _ rfl w.heap.size 3 i0 (.int .i64 0) 1 8 underlying37 HI.out.1 HI.out.2.1 HI.out.2.2.1 HI.out.2.2.2 rfl (by decide) (.slice AK j cK) j (intCells ks) rfl (Mine.alloc HM3.out.row _) ⟨w3.heap.size, 0, none⟩ 1 1 [.int .i64 ((l3.length : Int) - 1)] rfl rfl (int_new _ _ _) (int_one _) (by unfold maxLen; omega) (by omega) (Nat.le_trans HM3.out.ke.1 (by simp)) ?_; intro v' w5 hown hg hwh; obtain ⟨A5, c5, rfl, hbx5, hk5⟩ := HM3.out.app rfl HOS.out ((Below.refl _ _).alloc (Nat.le_refl _) _) hown hg hwh; have bf := hbx5.frozen 2; have bz := hbx5.lt; have bc : w5.cell? ⟨g, 2, none⟩ = some (.slice AK j cK) := hbx5.cell 2; have HM5 := hid hk5; clear hbx5 hk5 hown hg hwh)
   go_roundw
   case rel => exact ⟨j + 1, A5, c5, ks ++ [(l3.length : Int) - 1], A3, c3, l3, by omega, by go_num, rfl, HM5, HE4, HV3⟩
   case measure => simp [intOf]; omega
  ·obtain rfl : j = x.kids.length := by omega
   have HQ2 := hid (show (l2.map Nd.pn, ks) = Q by rw [← HE.out, mkKids_done (Nat.le_refl _)])
   have hwo : w0.heap.size ≤ w.heap.size := HOLD.out.size
   have k0 : wr.cell? ⟨g, 0, none⟩ = some (.int .i64 x.kind) := kc 0
   have k1 : wr.cell? ⟨g, 1, none⟩ = some (.string x.text) := kc 1
   have k2 : wr.cell? ⟨g, 2, none⟩ = some (.slice AK x.kids.length cK) := kc 2
   have k3 : wr.cell? ⟨g, 3, none⟩ = some (.bool x.blank) := kc 3
   obtain ⟨y, hy⟩ : ∃ y : Nd, y = ⟨x.kind, x.text, AK, x.kids.length, cK, ks, x.blank⟩ := ⟨_, rfl⟩
   have HNC := hid (show ∀ i v, (nodeCells y)[i]? = some v → (wr.alloc (.cells #[.int .i64 x.kind, .string x.text, .slice AK x.kids.length cK, .bool x.blank] 48)).cell? ((⟨wr.heap.size, 0, none⟩ : Addr).add i) = some v by
    have h9 := nd_new wr y 48
    rw [hy] at h9 ⊢
    exact h9)
   have HP := hid (fun (v' : Value) (w3 : World) h1 h2 h3 => HM.out.last rfl hwo HU.out (x := y) (by rw [hy]) (by rw [hy]) (by rw [hy]) (by rw [hy]) (w1 := wr.alloc (.cells #[.int .i64 x.kind, .string x.text, .slice AK x.kids.length cK, .bool x.blank] 48)) ((Below.refl _ _).alloc (Nat.le_refl _) _) (v' := v') (w3 := w3) h1 h2 h3)
   have HROW := hid (HM.out.mkc.2.1.alloc (.cells #[.int .i64 x.kind, .string x.text, .slice AK x.kids.length cK, .bool x.blank] 48))
   obtain ⟨i0, hi0, hz0, hz1, hz2⟩ := info_parts infoNd
   have HI := hid (And.intro hi0 (And.intro hz0 (And.intro hz1 hz2)))
   clear HE HV hwo hwold hi0 hz0 hz1 hz2 kc
   go_wp2_with (at_builtin; (refine wpList_append_row _ rfl (.tmp 58) (.tmp 60) _ rfl w0.heap.size 48 i0 (.agg #[.int .i64 0, .string ⟨#[]⟩, .slice none 0 0, .bool false]) 4 56 underlying26 HI.out.1 HI.out.2.1 HI.out.2.2.1 HI.out.2.2.2 rfl (by decide) (.slice AL l2.length cL) l2.length (l2.flatMap nodeCells) rfl HROW.out ⟨wr.heap.size, 0, none⟩ 1 1 (nodeCells y) rfl rfl HNC.out (nd_one _) (by unfold maxLen; omega) (by omega) (Nat.le_trans HM.out.mkc.old.size (by simp)) ?_); intro v' w6 hown6 hgrow hwh; obtain ⟨A6, c6, rfl, h6m, h6k⟩ := HP.out _ _ hown6 hgrow hwh; have HM6 := hid h6m; have HK6 := hid h6k; clear hown6 hgrow hwh h6m h6k)
   go_wp2
   go_ret2
   have hyl : (l2 ++ [y]).length = l2.length + 1 := by simp
   have hyi : (((l2 ++ [y]).length : Nat) : Int) - 1 = (l2.length : Int) := by rw [hyl]; omega
   refine ⟨A6, c6, l2 ++ [y], by rw [hyi, hyl]; rfl, HM6.out, HK6.out, ?_⟩
   rw [HEQ.out, ← HQ2.out, List.map_append, hy]
   rfl
def chainLR (t : ByteArray) : Int := if isT t [124, 124] = true then 2 else if isT t [38, 38] = true then 3 else if isT t [61, 61] = true then 4 else if isT t [60] = true then 5 else if isT t [42] = true then 7 else 6
def levelR (kd : Int) (t : ByteArray) : Int := if kd = 10 then 0 else if kd = 8 ∨ kd = 9 then 1 else if kd = 7 then chainLR t else 8
def otherR (kx : Int) (tx : ByteArray) (i : Nat) (ky : Int) (ty : ByteArray) : Bool := ((decide (i = 0) && (ky == 7)) && !(ty.toList == tx.toList)) && (levelR ky ty == 6) && (levelR kx tx == 6)
def wantsR (kx : Int) (tx : ByteArray) (m i : Nat) (ky : Int) (ty : ByteArray) : Bool :=
 if kx = 5 then decide (i = 0) && decide (levelR ky ty < 8)
 else if kx = 6 then decide (levelR ky ty < 8)
 else if kx = 7 then decide (levelR ky ty ≤ levelR kx tx) && !(otherR kx tx i ky ty)
 else if kx = 8 then (if i = 0 then decide (levelR ky ty < 2) else decide (levelR ky ty < 1))
 else if kx = 9 then decide (i + 1 = m) && decide (levelR ky ty < 1)
 else if kx = 10 then decide (i = 0) && decide (levelR ky ty < 1) else false
theorem chainLR_small (t : ByteArray) : 2 ≤ chainLR t ∧ chainLR t ≤ 7 := by
 unfold chainLR
 repeat (first | split | omega)
theorem levelR_small (kd : Int) (t : ByteArray) : 0 ≤ levelR kd t ∧ levelR kd t ≤ 8 := by
 have := chainLR_small t
 unfold levelR
 repeat (first | split | omega)
theorem level23_any (kd : Int) (t : ByteArray) (A : Option Addr) (n c : Nat) (z : Bool) (w : World) :
  Calls prog 162 #[.agg #[.int .i64 kd, .string t, .slice A n c, .bool z]] w fun e w' => e = .returned (.int .i64 (levelR kd t)) ∧ Below w.heap.size w w' := by
 unfold levelR
 by_cases h1 : kd = 10
 ·subst h1
  rw [if_pos rfl]
  go_enter func162, ntmps162
  go_wp2
  go_ret
  exact ⟨rfl, grow_⟩
 rw [if_neg h1]
 have e1 : (kd == 10) = false := beq_eq_false_iff_ne.2 h1
 by_cases h2 : kd = 8
 ·subst h2
  rw [if_pos (.inl rfl)]
  go_enter func162, ntmps162
  go_wp2
  go_ret
  exact ⟨rfl, grow_⟩
 have e2 : (kd == 8) = false := beq_eq_false_iff_ne.2 h2
 by_cases h3 : kd = 9
 ·subst h3
  rw [if_pos (.inr rfl)]
  go_enter func162, ntmps162
  go_wp2
  go_ret
  exact ⟨rfl, grow_⟩
 rw [if_neg (by omega)]
 have e3 : (kd == 9) = false := beq_eq_false_iff_ne.2 h3
 by_cases h4 : kd = 7
 ·subst h4
  rw [if_pos rfl]
  unfold chainLR isT
  cases q1 : (t.toList == [124, 124]) with
  | true =>
   rw [if_pos rfl]
   go_enter func162, ntmps162
   go_wp2
   go_ret
   exact ⟨rfl, grow_⟩
  | false =>
   rw [if_neg (by decide)]
   cases q2 : (t.toList == [38, 38]) with
   | true =>
    rw [if_pos rfl]
    go_enter func162, ntmps162
    go_wp2
    go_ret
    exact ⟨rfl, grow_⟩
   | false =>
    rw [if_neg (by decide)]
    cases q3 : (t.toList == [61, 61]) with
    | true =>
     rw [if_pos rfl]
     go_enter func162, ntmps162
     go_wp2
     go_ret
     exact ⟨rfl, grow_⟩
    | false =>
     rw [if_neg (by decide)]
     cases q4 : (t.toList == [60]) with
     | true =>
      rw [if_pos rfl]
      go_enter func162, ntmps162
      go_wp2
      go_ret
      exact ⟨rfl, grow_⟩
     | false =>
      rw [if_neg (by decide)]
      cases q5 : (t.toList == [42]) with
      | true =>
       rw [if_pos rfl]
       go_enter func162, ntmps162
       go_wp2
       go_ret
       exact ⟨rfl, grow_⟩
      | false =>
       rw [if_neg (by decide)]
       go_enter func162, ntmps162
       go_wp2
       go_ret
       exact ⟨rfl, grow_⟩
 rw [if_neg h4]
 have e4 : (kd == 7) = false := beq_eq_false_iff_ne.2 h4
 clear h1 h2 h3 h4
 go_enter func162, ntmps162
 go_wp2
 go_ret
 exact ⟨rfl, grow_⟩
theorem bare23_any (A : Option Addr) (n c : Nat) (ps : List PN) (hg : Good ps) (hp : ParOk ps) (k : Nat) (hk : k < n) (w : World) (hps : Nps w A n ps) :
  Calls prog 114 #[.slice A n c, .int .i64 (k : Int)] w fun e w' => e = .returned (.int .i64 (bareV ps k : Int)) ∧ w = w' := by
 have HP := hid hps
 have hlen := hps.len
 obtain ⟨B, hB⟩ : ∃ B, bareV ps k = B := ⟨_, rfl⟩
 rw [hB]
 have HB := hid hB
 clear hps hB
 go_enter func114, ntmps114
 go_wp2
 go_loop [1] (fun s => ∃ q : Nat, q < n ∧ s = .int .i64 (q : Int) ∧ Hid (bareV ps q = B)) (fun s => (intOf s).toNat)
 case atStart => exact ⟨k, hk, rfl, HB⟩
 case round =>
  clear HB
  obtain ⟨q, hq, rfl, HQ⟩ := hrel
  obtain ⟨x, hx⟩ := HP.out.get hq
  obtain ⟨b, off, A', c', rfl, hblt, x0, x1, x2, x3, hxr⟩ := HP.out.at_ hq hx
  by_cases h11 : x.kind = 11
  ·have hp1 := hp q x hx h11
   obtain ⟨hq1, hq2⟩ := kid0_lt hg hx (by rw [hp1]; omega)
   obtain ⟨b5, off5, rfl, hblt5, cv⟩ := int_at hxr (by omega) hq1
   simp only [Nat.add_zero] at cv
   have HQ2 := hid (show bareV ps (kid0 x) = B by rw [← bareV_par hg hp hx h11]; exact HQ.out)
   have hqn : kid0 x < n := by omega
   rw [h11] at x0
   rw [hp1] at x2
   clear hxr hq1 hx x1 x3 HQ h11 hp1
   generalize kid0 x = z at *
   go_wp2
   go_round
   case rel => exact ⟨z, hqn, rfl, HQ2⟩
   case measure => simp [intOf]; omega
  ·have hb := bareV_not hx h11
   have hqB : q = B := by rw [← hb]; exact HQ.out
   subst hqB
   have e11 : (x.kind == 11) = false := beq_eq_false_iff_ne.2 h11
   clear hxr hx x1 x2 x3 HQ h11 hb
   go_wp2
   go_ret
   exact ⟨rfl, rfl⟩
theorem wants23_lo (kx : Int) (tx : ByteArray) (A : Option Addr) (m c : Nat) (z : Bool) (i : Nat) (ky : Int) (ty : ByteArray) (A2 : Option Addr) (n2 c2 : Nat) (z2 : Bool) (w : World) (hi : i < m) (hm : m ≤ 100) (hk : kx ≠ 7) :
  Calls prog 115 #[.agg #[.int .i64 kx, .string tx, .slice A m c, .bool z], .int .i64 i, .agg #[.int .i64 ky, .string ty, .slice A2 n2 c2, .bool z2]] w fun e w' => e = .returned (.bool (wantsR kx tx m i ky ty)) ∧ Below w.heap.size w w' := by
 have HL := hid (fun W => level23_any ky ty A2 n2 c2 z2 W)
 have HX := hid (levelR_small ky ty)
 unfold wantsR
 generalize levelR ky ty = L at HL HX ⊢
 have hx0 := HX.out.1
 have hx1 := HX.out.2
 have hb := (Below.refl w.heap.size w)
 have e3 : (kx == 7) = false := beq_eq_false_iff_ne.2 hk
 by_cases h1 : kx = 5
 ·subst h1
  rw [if_pos rfl]
  clear e3 hk
  by_cases h0 : i = 0
  ·subst h0
   rw [decide_eq_true rfl, Bool.true_and]
   go_enter func115, ntmps115
   go_wp2_with (go_at_call 162; first | (refine (HL.out _).mono ?_; rintro e w1 ⟨rfl, h2⟩; have hb1 := below_next2 hb h2; have K1 := Blk.fresh2 h2; have K2 := (show Blk w1 (w.heap.size + 1) _ _ from by have := Blk.fresh h2; rwa [World.size_alloc] at this); have zz := K1.lt; have zz2 := K2.lt; have k0 := K1.cell 0; have k1 := K1.cell 1; have k2 := K1.cell 2; have k3 := K1.cell 3; have j0 := K2.cell 0; have j1 := K2.cell 1; have j2 := K2.cell 2; have j3 := K2.cell 3; clear K1 K2 h2; simp only [List.getElem?_toArray, List.getElem?_cons_zero, List.getElem?_cons_succ] at k0 k1 k2 k3 j0 j1 j2 j3))
   go_ret
   exact ⟨rfl, hb1⟩
  ·have e0 : ((i : Int) == 0) = false := by rw [beq_eq_false_iff_ne]; omega
   rw [decide_eq_false h0, Bool.false_and]
   go_enter func115, ntmps115
   go_wp2_with (go_at_call 162; first | (refine (HL.out _).mono ?_; rintro e w1 ⟨rfl, h2⟩; have hb1 := below_next2 hb h2; have K1 := Blk.fresh2 h2; have K2 := (show Blk w1 (w.heap.size + 1) _ _ from by have := Blk.fresh h2; rwa [World.size_alloc] at this); have zz := K1.lt; have zz2 := K2.lt; have k0 := K1.cell 0; have k1 := K1.cell 1; have k2 := K1.cell 2; have k3 := K1.cell 3; have j0 := K2.cell 0; have j1 := K2.cell 1; have j2 := K2.cell 2; have j3 := K2.cell 3; clear K1 K2 h2; simp only [List.getElem?_toArray, List.getElem?_cons_zero, List.getElem?_cons_succ] at k0 k1 k2 k3 j0 j1 j2 j3))
   go_ret
   exact ⟨rfl, hb1⟩
 rw [if_neg h1]
 have e1 : (kx == 5) = false := beq_eq_false_iff_ne.2 h1
 by_cases h2 : kx = 6
 ·subst h2
  rw [if_pos rfl]
  clear e3 hk
  go_enter func115, ntmps115
  go_wp2_with (go_at_call 162; first | (refine (HL.out _).mono ?_; rintro e w1 ⟨rfl, h2⟩; have hb1 := below_next2 hb h2; have K1 := Blk.fresh2 h2; have K2 := (show Blk w1 (w.heap.size + 1) _ _ from by have := Blk.fresh h2; rwa [World.size_alloc] at this); have zz := K1.lt; have zz2 := K2.lt; have k0 := K1.cell 0; have k1 := K1.cell 1; have k2 := K1.cell 2; have k3 := K1.cell 3; have j0 := K2.cell 0; have j1 := K2.cell 1; have j2 := K2.cell 2; have j3 := K2.cell 3; clear K1 K2 h2; simp only [List.getElem?_toArray, List.getElem?_cons_zero, List.getElem?_cons_succ] at k0 k1 k2 k3 j0 j1 j2 j3))
  go_ret
  exact ⟨rfl, hb1⟩
 rw [if_neg h2, if_neg hk]
 have e2 : (kx == 6) = false := beq_eq_false_iff_ne.2 h2
 by_cases h4 : kx = 8
 ·subst h4
  rw [if_pos rfl]
  by_cases h0 : i = 0
  ·subst h0
   rw [if_pos rfl]
   by_cases hl : L < 2
   ·have hld := decide_eq_true hl
    rw [hld]
    go_enter func115, ntmps115
    go_wp2_with (go_at_call 162; first | (refine (HL.out _).mono ?_; rintro e w1 ⟨rfl, h2⟩; have hb1 := below_next2 hb h2; have K1 := Blk.fresh2 h2; have K2 := (show Blk w1 (w.heap.size + 1) _ _ from by have := Blk.fresh h2; rwa [World.size_alloc] at this); have zz := K1.lt; have zz2 := K2.lt; have k0 := K1.cell 0; have k1 := K1.cell 1; have k2 := K1.cell 2; have k3 := K1.cell 3; have j0 := K2.cell 0; have j1 := K2.cell 1; have j2 := K2.cell 2; have j3 := K2.cell 3; clear K1 K2 h2; simp only [List.getElem?_toArray, List.getElem?_cons_zero, List.getElem?_cons_succ] at k0 k1 k2 k3 j0 j1 j2 j3))
    go_ret
    exact ⟨rfl, hb1⟩
   ·have hld := decide_eq_false hl
    have hld1 : decide (L < 1) = false := decide_eq_false (by omega)
    rw [hld]
    go_enter func115, ntmps115
    go_wp2_with (go_at_call 162; first | (refine (HL.out _).mono ?_; rintro e w1 ⟨rfl, h2⟩; have hb1 := below_next2 hb h2; have K1 := Blk.fresh2 h2; have K2 := (show Blk w1 (w.heap.size + 1) _ _ from by have := Blk.fresh h2; rwa [World.size_alloc] at this); have zz := K1.lt; have zz2 := K2.lt; have k0 := K1.cell 0; have k1 := K1.cell 1; have k2 := K1.cell 2; have k3 := K1.cell 3; have j0 := K2.cell 0; have j1 := K2.cell 1; have j2 := K2.cell 2; have j3 := K2.cell 3; clear K1 K2 h2; simp only [List.getElem?_toArray, List.getElem?_cons_zero, List.getElem?_cons_succ] at k0 k1 k2 k3 j0 j1 j2 j3))
    go_ret
    exact ⟨rfl, hb1⟩
  ·have e0 : ((i : Int) == 0) = false := by rw [beq_eq_false_iff_ne]; omega
   rw [if_neg h0]
   go_enter func115, ntmps115
   go_wp2_with (go_at_call 162; first | (refine (HL.out _).mono ?_; rintro e w1 ⟨rfl, h2⟩; have hb1 := below_next2 hb h2; have K1 := Blk.fresh2 h2; have K2 := (show Blk w1 (w.heap.size + 1) _ _ from by have := Blk.fresh h2; rwa [World.size_alloc] at this); have zz := K1.lt; have zz2 := K2.lt; have k0 := K1.cell 0; have k1 := K1.cell 1; have k2 := K1.cell 2; have k3 := K1.cell 3; have j0 := K2.cell 0; have j1 := K2.cell 1; have j2 := K2.cell 2; have j3 := K2.cell 3; clear K1 K2 h2; simp only [List.getElem?_toArray, List.getElem?_cons_zero, List.getElem?_cons_succ] at k0 k1 k2 k3 j0 j1 j2 j3))
   go_ret
   exact ⟨rfl, hb1⟩
 rw [if_neg h4]
 have e4 : (kx == 8) = false := beq_eq_false_iff_ne.2 h4
 by_cases h5 : kx = 9
 ·subst h5
  rw [if_pos rfl]
  by_cases h0 : i + 1 = m
  ·have e0 : ((i : Int) + 1 == (m : Int)) = true := by rw [beq_iff_eq]; omega
   rw [decide_eq_true h0, Bool.true_and]
   go_enter func115, ntmps115
   go_wp2_with (go_at_call 162; first | (refine (HL.out _).mono ?_; rintro e w1 ⟨rfl, h2⟩; have hb1 := below_next2 hb h2; have K1 := Blk.fresh2 h2; have K2 := (show Blk w1 (w.heap.size + 1) _ _ from by have := Blk.fresh h2; rwa [World.size_alloc] at this); have zz := K1.lt; have zz2 := K2.lt; have k0 := K1.cell 0; have k1 := K1.cell 1; have k2 := K1.cell 2; have k3 := K1.cell 3; have j0 := K2.cell 0; have j1 := K2.cell 1; have j2 := K2.cell 2; have j3 := K2.cell 3; clear K1 K2 h2; simp only [List.getElem?_toArray, List.getElem?_cons_zero, List.getElem?_cons_succ] at k0 k1 k2 k3 j0 j1 j2 j3))
   go_ret
   exact ⟨rfl, hb1⟩
  ·have e0 : ((i : Int) + 1 == (m : Int)) = false := by rw [beq_eq_false_iff_ne]; omega
   rw [decide_eq_false h0, Bool.false_and]
   go_enter func115, ntmps115
   go_wp2_with (go_at_call 162; first | (refine (HL.out _).mono ?_; rintro e w1 ⟨rfl, h2⟩; have hb1 := below_next2 hb h2; have K1 := Blk.fresh2 h2; have K2 := (show Blk w1 (w.heap.size + 1) _ _ from by have := Blk.fresh h2; rwa [World.size_alloc] at this); have zz := K1.lt; have zz2 := K2.lt; have k0 := K1.cell 0; have k1 := K1.cell 1; have k2 := K1.cell 2; have k3 := K1.cell 3; have j0 := K2.cell 0; have j1 := K2.cell 1; have j2 := K2.cell 2; have j3 := K2.cell 3; clear K1 K2 h2; simp only [List.getElem?_toArray, List.getElem?_cons_zero, List.getElem?_cons_succ] at k0 k1 k2 k3 j0 j1 j2 j3))
   go_ret
   exact ⟨rfl, hb1⟩
 rw [if_neg h5]
 have e5 : (kx == 9) = false := beq_eq_false_iff_ne.2 h5
 by_cases h6 : kx = 10
 ·subst h6
  rw [if_pos rfl]
  by_cases h0 : i = 0
  ·subst h0
   rw [decide_eq_true rfl, Bool.true_and]
   go_enter func115, ntmps115
   go_wp2_with (go_at_call 162; first | (refine (HL.out _).mono ?_; rintro e w1 ⟨rfl, h2⟩; have hb1 := below_next2 hb h2; have K1 := Blk.fresh2 h2; have K2 := (show Blk w1 (w.heap.size + 1) _ _ from by have := Blk.fresh h2; rwa [World.size_alloc] at this); have zz := K1.lt; have zz2 := K2.lt; have k0 := K1.cell 0; have k1 := K1.cell 1; have k2 := K1.cell 2; have k3 := K1.cell 3; have j0 := K2.cell 0; have j1 := K2.cell 1; have j2 := K2.cell 2; have j3 := K2.cell 3; clear K1 K2 h2; simp only [List.getElem?_toArray, List.getElem?_cons_zero, List.getElem?_cons_succ] at k0 k1 k2 k3 j0 j1 j2 j3))
   go_ret
   exact ⟨rfl, hb1⟩
  ·have e0 : ((i : Int) == 0) = false := by rw [beq_eq_false_iff_ne]; omega
   rw [decide_eq_false h0, Bool.false_and]
   go_enter func115, ntmps115
   go_wp2_with (go_at_call 162; first | (refine (HL.out _).mono ?_; rintro e w1 ⟨rfl, h2⟩; have hb1 := below_next2 hb h2; have K1 := Blk.fresh2 h2; have K2 := (show Blk w1 (w.heap.size + 1) _ _ from by have := Blk.fresh h2; rwa [World.size_alloc] at this); have zz := K1.lt; have zz2 := K2.lt; have k0 := K1.cell 0; have k1 := K1.cell 1; have k2 := K1.cell 2; have k3 := K1.cell 3; have j0 := K2.cell 0; have j1 := K2.cell 1; have j2 := K2.cell 2; have j3 := K2.cell 3; clear K1 K2 h2; simp only [List.getElem?_toArray, List.getElem?_cons_zero, List.getElem?_cons_succ] at k0 k1 k2 k3 j0 j1 j2 j3))
   go_ret
   exact ⟨rfl, hb1⟩
 rw [if_neg h6]
 have e6 : (kx == 10) = false := beq_eq_false_iff_ne.2 h6
 go_enter func115, ntmps115
 go_wp2_with (go_at_call 162; first | (refine (HL.out _).mono ?_; rintro e w1 ⟨rfl, h2⟩; have hb1 := below_next2 hb h2; have K1 := Blk.fresh2 h2; have K2 := (show Blk w1 (w.heap.size + 1) _ _ from by have := Blk.fresh h2; rwa [World.size_alloc] at this); have zz := K1.lt; have zz2 := K2.lt; have k0 := K1.cell 0; have k1 := K1.cell 1; have k2 := K1.cell 2; have k3 := K1.cell 3; have j0 := K2.cell 0; have j1 := K2.cell 1; have j2 := K2.cell 2; have j3 := K2.cell 3; clear K1 K2 h2; simp only [List.getElem?_toArray, List.getElem?_cons_zero, List.getElem?_cons_succ] at k0 k1 k2 k3 j0 j1 j2 j3))
 go_ret
 exact ⟨rfl, hb1⟩
theorem wants23_ch (tx : ByteArray) (A : Option Addr) (m c : Nat) (z : Bool) (i : Nat) (ky : Int) (ty : ByteArray) (A2 : Option Addr) (n2 c2 : Nat) (z2 : Bool) (w : World) :
  Calls prog 115 #[.agg #[.int .i64 7, .string tx, .slice A m c, .bool z], .int .i64 i, .agg #[.int .i64 ky, .string ty, .slice A2 n2 c2, .bool z2]] w fun e w' => e = .returned (.bool (wantsR 7 tx m i ky ty)) ∧ Below w.heap.size w w' := by
 have HL := hid (fun W => level23_any ky ty A2 n2 c2 z2 W)
 have HM := hid (fun W => level23_any 7 tx A m c z W)
 have hb := (Below.refl w.heap.size w)
 have HS := hid (fun (W : World) (h : Below w.heap.size w W) => h)
 unfold wantsR otherR
 rw [if_neg (by decide), if_neg (by decide), if_pos rfl]
 generalize levelR ky ty = L at HL ⊢
 generalize levelR 7 tx = M at HM ⊢
 have e0 : ∃ b0 : Bool, ((i : Int) == 0) = b0 ∧ decide (i = 0) = b0 := by
  by_cases h : i = 0
  ·exact ⟨true, by rw [beq_iff_eq]; omega, decide_eq_true h⟩
  ·exact ⟨false, by rw [beq_eq_false_iff_ne]; omega, decide_eq_false h⟩
 obtain ⟨b0, e0, e0'⟩ := e0
 rw [e0']
 obtain ⟨b1, e1⟩ : ∃ b1, (ky == 7) = b1 := ⟨_, rfl⟩
 obtain ⟨b2, e2⟩ : ∃ b2, (ty.toList == tx.toList) = b2 := ⟨_, rfl⟩
 obtain ⟨b3, e3⟩ : ∃ b3, (L == 6) = b3 := ⟨_, rfl⟩
 obtain ⟨b4, e4⟩ : ∃ b4, (M == 6) = b4 := ⟨_, rfl⟩
 obtain ⟨b5, e5⟩ : ∃ b5, decide (L ≤ M) = b5 := ⟨_, rfl⟩
 rw [e1, e2, e3, e4, e5]
 clear e0'
 go_enter func115, ntmps115
 go_wp2_with (first | (go_at_call_of 162 (Value.agg #[.int .i64 ky, .string ty, .slice A2 n2 c2, .bool z2]); refine (HL.out _).mono ?_; rintro e w1 ⟨rfl, h2⟩; have hb1 := below_next2 hb h2; have K1 := Blk.fresh2 h2; have K2 := (show Blk w1 (w.heap.size + 1) _ _ from by have := Blk.fresh h2; rwa [World.size_alloc] at this); have zz := K1.lt; have zz2 := K2.lt; have k0 := K1.cell 0; have k1 := K1.cell 1; have k2 := K1.cell 2; have k3 := K1.cell 3; have j0 := K2.cell 0; have j1 := K2.cell 1; have j2 := K2.cell 2; have j3 := K2.cell 3; have HK1 := hid K1; clear K1 K2 h2; simp only [List.getElem?_toArray, List.getElem?_cons_zero, List.getElem?_cons_succ] at k0 k1 k2 k3 j0 j1 j2 j3) | (go_at_call_of 162 (Value.agg #[.int .i64 7, .string tx, .slice A m c, .bool z]); refine (HM.out _).mono ?_; rintro e w5 ⟨rfl, h5⟩; have hb5 : Below w.heap.size w w5 := (by first | exact below_next hb5 h5 | exact below_next hb1 h5); have K5 : Blk w5 w.heap.size 48 #[.int .i64 7, .string tx, .slice A m c, .bool z] := (by first | exact HK5.out.next h5 | exact HK1.out.next h5); have zz5 := K5.lt; have l0 := K5.cell 0; have l1 := K5.cell 1; have l2 := K5.cell 2; have l3 := K5.cell 3; have HK5 := hid K5; clear K5 h5; simp only [List.getElem?_toArray, List.getElem?_cons_zero, List.getElem?_cons_succ] at l0 l1 l2 l3))
 all_goals go_ret
 all_goals refine ⟨?_, hb5⟩
 all_goals simp_all
theorem wants23_any (kx : Int) (tx : ByteArray) (A : Option Addr) (m c : Nat) (z : Bool) (i : Nat) (ky : Int) (ty : ByteArray) (A2 : Option Addr) (n2 c2 : Nat) (z2 : Bool) (w : World) (hi : i < m) (hm : m ≤ 100) :
  Calls prog 115 #[.agg #[.int .i64 kx, .string tx, .slice A m c, .bool z], .int .i64 i, .agg #[.int .i64 ky, .string ty, .slice A2 n2 c2, .bool z2]] w fun e w' => e = .returned (.bool (wantsR kx tx m i ky ty)) ∧ Below w.heap.size w w' := by
 by_cases h : kx = 7
 ·subst h; exact wants23_ch tx A m c z i ky ty A2 n2 c2 z2 w
 ·exact wants23_lo kx tx A m c z i ky ty A2 n2 c2 z2 w hi hm h
theorem chain_cases {t : ByteArray} (h : chainB t = true) : t.toList = [38, 38] ∨ t.toList = [124, 124] ∨ t.toList = [61, 61] ∨ t.toList = [60] ∨ t.toList = [43] ∨ t.toList = [45] ∨ t.toList = [42] := by
 unfold chainB at h
 simp only [Bool.or_eq_true, beq_iff_eq] at h
 rcases h with (((((h | h) | h) | h) | h) | h) | h <;> simp [h]
theorem chainLR_eq {t : ByteArray} (h : chainB t = true) : chainLR t = chainLv t := by
 unfold chainLR chainLv isT
 rcases chain_cases h with h | h | h | h | h | h | h <;> rw [h] <;> rfl
theorem levelR_eq {kd : Int} {t : ByteArray} (h : kd = 7 → chainB t = true) : levelR kd t = levelK kd t := by
 unfold levelR levelK
 by_cases h7 : kd = 7
 ·subst h7; rw [chainLR_eq (h rfl)]
 ·rw [if_neg h7, if_neg h7]
theorem other_swap {tx ty : ByteArray} (h1 : chainB tx = true) (h2 : chainB ty = true) : ((!(ty.toList == tx.toList)) && (chainLR ty == 6) && (chainLR tx == 6)) = ((isT tx [43] && isT ty [45]) || (isT tx [45] && isT ty [43])) := by
 unfold chainLR isT
 rcases chain_cases h1 with h | h | h | h | h | h | h <;> rcases chain_cases h2 with k | k | k | k | k | k | k <;> rw [h, k] <;> rfl
theorem wantsR_eq {kx : Int} {tx : ByteArray} {m i : Nat} {ky : Int} {ty : ByteArray} (h1 : kx = 7 → chainB tx = true) (h2 : ky = 7 → chainB ty = true) : wantsR kx tx m i ky ty = wantsK kx tx m i ky ty := by
 unfold wantsR wantsK
 rw [levelR_eq h2]
 by_cases h7 : kx = 7
 ·subst h7
  have e : otherR 7 tx i ky ty = (decide (i = 0) && swapK 7 tx ky ty) := by
   unfold otherR swapK
   by_cases k7 : ky = 7
   ·subst k7
    have h := other_swap (h1 rfl) (h2 rfl)
    have e1 : levelR 7 ty = chainLR ty := rfl
    have e2 : levelR 7 tx = chainLR tx := rfl
    rw [e1, e2, ← h]
    cases decide (i = 0) <;> simp [Bool.and_assoc]
   ·have e7 : (ky == 7) = false := beq_eq_false_iff_ne.2 k7
    rw [e7]
    simp
  rw [e]
  have e3 : levelR 7 tx = chainLv tx := by rw [levelR_eq h1]; rfl
  rw [e3]
 ·rw [if_neg h7, if_neg h7]
def ChOk (ps : List PN) : Prop := ∀ (k : Nat) (x : PN), ps[k]? = some x → x.kind = 7 → chainB x.text = true
theorem TreeF.ch {ps : List PN} {m : Nat} (h : TreeF ps m) : ChOk ps := fun k x hx h7 => by
 have hl := (List.getElem?_eq_some_iff.1 hx).1
 have hp := (nodeB_parts (h.node k (by have := h.tree.len; omega)) hx).1
 rw [h7] at hp
 exact hp
section
variable {R : MC} {w : World} {row0 : Option Nat} {g : Nat} {box : Array Value} {j : Nat} {AK : Option Addr} {cK : Nat} {ks : List Int} {AL AN : Option Addr} {cL cN : Nat} {l : List Nd} {wr w' : World} {e : Ending}
abbrev parNd (wr : World) (k : Int) : Nd := ⟨11, ⟨#[]⟩, some ⟨wr.heap.size, 0, none⟩, 1, 1, [k], false⟩
theorem KidG.parPush (hR : R.imp = false) (h : KidG R w row0 g box j AK cK ks AL cL l wr) (k : Int) {w1 w3 : World} {v' : Value} (hw1 : Below (wr.alloc (.cells #[.int .i64 k] 3)).heap.size (wr.alloc (.cells #[.int .i64 k] 3)) w1)
  (hown : w3.ownsRow R.w0.heap.size 48 4 v' (l.length + 1) (l.flatMap nodeCells ++ nodeCells (parNd wr k))) (hg : w1.grownBy w3 (Value.slice AL l.length cL).ownBlock) (hwh : v'.ownBlock = (Value.slice AL l.length cL).ownBlock ∨ v'.ownBlock = some w1.heap.size) :
  ∃ A3 c3, v' = .slice A3 (l.length + 1) c3 ∧ KidG R w row0 g box j AK cK ks A3 c3 (l ++ [parNd wr k]) w3 := by
 have hold : R.w0.heap.size ≤ wr.heap.size := h.mkc.old.size
 have ha : MkC ((R.res AK).res (some ⟨wr.heap.size, 0, none⟩)) 0 (.bool false) AL cL l (wr.alloc (.cells #[.int .i64 k] 3)) := h.mkc.res_new ((Below.refl _ _).alloc (Nat.le_refl _) _) (fun g e => by
  injection e with e; simp only at e; subst e; simp)
 have hx : KidsIn (wr.alloc (.cells #[.int .i64 k] 3)) R.w0.heap.size (R.res AK).U (parNd wr k) := ⟨⟨Nat.le_refl _, fun g e hu => by
  injection e with e; simp only at e; subst e
  have := h.mkc.2.2.1.2.1 _ hu
  omega⟩, Mine.mk_own (c := 1) ⟨[], Blk.new wr 3 #[.int .i64 k], rfl⟩ rfl hold (Nat.le_refl _) (by unfold maxLen; omega)⟩
 have hap : ∀ y ∈ l, ApartR y (parNd wr k) := ha.apart rfl
 obtain ⟨A3, c3, e, hc, hk⟩ := ha.unres.push (parNd wr k) hx hap hw1 hown hg hwh
 exact ⟨A3, c3, e, (h.next ((Below.refl _ _).alloc (Nat.le_refl _) _)).step hR hc hk⟩
end
theorem put23_any (A : Option Addr) (n c : Nat) (ps : List PN) (w0 : World) (hps : Nps w0 A n ps) (hgd : Good ps) (hp : ParOk ps) (hch : ChOk ps) :
  ∀ k, k < n → PutM 70 A n c w0 (spareW ps) ps k := by
 intro k
 induction k using Nat.strongRecOn with
 | ind k ih =>
 intro hk U AN cN l w hc hv
 obtain ⟨x, hx⟩ := hps.get hk
 have hlen := hps.len
 have HL := hid (hgd k x hx)
 have hk12 := HL.out.1
 have hvk := visV_eq hgd hx
 have HEQ := hid (mkV_eq (spareW_fits hgd hp) hx rfl (l.map Nd.pn))
 have HF := hid (fun (i : Nat) (kid : Int) h => spareW_fits hgd hp k x i kid hx rfl h)
 have HIH := hid ih
 obtain ⟨b, off, A', c', rfl, hblt0, y0, y1, y2, y3, hxr⟩ := hps.at_ hk hx
 have hcb := (bcell hc.old).1
 have x0 := (hcb _ _ hblt0).trans y0
 have x1 := (hcb _ _ hblt0).trans y1
 have x2 := (hcb _ _ hblt0).trans y2
 have x3 := (hcb _ _ hblt0).trans y3
 have hblt : b < w.heap.size := Nat.lt_of_lt_of_le hblt0 hc.old.size
 have HX2 := hid (fun W (hW : Below w0.heap.size w0 W) => ((bcell hW).1 _ _ hblt0).trans y2)
 have HXR := hid (fun W (hW : Below w0.heap.size w0 W) => hxr.next hW)
 have HBL0 := hid hblt0
 have HX4 := hid (fun W (hW : Below w0.heap.size w0 W) => And.intro (((bcell hW).1 _ _ hblt0).trans y0) (And.intro (((bcell hW).1 _ _ hblt0).trans y1) (And.intro (((bcell hW).1 _ _ hblt0).trans y2) (((bcell hW).1 _ _ hblt0).trans y3))))
 clear y0 y1 y2 y3 hcb
 have HCC := hid hc
 obtain ⟨Q, hQ⟩ : ∃ Q, mkKids (mkV (spareW ps) ps) ((spareW ps).turn x) 0 x.kids (l.map Nd.pn) [] = Q := ⟨_, rfl⟩
 rw [hQ] at HEQ
 replace hQ := hid hQ
 have HOLD := hid (show Below w0.heap.size w0 w from hc.old)
 have HU := hid (show ∀ g, U g → g < w.heap.size from hc.2.2.1.2.1)
 have HV0 := hid (show l.length + costK (visV ps) (x.kids.drop 0) + 1 ≤ 300 by rw [List.drop_zero]; omega)
 clear hc hxr ih hvk hv hblt0
 go_enter func70, ntmps70
 go_wp2_with fail
 go_cut [8] (fun s8 wx => ∃ g g1 : Nat, s8 = .pointer (some ⟨g, 0, none⟩) ∧ Hid (KidG (RS w0 U) w (AN.map (·.block)) g #[.int .i64 x.kind, .string x.text, .slice A' x.kids.length c', .bool x.blank] 0 (some ⟨g1, 0, none⟩) 0 [] AN cN l wx))
 case first =>
  go_region_held3 (fun w' => w'.cell? ⟨b, off + k * 4, none⟩ = some (.int .i64 x.kind) ∧ w'.cell? ⟨b, off + k * 4 + 1, none⟩ = some (.string x.text) ∧ w'.cell? ⟨b, off + k * 4 + 3, none⟩ = some (.bool x.blank)) (go_keep) (first | fail)
  ·go_wp2_with fail; go_meet; exact ⟨w.heap.size + 1, w.heap.size, rfl, KidG.laid1 rfl HCC.out _ _ _ _⟩
  ·go_wp2_with fail; go_meet; exact ⟨w.heap.size, w.heap.size + 1, rfl, KidG.laid2 rfl HCC.out _ _ _ _⟩
 case rest =>
 obtain ⟨g, g1, rfl, HC0⟩ := hcut
 clear HCC x0 x1 x2 x3
 go_wp2
 go_loopw [2, 9] (fun s2 s9 wr => ∃ (j : Nat) (AK : Option Addr) (cK : Nat) (ks : List Int) (AL : Option Addr) (cL : Nat) (l2 : List Nd), j ≤ x.kids.length ∧ s9 = .int .i64 j ∧ s2 = .slice AL l2.length cL ∧ Hid (KidG (RS w0 U) w (AN.map (·.block)) g #[.int .i64 x.kind, .string x.text, .slice A' x.kids.length c', .bool x.blank] j AK cK ks AL cL l2 wr) ∧ Hid (mkKids (mkV (spareW ps) ps) ((spareW ps).turn x) j (x.kids.drop j) (l2.map Nd.pn) ks = Q) ∧ Hid (l2.length + costK (visV ps) (x.kids.drop j) + 1 ≤ 300)) (fun _ i _ => x.kids.length - (intOf i).toNat)
 case atStart => exact ⟨0, _, 0, [], AN, cN, l, Nat.zero_le _, rfl, rfl, HC0, hQ, HV0⟩
 case round =>
  clear HC0 hQ HV0
  obtain ⟨j, AK, cK, ks, AL, cL, l2, hj, rfl, rfl, HM, HE, HV⟩ := hrel
  obtain ⟨kc, kf, kz⟩ := HM.out.cells
  have hwold : Below w0.heap.size w0 wr := HM.out.mkc.old
  have hl300 : l2.length ≤ 300 := by have := HV.out; omega
  have x2 := HX2.out wr hwold
  have hblt2 : b < wr.heap.size := Nat.lt_of_lt_of_le HBL0.out hwold.size
  by_cases hjl : j < x.kids.length
  ·obtain ⟨v, hd⟩ : ∃ d, x.kids[j]? = some d := ⟨_, List.getElem?_eq_getElem hjl⟩
   have hxr : Rd wr 1 A' x.kids.length (intCells x.kids) := HXR.out wr hwold
   obtain ⟨b5, off5, rfl, hblt5, cv⟩ := int_at hxr hjl hd
   have hF := HF.out j v hd
   have hvn := HL.out.2 v (List.mem_of_getElem? hd)
   have HSTEP := hid (fun (o : List PN) ks => mkKids_at (go := mkV (spareW ps) ps) (turn := (spareW ps).turn x) (o := o) (ks := ks) hd)
   have HCO := hid (costK_drop (g := visV ps) hd)
   obtain ⟨q, rfl⟩ : ∃ q : Nat, v = (q : Int) := ⟨v.toNat, by omega⟩
   have hqn : q < n := by omega
   obtain ⟨y, hy⟩ := hps.get hqn
   have hnd : ndAt ps ((q : Int)).toNat = y := by rw [Int.toNat_natCast]; exact ndAt_of hy
   have HBA := hid (bare23_any (some ⟨b, off, none⟩) n c ps hgd hp q hqn wr (hps.next hwold))
   have HOS := hid (show w0.heap.size ≤ w.heap.size from HOLD.out.size)
   obtain ⟨i0, hi0, hz0, hz1, hz2⟩ := info_parts infoInt
   have HI := hid (And.intro hi0 (And.intro hz0 (And.intro hz1 hz2)))
   clear hd hxr hi0 hz0 hz1 hz2 kc kf kz
   by_cases h11 : y.kind = 11
   ·obtain ⟨f1, ⟨u, hu, hun⟩, f3, f4⟩ := bareV_facts hgd hp q (by omega)
    obtain ⟨f5, f6⟩ := f4 y hy h11
    obtain ⟨o, ho⟩ : ∃ o, bareV ps q = o := ⟨_, rfl⟩
    have hturn : (spareW ps).turn x j (q : Int) = (o, wantsB x j u) := by
     unfold spareW
     simp only [hnd]
     rw [if_pos h11, Int.toNat_natCast, ho, ndAt_of (by rw [← ho]; exact hu)]
    rw [ho] at f1 f3 f5 f6 hu HBA
    rw [hturn] at hF
    simp only [hturn] at HSTEP
    have hok : o < k := hF.1
    have hon : o < n := by omega
    have hne : ((o : Int) == (q : Int)) = false := by rw [beq_eq_false_iff_ne]; omega
    have HLEN := hid (mkV_len hgd (spareW_fits hgd hp) o (by omega))
    have HCS := hid (show l2.length + visV ps o ≤ 300 by have h1 := HV.out; have h2 := HCO.out; simp only [Int.toNat_natCast] at h2; omega)
    have HEQW := hid (show wantsR x.kind x.text x.kids.length j u.kind u.text = wantsB x j u from wantsR_eq (hch k x hx) (hch o u hu))
    obtain ⟨bo, oo, Ao, co, eo, hbo0, z0, z1, z2, z3, _⟩ := hps.at_ hon hu
    injection eo with eo; injection eo with eo1 eo2; subst eo1; subst eo2
    have HZ := hid (fun W (hW : Below w0.heap.size w0 W) => And.intro (((bcell hW).1 _ _ hbo0).trans z0) (And.intro (((bcell hW).1 _ _ hbo0).trans z1) (And.intro (((bcell hW).1 _ _ hbo0).trans z2) (((bcell hW).1 _ _ hbo0).trans z3))))
    clear hy hnd hturn hu z0 z1 z2 z3 ho f1 f3 f4 h11 hx
    go_wp2_with (go_at_call 114; refine HBA.out.mono ?_; rintro e w9 ⟨rfl, rfl⟩)
    refine (HIH.out o hok hon _ _ _ _ _ HM.out.mkc HCS.out).mono ?_
    rintro e w3 h3
    obtain ⟨A3, c3, l3, rfl, h3m, h3e⟩ := HM.out.node rfl h3
    have HM3 := hid h3m
    have HE3 := hid h3e
    have hl3 : l3.length ≤ l2.length + visV ps o := by
     have := HLEN.out (l2.map Nd.pn)
     rw [← h3e, List.length_map, List.length_map] at this
     exact this
    clear h3 h3m h3e HM x2 cv
    have hjk : j ≤ 12 := by omega
    have hw3old : Below w0.heap.size w0 w3 := HM3.out.mkc.old
    obtain ⟨z0, z1, z2, z3⟩ := HZ.out w3 hw3old
    obtain ⟨y0, y1, y2, y3⟩ := HX4.out w3 hw3old
    have hbk : b < w3.heap.size := Nat.lt_of_lt_of_le HBL0.out hw3old.size
    clear hw3old HZ
    obtain ⟨p, hp2⟩ : ∃ p, wantsB x j u = p := ⟨_, rfl⟩
    rw [hp2] at hF HEQW
    simp only [hp2] at HSTEP
    have ho2 := hF.2
    have HWA := hid (fun W => wants23_any x.kind x.text (some ⟨b5, off5, none⟩) x.kids.length c' x.blank j u.kind u.text Ao u.kids.length co u.blank W hjl (by omega))
    rw [HEQW.out] at HWA
    clear hp2 hF HEQW
    go_upto_region 11 with fail
    go_cut [77] (fun s wx => s = .bool p ∧ Hid (Below w3.heap.size w3 wx))
    case first =>
     go_region_held3 (fun w' => w'.cell? ⟨b, off + k * 4, none⟩ = some (.int .i64 x.kind) ∧ w'.cell? ⟨b, off + k * 4 + 1, none⟩ = some (.string x.text) ∧ w'.cell? ⟨b, off + k * 4 + 2, none⟩ = some (.slice (some ⟨b5, off5, none⟩) x.kids.length c') ∧ w'.cell? ⟨b, off + k * 4 + 3, none⟩ = some (.bool x.blank) ∧ w'.cell? ⟨b, off + o * 4, none⟩ = some (.int .i64 u.kind) ∧ w'.cell? ⟨b, off + o * 4 + 1, none⟩ = some (.string u.text) ∧ w'.cell? ⟨b, off + o * 4 + 2, none⟩ = some (.slice Ao u.kids.length co) ∧ w'.cell? ⟨b, off + o * 4 + 3, none⟩ = some (.bool u.blank))
      (first | exact ⟨y0, y1, y2, y3, z0, z1, z2, z3⟩ | exact ⟨v0, v1, v2, v3, v4, v5, v6, v7⟩)
      (first | (go_at_call 115; refine (HWA.out _).mono ?_; rintro e w6 ⟨rfl, h6⟩; have h6' : Below w3.heap.size w3 w6 := (by first | exact h6 | exact (Below.refl _ _).drew.trans h6); have v0 := ((bcell h6').1 _ _ hbk).trans y0; have v1 := ((bcell h6').1 _ _ hbk).trans y1; have v2 := ((bcell h6').1 _ _ hbk).trans y2; have v3 := ((bcell h6').1 _ _ hbk).trans y3; have v4 := ((bcell h6').1 _ _ hbk).trans z0; have v5 := ((bcell h6').1 _ _ hbk).trans z1; have v6 := ((bcell h6').1 _ _ hbk).trans z2; have v7 := ((bcell h6').1 _ _ hbk).trans z3))
     all_goals (go_wp2_with fail; go_meet; exact ⟨rfl, h6'⟩)
    case rest =>
    obtain ⟨rfl, hcb⟩ := hcut
    have HM6 := hid (HM3.out.next hcb.out)
    clear y0 y1 y2 y3 z0 z1 z2 z3 hbk HM3 hcb HWA
    cases p with
    | false =>
     simp only [Bool.false_eq_true, if_false, Nat.add_zero] at ho2
     have HV3 := hid (show l3.length + costK (visV ps) (x.kids.drop (j + 1)) + 1 ≤ 300 by have h1 := HV.out; have h2 := HCO.out; omega)
     have HE4 := hid (show mkKids (mkV (spareW ps) ps) ((spareW ps).turn x) (j + 1) (x.kids.drop (j + 1)) (l3.map Nd.pn) (ks ++ [(l3.length : Int) - 1]) = Q by
      have h1 := HSTEP.out (l2.map Nd.pn) ks
      have h2 : onePut (mkV (spareW ps) ps) (o, false) (l2.map Nd.pn) = l3.map Nd.pn := by rw [HE3.out]; rfl
      rw [h2, List.length_map] at h1
      rw [← h1]; exact HE.out)
     clear HE HV HSTEP HLEN HE3
     obtain ⟨kc, kf, kz⟩ := HM6.out.cells
     have k2 : wc.cell? ⟨g, 2, none⟩ = some (.slice AK j cK) := kc 2
     have f2 := kf 2
     clear kc kf
     go_wp2_with (at_builtin; refine wpList_append_row _ rfl (.tmp 88) (.tmp 90) _ rfl w.heap.size 3 i0 (.int .i64 0) 1 8 underlying37 HI.out.1 HI.out.2.1 HI.out.2.2.1 HI.out.2.2.2 rfl (by decide) (.slice AK j cK) j (intCells ks) rfl (Mine.alloc HM6.out.row _) ⟨wc.heap.size, 0, none⟩ 1 1 [.int .i64 ((l3.length : Int) - 1)] rfl rfl (int_new _ _ _) (int_one _) (by unfold maxLen; omega) (by omega) (Nat.le_trans HM6.out.ke.1 (by simp)) ?_; intro v' w5 hown hg hwh; obtain ⟨A5, c5, rfl, hbx5, hk5⟩ := HM6.out.app rfl HOS.out ((Below.refl _ _).alloc (Nat.le_refl _) _) hown hg hwh; have bf := hbx5.frozen 2; have bz := hbx5.lt; have bc : w5.cell? ⟨g, 2, none⟩ = some (.slice AK j cK) := hbx5.cell 2; have HM5 := hid hk5; clear hbx5 hk5 hown hg hwh)
     go_roundw
     case rel => exact ⟨j + 1, A5, c5, ks ++ [(l3.length : Int) - 1], A3, c3, l3, by omega, by go_num, rfl, HM5, HE4, HV3⟩
     case measure => simp [intOf]; omega
    | true =>
     simp only [if_true] at ho2
     have HV3 := hid (show (l3 ++ [parNd wc ((l3.length : Int) - 1)]).length + costK (visV ps) (x.kids.drop (j + 1)) + 1 ≤ 300 by rw [lA, List.length_cons, List.length_nil]; have h1 := HV.out; have h2 := HCO.out; omega)
     have HE4 := hid (show mkKids (mkV (spareW ps) ps) ((spareW ps).turn x) (j + 1) (x.kids.drop (j + 1)) ((l3 ++ [parNd wc ((l3.length : Int) - 1)]).map Nd.pn) (ks ++ [(l3.length : Int)]) = Q by
      have h1 := HSTEP.out (l2.map Nd.pn) ks
      have h2 : onePut (mkV (spareW ps) ps) (o, true) (l2.map Nd.pn) = (l3 ++ [parNd wc ((l3.length : Int) - 1)]).map Nd.pn := by
       rw [List.map_append, HE3.out]
       unfold onePut
       rw [if_pos rfl, ← HE3.out, List.length_map]; rfl
      rw [h2, List.length_map, lA, List.length_cons, List.length_nil] at h1
      rw [show ((l3.length + (0 + 1) : Nat) : Int) - 1 = (l3.length : Int) by omega] at h1
      rw [← h1]; exact HE.out)
     have hl300 : l3.length ≤ 300 := by have := HCS.out; omega
     obtain ⟨n0, hn0, hn1, hn2, hn3⟩ := info_parts infoNd
     have HN := hid (And.intro hn0 (And.intro hn1 (And.intro hn2 hn3)))
     have HNC := hid (show ∀ i v, (nodeCells (parNd wc ((l3.length : Int) - 1)))[i]? = some v → ((wc.alloc (.cells #[.int .i64 ((l3.length : Int) - 1)] 3)).alloc (.cells #[.int .i64 11, .string ⟨#[]⟩, .slice (some ⟨wc.heap.size, 0, none⟩) 1 1, .bool false] 48)).cell? ((⟨wc.heap.size + 1, 0, none⟩ : Addr).add i) = some v by
      have h9 := nd_new (wc.alloc (.cells #[.int .i64 ((l3.length : Int) - 1)] 3)) (parNd wc ((l3.length : Int) - 1)) 48
      rw [World.size_alloc] at h9
      exact h9)
     have HP := hid (fun (v' : Value) (w7 : World) h1 h2 h3 => HM6.out.parPush rfl ((l3.length : Int) - 1) (w1 := (wc.alloc (.cells #[.int .i64 ((l3.length : Int) - 1)] 3)).alloc (.cells #[.int .i64 11, .string ⟨#[]⟩, .slice (some ⟨wc.heap.size, 0, none⟩) 1 1, .bool false] 48)) ((Below.refl _ _).alloc (Nat.le_refl _) _) (v' := v') (w3 := w7) h1 h2 h3)
     have HROW := hid ((HM6.out.mkc.2.1.alloc (.cells #[.int .i64 ((l3.length : Int) - 1)] 3)).alloc (.cells #[.int .i64 11, .string ⟨#[]⟩, .slice (some ⟨wc.heap.size, 0, none⟩) 1 1, .bool false] 48))
     have HSZ := hid (show w0.heap.size ≤ wc.heap.size from HM6.out.mkc.old.size)
     clear HE HV HSTEP HLEN HE3 hn0 hn1 hn2 hn3
     go_upto_region 14 with (at_builtin; (refine wpList_append_row _ rfl (.tmp 78) (.tmp 82) _ rfl w0.heap.size 48 n0 (.agg #[.int .i64 0, .string ⟨#[]⟩, .slice none 0 0, .bool false]) 4 56 underlying26 HN.out.1 HN.out.2.1 HN.out.2.2.1 HN.out.2.2.2 rfl (by decide) (.slice A3 l3.length c3) l3.length (l3.flatMap nodeCells) rfl HROW.out ⟨wc.heap.size + 1, 0, none⟩ 1 1 (nodeCells (parNd wc ((l3.length : Int) - 1))) rfl rfl HNC.out (nd_one _) (by unfold maxLen; omega) (by omega) (Nat.le_trans HSZ.out (by simp; omega)) ?_); intro v' w7 hown7 hgrow hwh; obtain ⟨A7, c7, rfl, h7m⟩ := HP.out _ _ hown7 hgrow hwh; have HM7 := hid h7m; clear hown7 hgrow hwh h7m)
     clear HP HNC HROW HM6
     obtain ⟨kc, kf, kz⟩ := HM7.out.cells
     have k2 : w7.cell? ⟨g, 2, none⟩ = some (.slice AK j cK) := kc 2
     have f2 := kf 2
     clear kc kf
     go_wp2_with (at_builtin; refine wpList_append_row _ rfl (.tmp 88) (.tmp 90) _ rfl w.heap.size 3 i0 (.int .i64 0) 1 8 underlying37 HI.out.1 HI.out.2.1 HI.out.2.2.1 HI.out.2.2.2 rfl (by decide) (.slice AK j cK) j (intCells ks) rfl (Mine.alloc HM7.out.row _) ⟨w7.heap.size, 0, none⟩ 1 1 [.int .i64 (l3.length : Int)] rfl rfl (int_new _ _ _) (int_one _) (by unfold maxLen; omega) (by omega) (Nat.le_trans HM7.out.ke.1 (by simp)) ?_; intro v' w5 hown hg hwh; obtain ⟨A5, c5, rfl, hbx5, hk5⟩ := HM7.out.app rfl HOS.out ((Below.refl _ _).alloc (Nat.le_refl _) _) hown hg hwh; have bf := hbx5.frozen 2; have bz := hbx5.lt; have bc : w5.cell? ⟨g, 2, none⟩ = some (.slice AK j cK) := hbx5.cell 2; have HM5 := hid hk5; clear hbx5 hk5 hown hg hwh)
     go_roundw
     case rel => exact ⟨j + 1, A5, c5, ks ++ [(l3.length : Int)], A7, c7, l3 ++ [parNd wc ((l3.length : Int) - 1)], by omega, by go_num, by rw [lA]; rfl, HM5, HE4, HV3⟩
     case measure => simp [intOf]; omega
   ·have hbq : bareV ps q = q := bareV_not hy h11
    have hturn : (spareW ps).turn x j (q : Int) = (q, false) := by
     unfold spareW
     simp only [hnd]
     rw [if_neg h11, Int.toNat_natCast]
    rw [hbq] at HBA
    rw [hturn] at hF
    simp only [hturn] at HSTEP
    have hok : q < k := hF.1
    have hon : q < n := by omega
    have HLEN := hid (mkV_len hgd (spareW_fits hgd hp) q (by omega))
    have HCS := hid (show l2.length + visV ps q ≤ 300 by have h1 := HV.out; have h2 := HCO.out; simp only [Int.toNat_natCast] at h2; omega)
    clear hy hnd hturn hbq h11 hx
    go_wp2_with (go_at_call 114; refine HBA.out.mono ?_; rintro e w9 ⟨rfl, rfl⟩)
    refine (HIH.out q hok hon _ _ _ _ _ HM.out.mkc HCS.out).mono ?_
    rintro e w3 h3
    obtain ⟨A3, c3, l3, rfl, h3m, h3e⟩ := HM.out.node rfl h3
    have HM3 := hid h3m
    have HE3 := hid h3e
    have hl3 : l3.length ≤ l2.length + visV ps q := by
     have := HLEN.out (l2.map Nd.pn)
     rw [← h3e, List.length_map, List.length_map] at this
     exact this
    clear h3 h3m h3e HM x2 cv
    have hjk : j ≤ 12 := by omega
    have HV3 := hid (show l3.length + costK (visV ps) (x.kids.drop (j + 1)) + 1 ≤ 300 by have h1 := HV.out; have h2 := HCO.out; simp only [Int.toNat_natCast] at h2; omega)
    have HE4 := hid (show mkKids (mkV (spareW ps) ps) ((spareW ps).turn x) (j + 1) (x.kids.drop (j + 1)) (l3.map Nd.pn) (ks ++ [(l3.length : Int) - 1]) = Q by
     have h1 := HSTEP.out (l2.map Nd.pn) ks
     have h2 : onePut (mkV (spareW ps) ps) (q, false) (l2.map Nd.pn) = l3.map Nd.pn := by rw [HE3.out]; rfl
     rw [h2, List.length_map] at h1
     rw [← h1]; exact HE.out)
    clear HE HV HSTEP HLEN HE3
    obtain ⟨kc, kf, kz⟩ := HM3.out.cells
    have k2 : w3.cell? ⟨g, 2, none⟩ = some (.slice AK j cK) := kc 2
    have f2 := kf 2
    clear kc kf
    go_wp2_with (at_builtin; refine wpList_append_row _ rfl (.tmp 88) (.tmp 90) _ rfl w.heap.size 3 i0 (.int .i64 0) 1 8 underlying37 HI.out.1 HI.out.2.1 HI.out.2.2.1 HI.out.2.2.2 rfl (by decide) (.slice AK j cK) j (intCells ks) rfl (Mine.alloc HM3.out.row _) ⟨w3.heap.size, 0, none⟩ 1 1 [.int .i64 ((l3.length : Int) - 1)] rfl rfl (int_new _ _ _) (int_one _) (by unfold maxLen; omega) (by omega) (Nat.le_trans HM3.out.ke.1 (by simp)) ?_; intro v' w5 hown hg hwh; obtain ⟨A5, c5, rfl, hbx5, hk5⟩ := HM3.out.app rfl HOS.out ((Below.refl _ _).alloc (Nat.le_refl _) _) hown hg hwh; have bf := hbx5.frozen 2; have bz := hbx5.lt; have bc : w5.cell? ⟨g, 2, none⟩ = some (.slice AK j cK) := hbx5.cell 2; have HM5 := hid hk5; clear hbx5 hk5 hown hg hwh)
    go_roundw
    case rel => exact ⟨j + 1, A5, c5, ks ++ [(l3.length : Int) - 1], A3, c3, l3, by omega, by go_num, rfl, HM5, HE4, HV3⟩
    case measure => simp [intOf]; omega
  ·obtain rfl : j = x.kids.length := by omega
   have HQ2 := hid (show (l2.map Nd.pn, ks) = Q by rw [← HE.out, mkKids_done (Nat.le_refl _)])
   have hwo : w0.heap.size ≤ w.heap.size := HOLD.out.size
   have k0 : wr.cell? ⟨g, 0, none⟩ = some (.int .i64 x.kind) := kc 0
   have k1 : wr.cell? ⟨g, 1, none⟩ = some (.string x.text) := kc 1
   have k2 : wr.cell? ⟨g, 2, none⟩ = some (.slice AK x.kids.length cK) := kc 2
   have k3 : wr.cell? ⟨g, 3, none⟩ = some (.bool x.blank) := kc 3
   obtain ⟨y, hy⟩ : ∃ y : Nd, y = ⟨x.kind, x.text, AK, x.kids.length, cK, ks, x.blank⟩ := ⟨_, rfl⟩
   have HNC := hid (show ∀ i v, (nodeCells y)[i]? = some v → (wr.alloc (.cells #[.int .i64 x.kind, .string x.text, .slice AK x.kids.length cK, .bool x.blank] 48)).cell? ((⟨wr.heap.size, 0, none⟩ : Addr).add i) = some v by
    have h9 := nd_new wr y 48
    rw [hy] at h9 ⊢
    exact h9)
   have HP := hid (fun (v' : Value) (w3 : World) h1 h2 h3 => HM.out.last rfl hwo HU.out (x := y) (by rw [hy]) (by rw [hy]) (by rw [hy]) (by rw [hy]) (w1 := wr.alloc (.cells #[.int .i64 x.kind, .string x.text, .slice AK x.kids.length cK, .bool x.blank] 48)) ((Below.refl _ _).alloc (Nat.le_refl _) _) (v' := v') (w3 := w3) h1 h2 h3)
   have HROW := hid (HM.out.mkc.2.1.alloc (.cells #[.int .i64 x.kind, .string x.text, .slice AK x.kids.length cK, .bool x.blank] 48))
   obtain ⟨i0, hi0, hz0, hz1, hz2⟩ := info_parts infoNd
   have HI := hid (And.intro hi0 (And.intro hz0 (And.intro hz1 hz2)))
   clear HE HV hwo hwold hi0 hz0 hz1 hz2 kc
   go_wp2_with (at_builtin; (refine wpList_append_row _ rfl (.tmp 93) (.tmp 95) _ rfl w0.heap.size 48 i0 (.agg #[.int .i64 0, .string ⟨#[]⟩, .slice none 0 0, .bool false]) 4 56 underlying26 HI.out.1 HI.out.2.1 HI.out.2.2.1 HI.out.2.2.2 rfl (by decide) (.slice AL l2.length cL) l2.length (l2.flatMap nodeCells) rfl HROW.out ⟨wr.heap.size, 0, none⟩ 1 1 (nodeCells y) rfl rfl HNC.out (nd_one _) (by unfold maxLen; omega) (by omega) (Nat.le_trans HM.out.mkc.old.size (by simp)) ?_); intro v' w6 hown6 hgrow hwh; obtain ⟨A6, c6, rfl, h6m, h6k⟩ := HP.out _ _ hown6 hgrow hwh; have HM6 := hid h6m; have HK6 := hid h6k; clear hown6 hgrow hwh h6m h6k)
   go_wp2
   go_ret2
   have hyl : (l2 ++ [y]).length = l2.length + 1 := by simp
   have hyi : (((l2 ++ [y]).length : Nat) : Int) - 1 = (l2.length : Int) := by rw [hyl]; omega
   refine ⟨A6, c6, l2 ++ [y], by rw [hyi, hyl]; rfl, HM6.out, HK6.out, ?_⟩
   rw [HEQ.out, ← HQ2.out, List.map_append, hy]
   rfl
def PutF (R : MC) (Y : Way) (ps : List PN) (k : Nat) (AN : Option Addr) (l : List Nd) (w : World) (e : Ending) (w' : World) : Prop :=
 ∃ A3 c3 l3 sm, e = .returned (.tuple #[.slice A3 l3.length c3, .int .i64 ((l3.length : Int) - 1), .int .i64 sm]) ∧ MkC R 0 (.bool false) A3 c3 l3 w' ∧ Ke R (AN.map (·.block)) w (A3.map (·.block)) w' ∧ l3.map Nd.pn = mkV Y ps k (l.map Nd.pn)
def PutFM (F : FuncId) (A : Option Addr) (n c : Nat) (w0 : World) (Y : Way) (ps : List PN) (k : Nat) : Prop :=
 ∀ U AN cN l w, MkC (RS w0 U) 0 (.bool false) AN cN l w → l.length + visV ps k ≤ 300 → Calls prog F #[.slice A n c, .int .i64 (k : Int), .slice AN l.length cN] w (PutF (RS w0 U) Y ps k AN l w)
theorem KidG.nodeF {R : MC} {w : World} {row0 : Option Nat} {g : Nat} {box : Array Value} {j : Nat} {AK : Option Addr} {cK : Nat} {ks : List Int} {AL : Option Addr} {cL : Nat} {l : List Nd} {wr w' : World} {e : Ending} (hR : R.imp = false) (h : KidG R w row0 g box j AK cK ks AL cL l wr) {Y : Way} {ps : List PN} {k : Nat} (hr : PutF (R.res AK) Y ps k AL l wr e w') :
  ∃ A3 c3 l3 sm, e = .returned (.tuple #[.slice A3 l3.length c3, .int .i64 ((l3.length : Int) - 1), .int .i64 sm]) ∧ KidG R w row0 g box j AK cK ks A3 c3 l3 w' ∧ l3.map Nd.pn = mkV Y ps k (l.map Nd.pn) := by
 obtain ⟨A3, c3, l3, sm, he, hm, hk, hp⟩ := hr
 exact ⟨A3, c3, l3, sm, he, h.step hR hm hk, hp⟩
abbrev leafNd (wr : World) (t : ByteArray) : Nd := ⟨2, t, some ⟨wr.heap.size, 0, none⟩, 0, 0, [], false⟩
theorem MkC.leafPush {R : MC} {AL : Option Addr} {cL : Nat} {l : List Nd} {wr : World} (h : MkC R 0 (.bool false) AL cL l wr) (t : ByteArray) {w1 w3 : World} {v' : Value} (hw1 : Below (wr.alloc (.cells #[] 3)).heap.size (wr.alloc (.cells #[] 3)) w1)
  (hown : w3.ownsRow R.w0.heap.size 48 4 v' (l.length + 1) (l.flatMap nodeCells ++ nodeCells (leafNd wr t))) (hg : w1.grownBy w3 (Value.slice AL l.length cL).ownBlock) (hwh : v'.ownBlock = (Value.slice AL l.length cL).ownBlock ∨ v'.ownBlock = some w1.heap.size) :
  ∃ A3 c3, v' = .slice A3 (l.length + 1) c3 ∧ MkC R 0 (.bool false) A3 c3 (l ++ [leafNd wr t]) w3 ∧ Ke R (AL.map (·.block)) wr (A3.map (·.block)) w3 := by
 have hold : R.w0.heap.size ≤ wr.heap.size := h.old.size
 have hb : Below wr.heap.size wr (wr.alloc (.cells #[] 3)) := (Below.refl _ _).alloc (Nat.le_refl _) _
 have ha : MkC (R.res (some ⟨wr.heap.size, 0, none⟩)) 0 (.bool false) AL cL l (wr.alloc (.cells #[] 3)) := h.res_new hb (fun g e => by
  injection e with e; simp only at e; subst e; simp)
 have hx : KidsIn (wr.alloc (.cells #[] 3)) R.w0.heap.size R.U (leafNd wr t) := ⟨⟨Nat.le_refl _, fun g e hu => by
  injection e with e; simp only at e; subst e
  have := h.2.2.1.2.1 _ hu
  omega⟩, (mine_empty wr 3 1).more hold⟩
 have hap : ∀ y ∈ l, ApartR y (leafNd wr t) := ha.apart rfl
 obtain ⟨A3, c3, e, hc, hk⟩ := ha.unres.push (leafNd wr t) hx hap hw1 hown hg hwh
 exact ⟨A3, c3, e, hc, (Ke.of_below hb).trans hk⟩
theorem put25_any (A : Option Addr) (n c : Nat) (ps : List PN) (w0 : World) (hps : Nps w0 A n ps) (m : Nat) (hT : TreeF ps m) :
  ∀ k, k < n → PutFM 69 A n c w0 (foldW ps) ps k := by
 have hgd := hT.tree.good
 intro k
 induction k using Nat.strongRecOn with
 | ind k ih =>
 intro hk U AN cN l w hc hv
 obtain ⟨x, hx⟩ := hps.get hk
 have hlen := hps.len
 have HL := hid (hgd k x hx)
 have hk12 := HL.out.1
 have hvk := visV_eq hgd hx
 have HFO := hid (specFoldable_any A n c ps m hT k hk w (hps.next hc.old))
 cases hlf : leafV ps k with
 | some v =>
  have HEQ := hid (mkV_leaf (ps := ps) (leaf_some hlf) (l.map Nd.pn))
  obtain ⟨hv0, hv1, _⟩ := leafV_range hlf
  rw [hlf] at HFO
  have HDE := hid (fun W => specDecimal_any v W hv0 (by omega))
  have HCC := hid hc
  have hl300 : l.length ≤ 300 := by omega
  obtain ⟨i0, hi0, hz0, hz1, hz2⟩ := info_parts infoNd
  have HI := hid (And.intro hi0 (And.intro hz0 (And.intro hz1 hz2)))
  clear hx hc hps ih hlf hi0 hz0 hz1 hz2
  go_enter func69, ntmps69
  go_wp2_with fail
  refine HFO.out.mono ?_
  rintro e w1 ⟨q, rfl, hq, h1⟩
  have hqv := (hq v rfl).symm
  subst hqv
  have HB1 := hid h1
  clear h1 HFO
  go_upto_region 3 with fail
  go_wp2_with fail
  refine (HDE.out _).mono ?_
  rintro e w2 ⟨rfl, h2⟩
  have HB2 := hid (below_next HB1.out h2)
  have HC2 := hid (HCC.out.next HB2.out)
  have HNC := hid (show ∀ i u, (nodeCells (leafNd w2 (decT v)))[i]? = some u → ((w2.alloc (.cells #[] 3)).alloc (.cells #[.int .i64 2, .string (decT v), .slice (some ⟨w2.heap.size, 0, none⟩) 0 0, .bool false] 48)).cell? ((⟨w2.heap.size + 1, 0, none⟩ : Addr).add i) = some u by
   have h9 := nd_new (w2.alloc (.cells #[] 3)) (leafNd w2 (decT v)) 48
   rw [World.size_alloc] at h9
   exact h9)
  have HP := hid (fun (v' : Value) (w7 : World) h1 h2 h3 => HC2.out.leafPush (decT v) (w1 := (w2.alloc (.cells #[] 3)).alloc (.cells #[.int .i64 2, .string (decT v), .slice (some ⟨w2.heap.size, 0, none⟩) 0 0, .bool false] 48)) ((Below.refl _ _).alloc (Nat.le_refl _) _) (v' := v') (w3 := w7) h1 h2 h3)
  have HROW := hid ((HC2.out.2.1.alloc (.cells #[] 3)).alloc (.cells #[.int .i64 2, .string (decT v), .slice (some ⟨w2.heap.size, 0, none⟩) 0 0, .bool false] 48))
  have HSZ := hid (show w0.heap.size ≤ w2.heap.size from HC2.out.old.size)
  clear h2 HDE HCC HB1
  go_wp2_with (at_builtin; (refine wpList_append_row _ rfl (.tmp 23) (.tmp 28) _ rfl w0.heap.size 48 i0 (.agg #[.int .i64 0, .string ⟨#[]⟩, .slice none 0 0, .bool false]) 4 56 underlying26 HI.out.1 HI.out.2.1 HI.out.2.2.1 HI.out.2.2.2 rfl (by decide) (.slice AN l.length cN) l.length (l.flatMap nodeCells) rfl HROW.out ⟨w2.heap.size + 1, 0, none⟩ 1 1 (nodeCells (leafNd w2 (decT v))) rfl rfl HNC.out (nd_one _) (by unfold maxLen; omega) (by omega) (Nat.le_trans HSZ.out (by simp; omega)) ?_); intro v' w7 hown7 hgrow hwh; obtain ⟨A7, c7, rfl, h7m, h7k⟩ := HP.out _ _ hown7 hgrow hwh; have HM7 := hid h7m; have HK7 := hid h7k; clear hown7 hgrow hwh h7m h7k)
  go_wp2
  go_ret3
  have hyl : (l ++ [leafNd w2 (decT v)]).length = l.length + 1 := by simp
  have hyi : (((l ++ [leafNd w2 (decT v)]).length : Nat) : Int) - 1 = (l.length : Int) := by rw [hyl]; omega
  refine ⟨A7, c7, l ++ [leafNd w2 (decT v)], 1, by rw [hyi, hyl]; rfl, HM7.out, (Ke.of_below HB2.out).trans HK7.out, ?_⟩
  rw [HEQ.out, List.map_append]
  rfl
 | none =>
 have HEQ := hid (mkV_eq (foldW_fits hgd) hx (leaf_none hlf) (l.map Nd.pn))
 have HF := hid (fun (i : Nat) (kid : Int) h => foldW_fits hgd k x i kid hx (leaf_none hlf) h)
 rw [hlf] at HFO
 have HIH := hid ih
 obtain ⟨b, off, A', c', rfl, hblt0, y0, y1, y2, y3, hxr⟩ := hps.at_ hk hx
 have hcb := (bcell hc.old).1
 have x0 := (hcb _ _ hblt0).trans y0
 have x1 := (hcb _ _ hblt0).trans y1
 have x2 := (hcb _ _ hblt0).trans y2
 have x3 := (hcb _ _ hblt0).trans y3
 have hblt : b < w.heap.size := Nat.lt_of_lt_of_le hblt0 hc.old.size
 have HX2 := hid (fun W (hW : Below w0.heap.size w0 W) => ((bcell hW).1 _ _ hblt0).trans y2)
 have HXR := hid (fun W (hW : Below w0.heap.size w0 W) => hxr.next hW)
 have HBL0 := hid hblt0
 clear y0 y1 y2 y3 hcb
 have HCC := hid hc
 obtain ⟨Q, hQ⟩ : ∃ Q, mkKids (mkV (foldW ps) ps) ((foldW ps).turn x) 0 x.kids (l.map Nd.pn) [] = Q := ⟨_, rfl⟩
 rw [hQ] at HEQ
 replace hQ := hid hQ
 have HOLD := hid (show Below w0.heap.size w0 w from hc.old)
 have HU := hid (show ∀ g, U g → g < w.heap.size from hc.2.2.1.2.1)
 have HV0 := hid (show l.length + costK (visV ps) (x.kids.drop 0) + 1 ≤ 300 by rw [List.drop_zero]; omega)
 clear hx hc hxr ih hvk hv hblt0
 clear hlf
 go_enter func69, ntmps69
 go_wp2_with fail
 refine HFO.out.mono ?_
 rintro e w1 ⟨q, rfl, hq, h1⟩
 have HC1 := hid (HCC.out.next h1)
 have HB1 := hid h1
 clear hq
 have hcb := (bcell h1).1
 replace x0 := (hcb _ _ hblt).trans x0
 replace x1 := (hcb _ _ hblt).trans x1
 replace x2 := (hcb _ _ hblt).trans x2
 replace x3 := (hcb _ _ hblt).trans x3
 replace hblt : b < w1.heap.size := Nat.lt_of_lt_of_le hblt h1.size
 clear hcb h1
 go_upto_region 4 with fail
 go_cut [11] (fun s8 wx => ∃ g g1 : Nat, s8 = .pointer (some ⟨g, 0, none⟩) ∧ Hid (KidG (RS w0 U) w1 (AN.map (·.block)) g #[.int .i64 x.kind, .string x.text, .slice A' x.kids.length c', .bool x.blank] 0 (some ⟨g1, 0, none⟩) 0 [] AN cN l wx))
 case first =>
  go_region_held3 (fun w' => w'.cell? ⟨b, off + k * 4, none⟩ = some (.int .i64 x.kind) ∧ w'.cell? ⟨b, off + k * 4 + 1, none⟩ = some (.string x.text) ∧ w'.cell? ⟨b, off + k * 4 + 3, none⟩ = some (.bool x.blank)) (go_keep) (first | fail)
  ·go_wp2_with fail; go_meet; exact ⟨w1.heap.size + 1, w1.heap.size, rfl, KidG.laid1 rfl HC1.out _ _ _ _⟩
  ·go_wp2_with fail; go_meet; exact ⟨w1.heap.size, w1.heap.size + 1, rfl, KidG.laid2 rfl HC1.out _ _ _ _⟩
 case rest =>
 obtain ⟨g, g1, rfl, HC0⟩ := hcut
 clear HCC x0 x1 x2 x3
 replace HOLD := hid (below_next HOLD.out HB1.out)
 replace HU := hid (fun g hg => Nat.lt_of_lt_of_le (HU.out g hg) HB1.out.size)
 go_wp2
 go_loopw [2, 12, 13] (fun s2 s12 s9 wr => ∃ (j : Nat) (AK : Option Addr) (cK : Nat) (ks : List Int) (AL : Option Addr) (cL : Nat) (l2 : List Nd) (sm : Int), j ≤ x.kids.length ∧ s9 = .int .i64 j ∧ s2 = .slice AL l2.length cL ∧ s12 = .int .i64 sm ∧ Hid (KidG (RS w0 U) w1 (AN.map (·.block)) g #[.int .i64 x.kind, .string x.text, .slice A' x.kids.length c', .bool x.blank] j AK cK ks AL cL l2 wr) ∧ Hid (mkKids (mkV (foldW ps) ps) ((foldW ps).turn x) j (x.kids.drop j) (l2.map Nd.pn) ks = Q) ∧ Hid (l2.length + costK (visV ps) (x.kids.drop j) + 1 ≤ 300)) (fun _ _ i _ => x.kids.length - (intOf i).toNat)
 case atStart => exact ⟨0, _, 0, [], AN, cN, l, 0, Nat.zero_le _, rfl, rfl, rfl, HC0, hQ, HV0⟩
 case round =>
  clear HC0 hQ HV0
  obtain ⟨j, AK, cK, ks, AL, cL, l2, sm, hj, rfl, rfl, rfl, HM, HE, HV⟩ := hrel
  obtain ⟨kc, kf, kz⟩ := HM.out.cells
  have hwold : Below w0.heap.size w0 wr := HM.out.mkc.old
  have hl300 : l2.length ≤ 300 := by have := HV.out; omega
  have x2 := HX2.out wr hwold
  have hblt2 : b < wr.heap.size := Nat.lt_of_lt_of_le HBL0.out hwold.size
  by_cases hjl : j < x.kids.length
  ·obtain ⟨v, hd⟩ : ∃ d, x.kids[j]? = some d := ⟨_, List.getElem?_eq_getElem hjl⟩
   have hxr : Rd wr 1 A' x.kids.length (intCells x.kids) := HXR.out wr hwold
   obtain ⟨b5, off5, rfl, hblt5, cv⟩ := int_at hxr hjl hd
   have hF := HF.out j v hd
   have hvn := HL.out.2 v (List.mem_of_getElem? hd)
   have HSTEP := hid (fun (o : List PN) ks => mkKids_at (go := mkV (foldW ps) ps) (turn := (foldW ps).turn x) (o := o) (ks := ks) hd)
   have HCO := hid (costK_drop (g := visV ps) hd)
   obtain ⟨o, rfl⟩ : ∃ o : Nat, v = (o : Int) := ⟨v.toNat, by omega⟩
   have hok : o < k := by omega
   have hon : o < n := by omega
   have HLEN := hid (mkV_len hgd (foldW_fits hgd) o (by omega))
   have HCS := hid (show l2.length + visV ps o ≤ 300 by have h1 := HV.out; have h2 := HCO.out; simp only [Int.toNat_natCast] at h2; omega)
   clear hd hxr hwold kc kf kz
   go_wp2_with fail
   refine (HIH.out o hok hon _ _ _ _ _ HM.out.mkc HCS.out).mono ?_
   rintro e w3 h3
   obtain ⟨A3, c3, l3, sm3, rfl, h3m, h3e⟩ := HM.out.nodeF rfl h3
   have HM3 := hid h3m
   have HE3 := hid h3e
   have hl3 : l3.length ≤ l2.length + visV ps o := by
    have := HLEN.out (l2.map Nd.pn)
    rw [← h3e, List.length_map, List.length_map] at this
    exact this
   obtain ⟨kc, kf, kz⟩ := HM3.out.cells
   have k2 : w3.cell? ⟨g, 2, none⟩ = some (.slice AK j cK) := kc 2
   have f2 := kf 2
   clear h3 h3m h3e HM kc kf x2 cv
   have hjk : j ≤ 12 := by omega
   have HV3 := hid (show l3.length + costK (visV ps) (x.kids.drop (j + 1)) + 1 ≤ 300 by have h1 := HV.out; have h2 := HCO.out; simp only [Int.toNat_natCast] at h2; omega)
   have HE4 := hid (show mkKids (mkV (foldW ps) ps) ((foldW ps).turn x) (j + 1) (x.kids.drop (j + 1)) (l3.map Nd.pn) (ks ++ [(l3.length : Int) - 1]) = Q by
    have h1 := HSTEP.out (l2.map Nd.pn) ks
    have h2 : onePut (mkV (foldW ps) ps) ((foldW ps).turn x j (o : Int)) (l2.map Nd.pn) = l3.map Nd.pn := by rw [HE3.out]; rfl
    rw [h2, List.length_map] at h1
    rw [← h1]; exact HE.out)
   have HOS := hid (show w0.heap.size ≤ w1.heap.size from HOLD.out.size)
   obtain ⟨i0, hi0, hz0, hz1, hz2⟩ := info_parts infoInt
   have HI := hid (And.intro hi0 (And.intro hz0 (And.intro hz1 hz2)))
   clear HE HV HSTEP HLEN HE3 hi0 hz0 hz1 hz2
   go_wp2_with (at_builtin; refine wpList_append_row _ rfl (.tmp 75) (.tmp 77) _ rfl w1.heap.size 3 i0 (.int .i64 0) 1 8 underlying37 HI.out.1 HI.out.2.1 HI.out.2.2.1 HI.out.2.2.2 rfl (by decide) (.slice AK j cK) j (intCells ks) rfl (Mine.alloc HM3.out.row _) ⟨w3.heap.size, 0, none⟩ 1 1 [.int .i64 ((l3.length : Int) - 1)] rfl rfl (int_new _ _ _) (int_one _) (by unfold maxLen; omega) (by omega) (Nat.le_trans HM3.out.ke.1 (by simp)) ?_; intro v' w5 hown hg hwh; obtain ⟨A5, c5, rfl, hbx5, hk5⟩ := HM3.out.app rfl HOS.out ((Below.refl _ _).alloc (Nat.le_refl _) _) hown hg hwh; have bf := hbx5.frozen 2; have bz := hbx5.lt; have bc : w5.cell? ⟨g, 2, none⟩ = some (.slice AK j cK) := hbx5.cell 2; have HM5 := hid hk5; clear hbx5 hk5 hown hg hwh)
   go_roundw
   case rel => exact ⟨j + 1, A5, c5, ks ++ [(l3.length : Int) - 1], A3, c3, l3, _, by omega, by go_num, rfl, rfl, HM5, HE4, HV3⟩
   case measure => simp [intOf]; omega
  ·obtain rfl : j = x.kids.length := by omega
   have HQ2 := hid (show (l2.map Nd.pn, ks) = Q by rw [← HE.out, mkKids_done (Nat.le_refl _)])
   have hwo : w0.heap.size ≤ w1.heap.size := HOLD.out.size
   have k0 : wr.cell? ⟨g, 0, none⟩ = some (.int .i64 x.kind) := kc 0
   have k1 : wr.cell? ⟨g, 1, none⟩ = some (.string x.text) := kc 1
   have k2 : wr.cell? ⟨g, 2, none⟩ = some (.slice AK x.kids.length cK) := kc 2
   have k3 : wr.cell? ⟨g, 3, none⟩ = some (.bool x.blank) := kc 3
   obtain ⟨y, hy⟩ : ∃ y : Nd, y = ⟨x.kind, x.text, AK, x.kids.length, cK, ks, x.blank⟩ := ⟨_, rfl⟩
   have HNC := hid (show ∀ i v, (nodeCells y)[i]? = some v → (wr.alloc (.cells #[.int .i64 x.kind, .string x.text, .slice AK x.kids.length cK, .bool x.blank] 48)).cell? ((⟨wr.heap.size, 0, none⟩ : Addr).add i) = some v by
    have h9 := nd_new wr y 48
    rw [hy] at h9 ⊢
    exact h9)
   have HP := hid (fun (v' : Value) (w3 : World) h1 h2 h3 => HM.out.last rfl hwo HU.out (x := y) (by rw [hy]) (by rw [hy]) (by rw [hy]) (by rw [hy]) (w1 := wr.alloc (.cells #[.int .i64 x.kind, .string x.text, .slice AK x.kids.length cK, .bool x.blank] 48)) ((Below.refl _ _).alloc (Nat.le_refl _) _) (v' := v') (w3 := w3) h1 h2 h3)
   have HROW := hid (HM.out.mkc.2.1.alloc (.cells #[.int .i64 x.kind, .string x.text, .slice AK x.kids.length cK, .bool x.blank] 48))
   obtain ⟨i0, hi0, hz0, hz1, hz2⟩ := info_parts infoNd
   have HI := hid (And.intro hi0 (And.intro hz0 (And.intro hz1 hz2)))
   clear HE HV hwo hwold hi0 hz0 hz1 hz2 kc
   go_wp2_with (at_builtin; (refine wpList_append_row _ rfl (.tmp 83) (.tmp 85) _ rfl w0.heap.size 48 i0 (.agg #[.int .i64 0, .string ⟨#[]⟩, .slice none 0 0, .bool false]) 4 56 underlying26 HI.out.1 HI.out.2.1 HI.out.2.2.1 HI.out.2.2.2 rfl (by decide) (.slice AL l2.length cL) l2.length (l2.flatMap nodeCells) rfl HROW.out ⟨wr.heap.size, 0, none⟩ 1 1 (nodeCells y) rfl rfl HNC.out (nd_one _) (by unfold maxLen; omega) (by omega) (Nat.le_trans HM.out.mkc.old.size (by simp)) ?_); intro v' w6 hown6 hgrow hwh; obtain ⟨A6, c6, rfl, h6m, h6k⟩ := HP.out _ _ hown6 hgrow hwh; have HM6 := hid h6m; have HK6 := hid h6k; clear hown6 hgrow hwh h6m h6k)
   go_wp2
   go_ret3
   have hyl : (l2 ++ [y]).length = l2.length + 1 := by simp
   have hyi : (((l2 ++ [y]).length : Nat) : Int) - 1 = (l2.length : Int) := by rw [hyl]; omega
   refine ⟨A6, c6, l2 ++ [y], sm, by rw [hyi, hyl]; rfl, HM6.out, (Ke.of_below HB1.out).trans HK6.out, ?_⟩
   rw [HEQ.out, ← HQ2.out, List.map_append, hy]
   rfl
theorem MkC.start0 (w1 : World) : MkC (RS w1 (fun _ => False)) 0 (.bool false) (some ⟨w1.heap.size, 0, none⟩) 0 [] (w1.alloc (.cells #[] 48)) :=
 ⟨fun e => (by cases e), mine_empty w1 _ _, ⟨fun x hx => (by cases hx), fun g hg => hg.elim, List.Pairwise.nil⟩, (Below.refl _ _).alloc (Nat.le_refl _) _, RS_ok _ _⟩
theorem MkC.made {w w1 : World} {A3 : Option Addr} {c3 : Nat} {l3 : List Nd} {w' : World} {ps : List PN} (h : MkC (RS w1 (fun _ => False)) 0 (.bool false) A3 c3 l3 w') (hb : Below w.heap.size w w1) (he : l3.map Nd.pn = ps) : Made w ps (.returned (.slice A3 l3.length c3)) w' :=
 ⟨A3, l3.length, c3, l3, rfl, h.nr.more hb.size (Nat.le_refl _), he, below_next hb h.old⟩
theorem Made.from {w w1 w' : World} {ps : List PN} {e : Ending} (h : Made w1 ps e w') (hb : Below w.heap.size w w1) : Made w ps e w' := by
 obtain ⟨A, n, c, l, he, hN, hE, hB⟩ := h
 exact ⟨A, n, c, l, he, hN.more hb.size (Nat.le_refl _), hE, below_next hb hB⟩
theorem specSpared_any (A : Option Addr) (n c : Nat) (ps : List PN) (w : World) (hf : FineT ps) (hps : Npc w A n ps) :
  Calls prog 29 #[.slice A n c] w (Made w (sparedV ps)) := by
 have hl := hps.nps.len
 have hn : n ≤ 1048576 := by rw [← hl]; exact hf.2
 have HT := hid (specTreeOk_any A n c ps _ hn hps.nps hf.1)
 have HC := hid (fun W (hW : Below w.heap.size w W) => specCopy_any A n c ps W hn (hps.next hW) hf.1)
 have HPS := hid hps.nps
 have HFF := hid (fun h => treeF (ps := ps) h)
 unfold sparedV
 cases ht : treeB ps with
 | false =>
  rw [if_neg (by decide)]
  rw [ht] at HT
  clear hps hf
  go_enter func29, ntmps29
  go_wp2_with fail
  refine HT.out.mono ?_
  rintro e w1 ⟨rfl, h1⟩
  have hB1 := hid h1
  clear h1
  go_wp2_with fail
  refine (HC.out _ hB1.out).mono ?_
  rintro e w2 h2
  have HM := hid (h2.from hB1.out)
  obtain ⟨A3, n3, c3, l3, rfl, _⟩ := h2
  go_wp2
  go_ret
  exact HM.out
 | true =>
  rw [if_pos rfl]
  rw [ht] at HT
  obtain ⟨m, hF⟩ := HFF.out ht
  have hlm := hF.tree.len
  obtain rfl : n = m + 1 := by omega
  rw [show ps.length - 1 = m by omega]
  have hv := visV_root hF.tree.good hlm hF.tree.used
  have hm300 := hF.few
  have HNM := hid (fun W (hW : Below w.heap.size w W) => put23_any A (m + 1) c ps W (HPS.out.next hW) hF.tree.good hF.par hF.ch m (by omega) (fun _ => False) _ 0 [] _ (MkC.start0 W) (by simp only [List.length_nil]; omega))
  clear hps hf hv hF HC HFF
  go_enter func29, ntmps29
  go_wp2_with fail
  refine HT.out.mono ?_
  rintro e w1 ⟨rfl, h1⟩
  have hB1 := hid h1
  clear h1
  go_wp2_with fail
  refine (HNM.out _ hB1.out).mono ?_
  rintro e w2 ⟨A3, c3, l3, rfl, h2, h3, h4⟩
  have HM := hid (h2.made hB1.out h4)
  clear h2 h3 h4
  go_wp2
  go_ret
  exact HM.out
theorem specFolded_any (A : Option Addr) (n c : Nat) (ps : List PN) (w : World) (hf : FineT ps) (hps : Npc w A n ps) :
  Calls prog 28 #[.slice A n c] w (Made w (foldedV ps)) := by
 have hl := hps.nps.len
 have hn : n ≤ 1048576 := by rw [← hl]; exact hf.2
 have HT := hid (specTreeOk_any A n c ps _ hn hps.nps hf.1)
 have HC := hid (fun W (hW : Below w.heap.size w W) => specCopy_any A n c ps W hn (hps.next hW) hf.1)
 have HPS := hid hps.nps
 have HFF := hid (fun h => treeF (ps := ps) h)
 unfold foldedV
 cases ht : treeB ps with
 | false =>
  rw [if_neg (by decide)]
  rw [ht] at HT
  clear hps hf
  go_enter func28, ntmps28
  go_wp2_with fail
  refine HT.out.mono ?_
  rintro e w1 ⟨rfl, h1⟩
  have hB1 := hid h1
  clear h1
  go_wp2_with fail
  refine (HC.out _ hB1.out).mono ?_
  rintro e w2 h2
  have HM := hid (h2.from hB1.out)
  obtain ⟨A3, n3, c3, l3, rfl, _⟩ := h2
  go_wp2
  go_ret
  exact HM.out
 | true =>
  rw [if_pos rfl]
  rw [ht] at HT
  obtain ⟨m, hF⟩ := HFF.out ht
  have hlm := hF.tree.len
  obtain rfl : n = m + 1 := by omega
  rw [show ps.length - 1 = m by omega]
  have hv := visV_root hF.tree.good hlm hF.tree.used
  have hm300 := hF.few
  have HNM := hid (fun W (hW : Below w.heap.size w W) => put25_any A (m + 1) c ps W (HPS.out.next hW) m hF m (by omega) (fun _ => False) _ 0 [] _ (MkC.start0 W) (by simp only [List.length_nil]; omega))
  clear hps hf hv hF HC HFF
  go_enter func28, ntmps28
  go_wp2_with fail
  refine HT.out.mono ?_
  rintro e w1 ⟨rfl, h1⟩
  have hB1 := hid h1
  clear h1
  go_wp2_with fail
  refine (HNM.out _ hB1.out).mono ?_
  rintro e w2 ⟨A3, c3, l3, sm, rfl, h2, h3, h4⟩
  have HM := hid (h2.made hB1.out h4)
  clear h2 h3 h4
  go_wp2
  go_ret
  exact HM.out
end Go.Proofs.YtgaajcbklkchjaaGreatDoor

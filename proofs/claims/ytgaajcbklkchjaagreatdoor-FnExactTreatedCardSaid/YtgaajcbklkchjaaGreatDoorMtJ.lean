/-
  Put together by program (shake.py): MkD, MkE, MkF, MkG, MkH.
-/
import Derived.Test.YtgaajcbklkchjaaGreatDoorMtH
import Derived.StillTailTactics
import Derived.Test.YtgaajcbklkchjaaGreatDoorMtI
import Derived.Deep.AppendLies
import Derived.Deep.RegionLaw
import Derived.Test.YtgaajcbklkchjaaGreatDoorMtG
import Derived.Laws.EntriesVeiled
set_option maxRecDepth 100000
set_option maxHeartbeats 25600000
set_option linter.unusedVariables false
set_option linter.unusedSimpArgs false
open Go.Lib (hid)
open Go.Proofs.Tryz
namespace Go.Proofs.YtgaajcbklkchjaaGreatDoor
open Go.RowKit
def CloSp (gn : Nat) (w0 : World) (Y : Way) (ps : List PN) : Prop := ∀ (k : Nat) (x : PN) (i : Nat) (kid : Int) (A : Option Addr) (c : Nat) (W : World), ps[k]? = some x → x.kids[i]? = some kid → Below w0.heap.size w0 W →
 Calls prog 76 #[.agg #[.int .i64 x.kind, .string x.text, .slice A x.kids.length c, .bool x.blank], .int .i64 (i : Int), .int .i64 kid, .pointer (some ⟨gn, 0, none⟩)] W fun e w' => e = .returned (.tuple #[.int .i64 ((Y.turn x i kid).1 : Int), .bool (Y.turn x i kid).2]) ∧ Below W.heap.size W w'
theorem mkNodeSp_any (A : Option Addr) (n c : Nat) (ps : List PN) (T gn : Nat) (w0 : World) (hps : Nps w0 A n ps) (hgd : Good ps) (Y : Way) (hY : Y.Fits ps) (hlf : ∀ k, Y.leaf k = none) (HC : Hid (CloSp gn w0 Y ps)) :
  ∀ k, k < n → NodeM 79 T 114 (mkCs (.slice A n c) (.func (.func 76) #[] #[.pointer (some ⟨gn, 0, none⟩)])) w0 Y ps k := by
 intro k
 induction k using Nat.strongRecOn with
 | ind k ih =>
 intro hk U q AN cN l w hc hv
 obtain ⟨x, hx⟩ := hps.get hk
 have HPS := hid hps
 have hlen := hps.len
 have HL := hid (hgd k x hx)
 have hk12 := HL.out.1
 have hvk := visV_eq hgd hx
 have HEQ := hid (mkV_eq hY hx (hlf k) (l.map Nd.pn))
 have HF := hid (fun (i : Nat) (kid : Int) h => hY k x i kid hx (hlf k) h)
 have HCK := hid (fun (i : Nat) (kid : Int) (c' : Nat) (A' : Option Addr) W h hW => HC.out k x i kid A' c' W hx h hW)
 have HIH := hid ih
 obtain ⟨b, off, A', c', rfl, hblt0, y0, y1, y2, y3, hxr⟩ := hps.at_ hk hx
 have hcb := (bcell hc.old).1
 have x0 := (hcb _ _ hblt0).trans y0
 have x1 := (hcb _ _ hblt0).trans y1
 have x2 := (hcb _ _ hblt0).trans y2
 have x3 := (hcb _ _ hblt0).trans y3
 have hblt : b < w.heap.size := Nat.lt_of_lt_of_le hblt0 hc.old.size
 clear y0 y1 y2 y3 hcb hblt0
 have hT := hc.1 rfl
 have c0 : w.cell? ⟨T, 0, none⟩ = some (.slice (some ⟨b, off, none⟩) n c) := hT.cell 0
 have zT := hT.lt
 have HXR := hid (fun W (hW : Below w0.heap.size w0 W) => hxr.next hW)
 have HCC := hid (KidM.init hc #[.int .i64 x.kind, .string x.text, .slice A' x.kids.length c', .bool x.blank])
 obtain ⟨Q, hQ⟩ : ∃ Q, mkKids (mkV Y ps) (Y.turn x) 0 x.kids (l.map Nd.pn) [] = Q := ⟨_, rfl⟩
 rw [hQ] at HEQ
 replace hQ := hid hQ
 have HOLD := hid (show Below w0.heap.size w0 w from hc.old)
 have HU := hid (show ∀ g, U g → g < w.heap.size from hc.2.2.1.2.1)
 have HV0 := hid (show l.length + costK (visV ps) (x.kids.drop 0) + 1 ≤ 300 by rw [List.drop_zero]; omega)
 have HTT := hid zT
 clear hx hc hxr ih HC hT hvk hv
 go_enter func79, ntmps79
 go_wp2
 clear c0 x0 x1 x2 x3 zT
 go_loopw [6, 22] (fun s6 s22 wr => ∃ (j : Nat) (AK : Option Addr) (cK : Nat) (ks : List Int) (AL : Option Addr) (cL : Nat) (l2 : List Nd) (q2 : Int), j ≤ x.kids.length ∧ s22 = .int .i64 j ∧ s6 = .slice AK j cK ∧ Hid (KidM (MS T 114 (mkCs (.slice (some ⟨b, off, none⟩) n c) (.func (.func 76) #[] #[.pointer (some ⟨gn, 0, none⟩)])) w0 U) w (AN.map (·.block)) #[.int .i64 x.kind, .string x.text, .slice A' x.kids.length c', .bool x.blank] j AK cK ks AL cL l2 q2 wr) ∧ Hid (mkKids (mkV Y ps) (Y.turn x) j (x.kids.drop j) (l2.map Nd.pn) ks = Q) ∧ Hid (l2.length + costK (visV ps) (x.kids.drop j) + 1 ≤ 300)) (fun _ i _ => x.kids.length - (intOf i).toNat)
 case atStart => exact ⟨0, none, 0, [], AN, cN, l, q, Nat.zero_le _, rfl, rfl, HCC.out, hQ, HV0.out⟩
 case round =>
  clear HCC hQ HV0
  obtain ⟨j, AK, cK, ks, AL, cL, l2, q2, hj, rfl, rfl, HM, HE, HV⟩ := hrel
  obtain ⟨kc, kf, kz⟩ := HM.out.xcells
  have k0 : wr.cell? ⟨w.heap.size, 0, none⟩ = some (.int .i64 x.kind) := kc 0
  have k1 : wr.cell? ⟨w.heap.size, 1, none⟩ = some (.string x.text) := kc 1
  have k2 : wr.cell? ⟨w.heap.size, 2, none⟩ = some (.slice A' x.kids.length c') := kc 2
  have k3 : wr.cell? ⟨w.heap.size, 3, none⟩ = some (.bool x.blank) := kc 3
  have hbT := HM.out.mkc.1 rfl
  have zT : T < wr.heap.size := hbT.lt
  have t2 : wr.cell? ⟨T, 2, none⟩ = some (.func (.func 76) #[] #[.pointer (some ⟨gn, 0, none⟩)]) := hbT.cell 2
  have hwold : Below w0.heap.size w0 wr := HM.out.mkc.old
  clear kc hbT
  by_cases hjl : j < x.kids.length
  ·obtain ⟨v, hd⟩ : ∃ d, x.kids[j]? = some d := ⟨_, List.getElem?_eq_getElem hjl⟩
   have hxr : Rd wr 1 A' x.kids.length (intCells x.kids) := HXR.out wr hwold
   obtain ⟨b5, off5, rfl, hblt5, cv⟩ := int_at hxr hjl hd
   have hF := HF.out j v hd
   have hvn := HL.out.2 v (List.mem_of_getElem? hd)
   have HSTEP := hid (fun (o : List PN) ks => mkKids_at (go := mkV Y ps) (turn := Y.turn x) (o := o) (ks := ks) hd)
   have HCO := hid (costK_drop (g := visV ps) hd)
   have HCV := hid (fun W hW => HCK.out j v c' (some ⟨b5, off5, none⟩) W hd hW)
   obtain ⟨o, p, hop⟩ : ∃ o p, Y.turn x j v = (o, p) := ⟨_, _, rfl⟩
   rw [hop] at hF HCV
   simp only [hop] at HSTEP
   obtain ⟨ho1, ho2⟩ := hF
   have hon : o < n := by omega
   have HLEN := hid (mkV_len hgd hY o (by omega))
   have HCS := hid (show l2.length + visV ps o ≤ 300 by have h1 := HV.out; have h2 := HCO.out; simp only at ho2; omega)
   have HOLD2 := hid hwold
   clear hd hxr hop hwold
   go_upto_region 6 with fail
   go_cut [9, 10] (fun s9 s10 wx => s9 = .int .i64 (o : Int) ∧ s10 = .bool p ∧ Hid (Below wr.heap.size wr wx))
   case first =>
    go_region_with (go_at_call 76; refine (HCV.out _ (by first | exact HOLD2.out | exact HOLD2.out.drew)).mono ?_; rintro e w2 ⟨rfl, h2⟩; have h3 : Hid (Below wr.heap.size wr w2) := (by first | exact h2 | exact (Below.refl _ wr).drew.trans h2))
    all_goals (go_wp2_with fail; go_meet; exact ⟨rfl, rfl, h3⟩)
   case rest =>
   obtain ⟨rfl, rfl, h2⟩ := hcut
   have HM2 := hid (HM.out.next h2.out)
   clear HM HCV cv k0 k1 k2 k3 t2 kf h2
   go_wp2_with fail
   refine (HIH.out o ho1 hon _ _ _ _ _ _ HM2.out.mkc HCS.out).mono ?_
   rintro e w3 h3
   obtain ⟨A3, c3, l3, q3, rfl, h3m, h3e⟩ := HM2.out.node (fun _ => HTT.out) h3
   have HM3 := hid h3m
   have HE3 := hid h3e
   have hl3 : l3.length ≤ l2.length + visV ps o := by
    have := HLEN.out (l2.map Nd.pn)
    rw [← h3e, List.length_map, List.length_map] at this
    exact this
   clear h3 h3m h3e HM2
   have HOS := hid (show w0.heap.size ≤ w.heap.size from HOLD.out.size)
   have hjk : j ≤ 12 := by omega
   cases p with
   | false =>
    simp only [Bool.false_eq_true, if_false, Nat.add_zero] at ho2
    have HV3 := hid (show l3.length + costK (visV ps) (x.kids.drop (j + 1)) + 1 ≤ 300 by have h1 := HV.out; have h2 := HCO.out; omega)
    have HE4 := hid (show mkKids (mkV Y ps) (Y.turn x) (j + 1) (x.kids.drop (j + 1)) (l3.map Nd.pn) (ks ++ [(l3.length : Int) - 1]) = Q by
     have h1 := HSTEP.out (l2.map Nd.pn) ks
     have h2 : onePut (mkV Y ps) (o, false) (l2.map Nd.pn) = l3.map Nd.pn := by rw [HE3.out]; rfl
     rw [h2, List.length_map] at h1
     rw [← h1]; exact HE.out)
    clear HE HV HSTEP HLEN HE3
    go_wp2_with (at_builtin; refine MkC.appInt (.tmp 47) (.tmp 49) (hid HM3.out.mkc) (hid HM3.out.ke) (hid HM3.out.row) HOS rfl rfl rfl rfl (by omega) ?_; intro A9 c9 w9 m1 m2 m3 m4)
    have HM4 := hid (HM3.out.app m1.out m2.out m3.out m4.out)
    clear m1 m2 m3 m4 HM3
    go_roundw
    case rel => exact ⟨j + 1, A9, c9, ks ++ [(l3.length : Int) - 1], A3, c3, l3, q3, by omega, by go_num, rfl, HM4.out, HE4.out, HV3.out⟩
    case measure => simp [intOf]; omega
   | true =>
    simp only [if_true] at ho2
    have HV3 := hid (show (l3 ++ [(⟨11, ⟨#[]⟩, some ⟨w3.heap.size, 0, none⟩, 1, 1, [(l3.length : Int) - 1], false⟩ : Nd)]).length + costK (visV ps) (x.kids.drop (j + 1)) + 1 ≤ 300 by rw [lA, List.length_cons, List.length_nil]; have h1 := HV.out; have h2 := HCO.out; omega)
    have HE4 := hid (show mkKids (mkV Y ps) (Y.turn x) (j + 1) (x.kids.drop (j + 1)) ((l3 ++ [(⟨11, ⟨#[]⟩, some ⟨w3.heap.size, 0, none⟩, 1, 1, [(l3.length : Int) - 1], false⟩ : Nd)]).map Nd.pn) (ks ++ [(l3.length : Int)]) = Q by
     have h1 := HSTEP.out (l2.map Nd.pn) ks
     have h2 : onePut (mkV Y ps) (o, true) (l2.map Nd.pn) = (l3 ++ [(⟨11, ⟨#[]⟩, some ⟨w3.heap.size, 0, none⟩, 1, 1, [(l3.length : Int) - 1], false⟩ : Nd)]).map Nd.pn := by
      rw [List.map_append, HE3.out]
      unfold onePut
      rw [if_pos rfl, ← HE3.out, List.length_map]; rfl
     rw [h2, List.length_map, lA, List.length_cons, List.length_nil] at h1
     rw [show ((l3.length + (0 + 1) : Nat) : Int) - 1 = (l3.length : Int) by omega] at h1
     rw [← h1]; exact HE.out)
    obtain ⟨hp1, hp2⟩ := HM3.out.par ((l3.length : Int) - 1)
    have HADD := hid (mkAdd_any ((MS T 114 (mkCs (.slice (some ⟨b, off, none⟩) n c) (.func (.func 76) #[] #[.pointer (some ⟨gn, 0, none⟩)])) w0 U).res AK) rfl rfl (.slice (some ⟨b, off, none⟩) n c) (.func (.func 76) #[] #[.pointer (some ⟨gn, 0, none⟩)]) rfl rfl q3 A3 c3 l3 ⟨11, ⟨#[]⟩, some ⟨w3.heap.size, 0, none⟩, 1, 1, [(l3.length : Int) - 1], false⟩ _ hp1 hp2 (by have h1 := HCS.out; omega))
    have HM3a := hid (HM3.out.next ((Below.refl w3.heap.size w3).alloc (Nat.le_refl _) (.cells #[.int .i64 ((l3.length : Int) - 1)] 3)))
    clear HE HV HSTEP HLEN HE3 hp1 hp2
    go_wp2_with fail
    refine HADD.out.mono ?_
    rintro e w4 h4
    obtain ⟨A4, c4, rfl, h4m⟩ := HM3a.out.add (fun _ => HTT.out) h4
    have HM4a := hid h4m
    clear h4 h4m HADD HM3a
    go_wp2_with (at_builtin; refine MkC.appInt (.tmp 47) (.tmp 49) (hid HM4a.out.mkc) (hid HM4a.out.ke) (hid HM4a.out.row) HOS rfl rfl rfl rfl (by omega) ?_; intro A9 c9 w9 m1 m2 m3 m4)
    have HM4 := hid (HM4a.out.app m1.out m2.out m3.out m4.out)
    clear m1 m2 m3 m4 HM4a HM3
    go_roundw
    case rel => exact ⟨j + 1, A9, c9, ks ++ [(l3.length : Int)], A4, c4, l3 ++ [(⟨11, ⟨#[]⟩, some ⟨w3.heap.size, 0, none⟩, 1, 1, [(l3.length : Int) - 1], false⟩ : Nd)], q3, by omega, by go_num, rfl, HM4.out, HE4.out, HV3.out⟩
    case measure => simp [intOf]; omega
  ·obtain rfl : j = x.kids.length := by omega
   have HQ2 := hid (show (l2.map Nd.pn, ks) = Q by rw [← HE.out, mkKids_done (Nat.le_refl _)])
   have hwo : w0.heap.size ≤ w.heap.size := HOLD.out.size
   have HMb := hid (HM.out.setBox (fun _ => HTT.out) hwo 2 (.slice AK x.kids.length cK))
   have HADD := hid (mkAdd_any (MS T 114 (mkCs (.slice (some ⟨b, off, none⟩) n c) (.func (.func 76) #[] #[.pointer (some ⟨gn, 0, none⟩)])) w0 U) rfl rfl (.slice (some ⟨b, off, none⟩) n c) (.func (.func 76) #[] #[.pointer (some ⟨gn, 0, none⟩)]) rfl rfl q2 AL cL l2 ⟨x.kind, x.text, AK, x.kids.length, cK, ks, x.blank⟩ _ HMb.out.mkc
    ⟨⟨HMb.out.row.cap, fun g hg hu => by have h1 := HU.out g hu; have h2 := (Mine.blk HMb.out.row hg).1; omega⟩, HMb.out.row.more hwo⟩ (by have h1 := HV.out; omega))
   clear HE HV hwo t2 zT hwold
   go_wp2_with fail
   refine HADD.out.mono ?_
   rintro e w5 h5
   obtain ⟨A5, c5, rfl, m5, e5⟩ := h5
   have HF5 := hid (show MkR (MS T 114 (mkCs (.slice (some ⟨b, off, none⟩) n c) (.func (.func 76) #[] #[.pointer (some ⟨gn, 0, none⟩)])) w0 U) Y ps k AN l w (.returned (.int .i64 (l2.length : Int))) w5 from
    ⟨A5, c5, l2 ++ [⟨x.kind, x.text, AK, x.kids.length, cK, ks, x.blank⟩], q2, by rw [lA, List.length_cons, List.length_nil]; congr 2; omega, by rw [lA, List.length_cons, List.length_nil]; exact m5, HMb.out.ke.trans e5, by
     rw [HEQ.out, ← HQ2.out, List.map_append]; rfl⟩)
   clear m5 e5 HADD HMb k0 k1 k2 k3 kf kz
   go_wp2
   go_ret
   exact HF5.out
def CloOr (w0 : World) (Y : Way) (ps : List PN) : Prop := ∀ (k : Nat) (x : PN) (i : Nat) (kid : Int) (A : Option Addr) (c : Nat) (W : World), ps[k]? = some x → x.kids[i]? = some kid → Below w0.heap.size w0 W →
 Calls prog 81 #[.agg #[.int .i64 x.kind, .string x.text, .slice A x.kids.length c, .bool x.blank], .int .i64 (i : Int), .int .i64 kid] W fun e w' => e = .returned (.tuple #[.int .i64 ((Y.turn x i kid).1 : Int), .bool (Y.turn x i kid).2]) ∧ Below W.heap.size W w'
theorem mkNodeOr_any (A : Option Addr) (n c : Nat) (ps : List PN) (T : Nat) (w0 : World) (hps : Nps w0 A n ps) (hgd : Good ps) (Y : Way) (hY : Y.Fits ps) (hlf : ∀ k, Y.leaf k = none) (HC : Hid (CloOr w0 Y ps)) :
  ∀ k, k < n → NodeM 79 T 114 (mkCs (.slice A n c) (.func (.func 81) #[] #[])) w0 Y ps k := by
 intro k
 induction k using Nat.strongRecOn with
 | ind k ih =>
 intro hk U q AN cN l w hc hv
 obtain ⟨x, hx⟩ := hps.get hk
 have HPS := hid hps
 have hlen := hps.len
 have HL := hid (hgd k x hx)
 have hk12 := HL.out.1
 have hvk := visV_eq hgd hx
 have HEQ := hid (mkV_eq hY hx (hlf k) (l.map Nd.pn))
 have HF := hid (fun (i : Nat) (kid : Int) h => hY k x i kid hx (hlf k) h)
 have HCK := hid (fun (i : Nat) (kid : Int) (c' : Nat) (A' : Option Addr) W h hW => HC.out k x i kid A' c' W hx h hW)
 have HIH := hid ih
 obtain ⟨b, off, A', c', rfl, hblt0, y0, y1, y2, y3, hxr⟩ := hps.at_ hk hx
 have hcb := (bcell hc.old).1
 have x0 := (hcb _ _ hblt0).trans y0
 have x1 := (hcb _ _ hblt0).trans y1
 have x2 := (hcb _ _ hblt0).trans y2
 have x3 := (hcb _ _ hblt0).trans y3
 have hblt : b < w.heap.size := Nat.lt_of_lt_of_le hblt0 hc.old.size
 clear y0 y1 y2 y3 hcb hblt0
 have hT := hc.1 rfl
 have c0 : w.cell? ⟨T, 0, none⟩ = some (.slice (some ⟨b, off, none⟩) n c) := hT.cell 0
 have zT := hT.lt
 have HXR := hid (fun W (hW : Below w0.heap.size w0 W) => hxr.next hW)
 have HCC := hid (KidM.init hc #[.int .i64 x.kind, .string x.text, .slice A' x.kids.length c', .bool x.blank])
 obtain ⟨Q, hQ⟩ : ∃ Q, mkKids (mkV Y ps) (Y.turn x) 0 x.kids (l.map Nd.pn) [] = Q := ⟨_, rfl⟩
 rw [hQ] at HEQ
 replace hQ := hid hQ
 have HOLD := hid (show Below w0.heap.size w0 w from hc.old)
 have HU := hid (show ∀ g, U g → g < w.heap.size from hc.2.2.1.2.1)
 have HV0 := hid (show l.length + costK (visV ps) (x.kids.drop 0) + 1 ≤ 300 by rw [List.drop_zero]; omega)
 have HTT := hid zT
 clear hx hc hxr ih HC hT hvk hv
 go_enter func79, ntmps79
 go_wp2
 clear c0 x0 x1 x2 x3 zT
 go_loopw [6, 22] (fun s6 s22 wr => ∃ (j : Nat) (AK : Option Addr) (cK : Nat) (ks : List Int) (AL : Option Addr) (cL : Nat) (l2 : List Nd) (q2 : Int), j ≤ x.kids.length ∧ s22 = .int .i64 j ∧ s6 = .slice AK j cK ∧ Hid (KidM (MS T 114 (mkCs (.slice (some ⟨b, off, none⟩) n c) (.func (.func 81) #[] #[])) w0 U) w (AN.map (·.block)) #[.int .i64 x.kind, .string x.text, .slice A' x.kids.length c', .bool x.blank] j AK cK ks AL cL l2 q2 wr) ∧ Hid (mkKids (mkV Y ps) (Y.turn x) j (x.kids.drop j) (l2.map Nd.pn) ks = Q) ∧ Hid (l2.length + costK (visV ps) (x.kids.drop j) + 1 ≤ 300)) (fun _ i _ => x.kids.length - (intOf i).toNat)
 case atStart => exact ⟨0, none, 0, [], AN, cN, l, q, Nat.zero_le _, rfl, rfl, HCC.out, hQ, HV0.out⟩
 case round =>
  clear HCC hQ HV0
  obtain ⟨j, AK, cK, ks, AL, cL, l2, q2, hj, rfl, rfl, HM, HE, HV⟩ := hrel
  obtain ⟨kc, kf, kz⟩ := HM.out.xcells
  have k0 : wr.cell? ⟨w.heap.size, 0, none⟩ = some (.int .i64 x.kind) := kc 0
  have k1 : wr.cell? ⟨w.heap.size, 1, none⟩ = some (.string x.text) := kc 1
  have k2 : wr.cell? ⟨w.heap.size, 2, none⟩ = some (.slice A' x.kids.length c') := kc 2
  have k3 : wr.cell? ⟨w.heap.size, 3, none⟩ = some (.bool x.blank) := kc 3
  have hbT := HM.out.mkc.1 rfl
  have zT : T < wr.heap.size := hbT.lt
  have t2 : wr.cell? ⟨T, 2, none⟩ = some (.func (.func 81) #[] #[]) := hbT.cell 2
  have hwold : Below w0.heap.size w0 wr := HM.out.mkc.old
  clear kc hbT
  by_cases hjl : j < x.kids.length
  ·obtain ⟨v, hd⟩ : ∃ d, x.kids[j]? = some d := ⟨_, List.getElem?_eq_getElem hjl⟩
   have hxr : Rd wr 1 A' x.kids.length (intCells x.kids) := HXR.out wr hwold
   obtain ⟨b5, off5, rfl, hblt5, cv⟩ := int_at hxr hjl hd
   have hF := HF.out j v hd
   have hvn := HL.out.2 v (List.mem_of_getElem? hd)
   have HSTEP := hid (fun (o : List PN) ks => mkKids_at (go := mkV Y ps) (turn := Y.turn x) (o := o) (ks := ks) hd)
   have HCO := hid (costK_drop (g := visV ps) hd)
   have HCV := hid (fun W hW => HCK.out j v c' (some ⟨b5, off5, none⟩) W hd hW)
   obtain ⟨o, p, hop⟩ : ∃ o p, Y.turn x j v = (o, p) := ⟨_, _, rfl⟩
   rw [hop] at hF HCV
   simp only [hop] at HSTEP
   obtain ⟨ho1, ho2⟩ := hF
   have hon : o < n := by omega
   have HLEN := hid (mkV_len hgd hY o (by omega))
   have HCS := hid (show l2.length + visV ps o ≤ 300 by have h1 := HV.out; have h2 := HCO.out; simp only at ho2; omega)
   have HOLD2 := hid hwold
   clear hd hxr hop hwold
   go_upto_region 6 with fail
   go_cut [9, 10] (fun s9 s10 wx => s9 = .int .i64 (o : Int) ∧ s10 = .bool p ∧ Hid (Below wr.heap.size wr wx))
   case first =>
    go_region_with (go_at_call 81; refine (HCV.out _ (by first | exact HOLD2.out | exact HOLD2.out.drew)).mono ?_; rintro e w2 ⟨rfl, h2⟩; have h3 : Hid (Below wr.heap.size wr w2) := (by first | exact h2 | exact (Below.refl _ wr).drew.trans h2))
    all_goals (go_wp2_with fail; go_meet; exact ⟨rfl, rfl, h3⟩)
   case rest =>
   obtain ⟨rfl, rfl, h2⟩ := hcut
   have HM2 := hid (HM.out.next h2.out)
   clear HM HCV cv k0 k1 k2 k3 t2 kf h2
   go_wp2_with fail
   refine (HIH.out o ho1 hon _ _ _ _ _ _ HM2.out.mkc HCS.out).mono ?_
   rintro e w3 h3
   obtain ⟨A3, c3, l3, q3, rfl, h3m, h3e⟩ := HM2.out.node (fun _ => HTT.out) h3
   have HM3 := hid h3m
   have HE3 := hid h3e
   have hl3 : l3.length ≤ l2.length + visV ps o := by
    have := HLEN.out (l2.map Nd.pn)
    rw [← h3e, List.length_map, List.length_map] at this
    exact this
   clear h3 h3m h3e HM2
   have HOS := hid (show w0.heap.size ≤ w.heap.size from HOLD.out.size)
   have hjk : j ≤ 12 := by omega
   cases p with
   | false =>
    simp only [Bool.false_eq_true, if_false, Nat.add_zero] at ho2
    have HV3 := hid (show l3.length + costK (visV ps) (x.kids.drop (j + 1)) + 1 ≤ 300 by have h1 := HV.out; have h2 := HCO.out; omega)
    have HE4 := hid (show mkKids (mkV Y ps) (Y.turn x) (j + 1) (x.kids.drop (j + 1)) (l3.map Nd.pn) (ks ++ [(l3.length : Int) - 1]) = Q by
     have h1 := HSTEP.out (l2.map Nd.pn) ks
     have h2 : onePut (mkV Y ps) (o, false) (l2.map Nd.pn) = l3.map Nd.pn := by rw [HE3.out]; rfl
     rw [h2, List.length_map] at h1
     rw [← h1]; exact HE.out)
    clear HE HV HSTEP HLEN HE3
    go_wp2_with (at_builtin; refine MkC.appInt (.tmp 47) (.tmp 49) (hid HM3.out.mkc) (hid HM3.out.ke) (hid HM3.out.row) HOS rfl rfl rfl rfl (by omega) ?_; intro A9 c9 w9 m1 m2 m3 m4)
    have HM4 := hid (HM3.out.app m1.out m2.out m3.out m4.out)
    clear m1 m2 m3 m4 HM3
    go_roundw
    case rel => exact ⟨j + 1, A9, c9, ks ++ [(l3.length : Int) - 1], A3, c3, l3, q3, by omega, by go_num, rfl, HM4.out, HE4.out, HV3.out⟩
    case measure => simp [intOf]; omega
   | true =>
    simp only [if_true] at ho2
    have HV3 := hid (show (l3 ++ [(⟨11, ⟨#[]⟩, some ⟨w3.heap.size, 0, none⟩, 1, 1, [(l3.length : Int) - 1], false⟩ : Nd)]).length + costK (visV ps) (x.kids.drop (j + 1)) + 1 ≤ 300 by rw [lA, List.length_cons, List.length_nil]; have h1 := HV.out; have h2 := HCO.out; omega)
    have HE4 := hid (show mkKids (mkV Y ps) (Y.turn x) (j + 1) (x.kids.drop (j + 1)) ((l3 ++ [(⟨11, ⟨#[]⟩, some ⟨w3.heap.size, 0, none⟩, 1, 1, [(l3.length : Int) - 1], false⟩ : Nd)]).map Nd.pn) (ks ++ [(l3.length : Int)]) = Q by
     have h1 := HSTEP.out (l2.map Nd.pn) ks
     have h2 : onePut (mkV Y ps) (o, true) (l2.map Nd.pn) = (l3 ++ [(⟨11, ⟨#[]⟩, some ⟨w3.heap.size, 0, none⟩, 1, 1, [(l3.length : Int) - 1], false⟩ : Nd)]).map Nd.pn := by
      rw [List.map_append, HE3.out]
      unfold onePut
      rw [if_pos rfl, ← HE3.out, List.length_map]; rfl
     rw [h2, List.length_map, lA, List.length_cons, List.length_nil] at h1
     rw [show ((l3.length + (0 + 1) : Nat) : Int) - 1 = (l3.length : Int) by omega] at h1
     rw [← h1]; exact HE.out)
    obtain ⟨hp1, hp2⟩ := HM3.out.par ((l3.length : Int) - 1)
    have HADD := hid (mkAdd_any ((MS T 114 (mkCs (.slice (some ⟨b, off, none⟩) n c) (.func (.func 81) #[] #[])) w0 U).res AK) rfl rfl (.slice (some ⟨b, off, none⟩) n c) (.func (.func 81) #[] #[]) rfl rfl q3 A3 c3 l3 ⟨11, ⟨#[]⟩, some ⟨w3.heap.size, 0, none⟩, 1, 1, [(l3.length : Int) - 1], false⟩ _ hp1 hp2 (by have h1 := HCS.out; omega))
    have HM3a := hid (HM3.out.next ((Below.refl w3.heap.size w3).alloc (Nat.le_refl _) (.cells #[.int .i64 ((l3.length : Int) - 1)] 3)))
    clear HE HV HSTEP HLEN HE3 hp1 hp2
    go_wp2_with fail
    refine HADD.out.mono ?_
    rintro e w4 h4
    obtain ⟨A4, c4, rfl, h4m⟩ := HM3a.out.add (fun _ => HTT.out) h4
    have HM4a := hid h4m
    clear h4 h4m HADD HM3a
    go_wp2_with (at_builtin; refine MkC.appInt (.tmp 47) (.tmp 49) (hid HM4a.out.mkc) (hid HM4a.out.ke) (hid HM4a.out.row) HOS rfl rfl rfl rfl (by omega) ?_; intro A9 c9 w9 m1 m2 m3 m4)
    have HM4 := hid (HM4a.out.app m1.out m2.out m3.out m4.out)
    clear m1 m2 m3 m4 HM4a HM3
    go_roundw
    case rel => exact ⟨j + 1, A9, c9, ks ++ [(l3.length : Int)], A4, c4, l3 ++ [(⟨11, ⟨#[]⟩, some ⟨w3.heap.size, 0, none⟩, 1, 1, [(l3.length : Int) - 1], false⟩ : Nd)], q3, by omega, by go_num, rfl, HM4.out, HE4.out, HV3.out⟩
    case measure => simp [intOf]; omega
  ·obtain rfl : j = x.kids.length := by omega
   have HQ2 := hid (show (l2.map Nd.pn, ks) = Q by rw [← HE.out, mkKids_done (Nat.le_refl _)])
   have hwo : w0.heap.size ≤ w.heap.size := HOLD.out.size
   have HMb := hid (HM.out.setBox (fun _ => HTT.out) hwo 2 (.slice AK x.kids.length cK))
   have HADD := hid (mkAdd_any (MS T 114 (mkCs (.slice (some ⟨b, off, none⟩) n c) (.func (.func 81) #[] #[])) w0 U) rfl rfl (.slice (some ⟨b, off, none⟩) n c) (.func (.func 81) #[] #[]) rfl rfl q2 AL cL l2 ⟨x.kind, x.text, AK, x.kids.length, cK, ks, x.blank⟩ _ HMb.out.mkc
    ⟨⟨HMb.out.row.cap, fun g hg hu => by have h1 := HU.out g hu; have h2 := (Mine.blk HMb.out.row hg).1; omega⟩, HMb.out.row.more hwo⟩ (by have h1 := HV.out; omega))
   clear HE HV hwo t2 zT hwold
   go_wp2_with fail
   refine HADD.out.mono ?_
   rintro e w5 h5
   obtain ⟨A5, c5, rfl, m5, e5⟩ := h5
   have HF5 := hid (show MkR (MS T 114 (mkCs (.slice (some ⟨b, off, none⟩) n c) (.func (.func 81) #[] #[])) w0 U) Y ps k AN l w (.returned (.int .i64 (l2.length : Int))) w5 from
    ⟨A5, c5, l2 ++ [⟨x.kind, x.text, AK, x.kids.length, cK, ks, x.blank⟩], q2, by rw [lA, List.length_cons, List.length_nil]; congr 2; omega, by rw [lA, List.length_cons, List.length_nil]; exact m5, HMb.out.ke.trans e5, by
     rw [HEQ.out, ← HQ2.out, List.map_append]; rfl⟩)
   clear m5 e5 HADD HMb k0 k1 k2 k3 kf kz
   go_wp2
   go_ret
   exact HF5.out
def fdCs (old : Value) (q : Int) (V : Value) : Array Value := #[old, V, .int .i64 q]
theorem leaf_none {ps : List PN} {k : Nat} (h : leafV ps k = none) : (foldW ps).leaf k = none := by show (leafV ps k).map _ = none; rw [h]; rfl
theorem leaf_some {ps : List PN} {k : Nat} {v : Int} (h : leafV ps k = some v) : (foldW ps).leaf k = some ⟨2, decT v, [], false⟩ := by show (leafV ps k).map _ = _; rw [h]; rfl
theorem leafV_range {ps : List PN} {k : Nat} {v : Int} (h : leafV ps k = some v) : 0 ≤ v ∧ v ≤ 999999999 ∧ constV ps k = some v := by
 unfold leafV at h
 split at h
 ·split at h
  ·rename_i n hn
   split at h
   ·rename_i h2; obtain rfl := Option.some.inj h; exact ⟨h2.1, h2.2, hn⟩
   ·cases h
  ·cases h
 ·cases h
theorem fdNode_any (A : Option Addr) (n c : Nat) (ps : List PN) (m : Nat) (hF : TreeF ps m) (T : Nat) (w0 : World) (hps : Nps w0 A n ps) (htab : Hid (Tab w0)) :
  ∀ k, k < n → NodeM 75 T 109 (fdCs (.slice A n c)) w0 (foldW ps) ps k := by
 intro k
 induction k using Nat.strongRecOn with
 | ind k ih =>
 intro hk U q AN cN l w hc hv
 obtain ⟨x, hx⟩ := hps.get hk
 have HPS := hid hps
 have hlen := hps.len
 have hgd := hF.tree.good
 have hY := foldW_fits hgd
 have HL := hid (hgd k x hx)
 have hk12 := HL.out.1
 have hvk := visV_eq hgd hx
 have HIH := hid ih
 have HFO := hid (fun W (hW : Below w0.heap.size w0 W) => foldable_any A n c ps m hF k hk W (hps.next hW))
 obtain ⟨b, off, A', c', rfl, hblt0, y0, y1, y2, y3, hxr⟩ := hps.at_ hk hx
 have hcb := (bcell hc.old).1
 have x0 := (hcb _ _ hblt0).trans y0
 have x1 := (hcb _ _ hblt0).trans y1
 have x2 := (hcb _ _ hblt0).trans y2
 have x3 := (hcb _ _ hblt0).trans y3
 have hblt : b < w.heap.size := Nat.lt_of_lt_of_le hblt0 hc.old.size
 clear y0 y1 y2 y3 hcb hblt0
 have hT := hc.1 rfl
 have c0 : w.cell? ⟨T, 0, none⟩ = some (.slice (some ⟨b, off, none⟩) n c) := hT.cell 0
 have zT := hT.lt
 have HXR := hid (fun W (hW : Below w0.heap.size w0 W) => hxr.next hW)
 have HCC := hid (KidM.init hc #[.int .i64 x.kind, .string x.text, .slice A' x.kids.length c', .bool x.blank])
 have HOLD := hid (show Below w0.heap.size w0 w from hc.old)
 have HU := hid (show ∀ g, U g → g < w.heap.size from hc.2.2.1.2.1)
 have HTT := hid zT
 obtain ⟨xx, A2, c2, hcase, hrd, hkk, hk12, HEQ, hV0⟩ : ∃ (xx : PN) (A2 : Option Addr) (c2 : Nat), ((∃ v, leafV ps k = some v ∧ xx = ⟨2, decT v, [], false⟩ ∧ A2 = none ∧ c2 = 0) ∨ (leafV ps k = none ∧ xx = x ∧ A2 = A' ∧ c2 = c')) ∧ Hid (∀ W, Below w0.heap.size w0 W → Rd W 1 A2 xx.kids.length (intCells xx.kids)) ∧ Hid (∀ (i : Nat) (kid : Int), xx.kids[i]? = some kid → 0 ≤ kid ∧ kid.toNat < k) ∧ xx.kids.length ≤ 12 ∧
   Hid (mkV (foldW ps) ps k (l.map Nd.pn) = (mkKids (mkV (foldW ps) ps) ((foldW ps).turn xx) 0 xx.kids (l.map Nd.pn) []).1 ++ [⟨xx.kind, xx.text, (mkKids (mkV (foldW ps) ps) ((foldW ps).turn xx) 0 xx.kids (l.map Nd.pn) []).2, xx.blank⟩]) ∧ l.length + costK (visV ps) xx.kids + 1 ≤ 300 := by
  cases hlf : leafV ps k with
  | some v =>
   refine ⟨⟨2, decT v, [], false⟩, none, 0, .inl ⟨v, rfl, rfl, rfl, rfl⟩, hid (fun W _ => Rd.none_ _ _ _), hid (fun i kid h => by simp at h), Nat.zero_le _, hid ?_, ?_⟩
   ·rw [mkV_leaf (leaf_some hlf)]; rfl
   ·have : costK (visV ps) [] = 0 := rfl
    simp only [this]; omega
  | none =>
   refine ⟨x, A', c', .inr ⟨rfl, rfl, rfl, rfl⟩, hid (fun W hW => hxr.next hW), hid (fun i kid h => ?_), hk12, hid (mkV_eq hY hx (leaf_none hlf) _), by omega⟩
   have := HL.out.2 kid (List.mem_of_getElem? h)
   omega
 obtain ⟨Q, hQ⟩ : ∃ Q, mkKids (mkV (foldW ps) ps) ((foldW ps).turn xx) 0 xx.kids (l.map Nd.pn) [] = Q := ⟨_, rfl⟩
 rw [hQ] at HEQ
 replace hQ := hid hQ
 have HV0 := hid (show l.length + costK (visV ps) (xx.kids.drop 0) + 1 ≤ 300 by rw [List.drop_zero]; exact hV0)
 have HMI := hid ((KidM.init hc #[.int .i64 x.kind, .string x.text, .slice A' x.kids.length c', .bool x.blank]).mkc.old)
 have HCO2 := hid (fun W (hW : Below w0.heap.size w0 W) => implConst_all (some ⟨b, off, none⟩) n c ps m hF k hk W (hps.next hW))
 clear hx hc hxr ih hT hvk hv hV0
 go_enter func75, ntmps75
 go_upto_region 2 with fail
 clear x0 x1 x2 x3
 go_cut [24] (fun s24 wx => s24 = .bool (leafV ps k).isSome ∧ Hid (KidM (MS T 109 (fdCs (.slice (some ⟨b, off, none⟩) n c)) w0 U) w (AN.map (·.block)) #[.int .i64 x.kind, .string x.text, .slice A' x.kids.length c', .bool x.blank] 0 none 0 [] AN cN l q wx))
 case first =>
  go_wp2_with fail
  refine (HFO.out _ HMI.out).mono ?_
  rintro e w1 ⟨rfl, h1⟩
  have HC1 := hid (HCC.out.next h1)
  clear HCC c0 zT
  go_wp2_with fail
  go_meet
  exact ⟨rfl, HC1.out⟩
 case rest =>
 obtain ⟨rfl, HC1⟩ := hcut
 clear HCC c0 zT HFO HMI
 rename_i K1 hK1 K2 hK2
 refine hK2 _ _ ?_
 go_cut [7] (fun s7 wx => ∃ q2, Hid (KidM (MS T 109 (fdCs (.slice (some ⟨b, off, none⟩) n c)) w0 U) w (AN.map (·.block)) #[.int .i64 xx.kind, .string xx.text, .slice A2 xx.kids.length c2, .bool xx.blank] 0 none 0 [] AN cN l q2 wx))
 case first =>
  rcases hcase with ⟨v, hlf, rfl, rfl, rfl⟩ | ⟨hlf, rfl, rfl, rfl⟩
  ·obtain ⟨hv0, hv1, hcv⟩ := leafV_range hlf
   rw [hcv] at HCO2
   rw [hlf]
   have hb1 : Below w0.heap.size w0 wc := HC1.out.mkc.old
   have hbT := HC1.out.mkc.1 rfl
   have t0 : wc.cell? ⟨T, 0, none⟩ = some (.slice (some ⟨b, off, none⟩) n c) := hbT.cell 0
   have zT : T < wc.heap.size := hbT.lt
   have HB1 := hid hb1
   have hwo : w0.heap.size ≤ w.heap.size := HOLD.out.size
   have HWO := hid hwo
   clear hbT hb1 hwo
   unfold ConstR at HCO2
   go_wp2_with fail
   refine (HCO2.out _ HB1.out).mono ?_
   rintro e w2 ⟨rfl, h2⟩
   have HC2 := hid (HC1.out.next h2)
   clear t0 zT h2 HB1
   go_wp2_with fail
   refine (implDecimal_any v _ (by omega) (by omega) (htab.out.next (HC2.out.mkc.old))).mono ?_
   rintro e w3 ⟨rfl, h3⟩
   have HC3 := hid (HC2.out.next h3)
   clear h3 HC2
   obtain ⟨kc, kf, kz⟩ := HC3.out.xcells
   have k0 : w3.cell? ⟨w.heap.size, 0, none⟩ = some (.int .i64 x.kind) := kc 0
   have k1 : w3.cell? ⟨w.heap.size, 1, none⟩ = some (.string x.text) := kc 1
   have k2 : w3.cell? ⟨w.heap.size, 2, none⟩ = some (.slice A' x.kids.length c') := kc 2
   have k3 : w3.cell? ⟨w.heap.size, 3, none⟩ = some (.bool x.blank) := kc 3
   have hbT := HC3.out.mkc.1 rfl
   have zT : T < w3.heap.size := hbT.lt
   have fT := hbT.frozen
   have t2 : w3.cell? ⟨T, 2, none⟩ = some (.int .i64 q) := hbT.cell 2
   have hne : w.heap.size ≠ T := by have := HTT.out; omega
   have HC5 := hid (fun (u : Int) => ((((HC3.out.setBox (fun _ => HTT.out) HWO.out 0 (.int .i64 2)).setBox (fun _ => HTT.out) HWO.out 1 (.string (decT v))).setBox (fun _ => HTT.out) HWO.out 2 (.slice none 0 0)).setBox (fun _ => HTT.out) HWO.out 3 (.bool false)).setT rfl (fun _ => HTT.out) (i := 2) (u := .int .i64 u) (q' := u) rfl)
   clear kc hbT
   go_wp2_with fail
   go_meet
   exact ⟨_, HC5.out _⟩
  ·rw [hlf]
   go_wp2_with fail
   go_meet
   exact ⟨q, HC1.out⟩
 case rest =>
 obtain ⟨q2, HC2⟩ := hcut
 clear HC1 HCO2
 obtain ⟨kc, kf, kz⟩ := HC2.out.xcells
 have k2 : wc.cell? ⟨w.heap.size, 2, none⟩ = some (.slice A2 xx.kids.length c2) := kc 2
 clear kc
 go_wp2
 clear k2 kf kz
 go_loopw [8, 47] (fun s6 s22 wr => ∃ (j : Nat) (AK : Option Addr) (cK : Nat) (ks : List Int) (AL : Option Addr) (cL : Nat) (l2 : List Nd) (q2 : Int), j ≤ xx.kids.length ∧ s22 = .int .i64 j ∧ s6 = .slice AK j cK ∧ Hid (KidM (MS T 109 (fdCs (.slice (some ⟨b, off, none⟩) n c)) w0 U) w (AN.map (·.block)) #[.int .i64 xx.kind, .string xx.text, .slice A2 xx.kids.length c2, .bool xx.blank] j AK cK ks AL cL l2 q2 wr) ∧ Hid (mkKids (mkV (foldW ps) ps) ((foldW ps).turn xx) j (xx.kids.drop j) (l2.map Nd.pn) ks = Q) ∧ Hid (l2.length + costK (visV ps) (xx.kids.drop j) + 1 ≤ 300)) (fun _ i _ => xx.kids.length - (intOf i).toNat)
 case atStart => exact ⟨0, none, 0, [], AN, cN, l, q2, Nat.zero_le _, rfl, rfl, HC2.out, hQ, HV0.out⟩
 case round =>
  clear HC2 hQ HV0
  obtain ⟨j, AK, cK, ks, AL, cL, l2, q2, hj, rfl, rfl, HM, HE, HV⟩ := hrel
  obtain ⟨kc, kf, kz⟩ := HM.out.xcells
  have k0 : wr.cell? ⟨w.heap.size, 0, none⟩ = some (.int .i64 xx.kind) := kc 0
  have k1 : wr.cell? ⟨w.heap.size, 1, none⟩ = some (.string xx.text) := kc 1
  have k2 : wr.cell? ⟨w.heap.size, 2, none⟩ = some (.slice A2 xx.kids.length c2) := kc 2
  have k3 : wr.cell? ⟨w.heap.size, 3, none⟩ = some (.bool xx.blank) := kc 3
  have hbT := HM.out.mkc.1 rfl
  have zT : T < wr.heap.size := hbT.lt
  have hwold : Below w0.heap.size w0 wr := HM.out.mkc.old
  clear kc hbT
  by_cases hjl : j < xx.kids.length
  ·obtain ⟨v, hd⟩ : ∃ d, xx.kids[j]? = some d := ⟨_, List.getElem?_eq_getElem hjl⟩
   have hxr : Rd wr 1 A2 xx.kids.length (intCells xx.kids) := hrd.out wr hwold
   obtain ⟨b5, off5, rfl, hblt5, cv⟩ := int_at hxr hjl hd
   obtain ⟨hv0, ho1⟩ := hkk.out j v hd
   have HSTEP := hid (fun (o : List PN) ks => mkKids_at (go := mkV (foldW ps) ps) (turn := (foldW ps).turn xx) (o := o) (ks := ks) hd)
   have HCO := hid (costK_drop (g := visV ps) hd)
   obtain ⟨o, rfl⟩ := Int.eq_ofNat_of_zero_le hv0
   rw [Int.toNat_natCast] at ho1 HCO
   have hon : o < n := by omega
   have HLEN := hid (mkV_len hgd hY o (by omega))
   have HCS := hid (show l2.length + visV ps o ≤ 300 by have h1 := HV.out; have h2 := HCO.out; omega)
   clear hd hxr hwold k0 k1 k2 k3 kf
   go_wp2_with fail
   refine (HIH.out o ho1 hon _ _ _ _ _ _ HM.out.mkc HCS.out).mono ?_
   rintro e w3 h3
   obtain ⟨A3, c3, l3, q3, rfl, h3m, h3e⟩ := HM.out.node (fun _ => HTT.out) h3
   have HM3 := hid h3m
   have HE3 := hid h3e
   have hl3 : l3.length ≤ l2.length + visV ps o := by
    have := HLEN.out (l2.map Nd.pn)
    rw [← h3e, List.length_map, List.length_map] at this
    exact this
   have HOS := hid (show w0.heap.size ≤ w.heap.size from HOLD.out.size)
   have hjk : j ≤ 12 := by omega
   have HV3 := hid (show l3.length + costK (visV ps) (xx.kids.drop (j + 1)) + 1 ≤ 300 by have h1 := HV.out; have h2 := HCO.out; omega)
   have HE4 := hid (show mkKids (mkV (foldW ps) ps) ((foldW ps).turn xx) (j + 1) (xx.kids.drop (j + 1)) (l3.map Nd.pn) (ks ++ [(l3.length : Int) - 1]) = Q by
    have h1 := HSTEP.out (l2.map Nd.pn) ks
    have h2 : onePut (mkV (foldW ps) ps) ((foldW ps).turn xx j (o : Int)) (l2.map Nd.pn) = l3.map Nd.pn := by rw [HE3.out]; rfl
    rw [h2, List.length_map] at h1
    rw [← h1]; exact HE.out)
   clear h3 h3m h3e HM HE HV HSTEP HLEN HE3 cv zT
   go_wp2_with (at_builtin; refine MkC.appInt (.tmp 54) (.tmp 56) (hid HM3.out.mkc) (hid HM3.out.ke) (hid HM3.out.row) HOS rfl rfl rfl rfl (by omega) ?_; intro A9 c9 w9 m1 m2 m3 m4)
   have HM4 := hid (HM3.out.app m1.out m2.out m3.out m4.out)
   clear m1 m2 m3 m4 HM3
   go_roundw
   case rel => exact ⟨j + 1, A9, c9, ks ++ [(l3.length : Int) - 1], A3, c3, l3, q3, by omega, by go_num, rfl, HM4.out, HE4.out, HV3.out⟩
   case measure => simp [intOf]; omega
  ·obtain rfl : j = xx.kids.length := by omega
   have HQ2 := hid (show (l2.map Nd.pn, ks) = Q by rw [← HE.out, mkKids_done (Nat.le_refl _)])
   have hwo : w0.heap.size ≤ w.heap.size := HOLD.out.size
   have HMb := hid (HM.out.setBox (fun _ => HTT.out) hwo 2 (.slice AK xx.kids.length cK))
   have hl9 : l2.length ≤ 1000 := by have h1 := HV.out; omega
   clear HE HV zT hwold
   go_upto_region 14 with fail
   clear k0 k1 k2 k3 kf kz HM
   generalize wr.setCell ⟨w.heap.size, 2, none⟩ (.slice AK xx.kids.length cK) = W at HMb ⊢
   obtain ⟨i0, hi0, hz0, hz1, hz2⟩ := info_parts infoNd
   have HI := hid (And.intro hi0 (And.intro hz0 (And.intro hz1 hz2)))
   have hT := HMb.out.mkc.1 rfl
   have cz : T < W.heap.size := hT.lt
   have cf : ∀ i, W.frozen? ⟨T, i, none⟩ = false := hT.frozen
   have K : Blk W w.heap.size 48 #[.int .i64 xx.kind, .string xx.text, .slice AK xx.kids.length cK, .bool xx.blank] := HMb.out.box
   have k0 := K.q0
   have k1 := K.q1
   have k2 := K.q2
   have k3 := K.q3
   have kz := K.lt
   have kf := K.frozen
   have t1 : W.cell? ⟨T, 1, none⟩ = some (.slice AL l2.length cL) := hT.cell 1
   have hx9 : KidsIn W w0.heap.size U (⟨xx.kind, xx.text, AK, xx.kids.length, cK, ks, xx.blank⟩ : Nd) := ⟨⟨HMb.out.row.cap, fun g hg hu => by have h1 := HU.out g hu; have h2 := (Mine.blk HMb.out.row hg).1; omega⟩, HMb.out.row.more hwo⟩
   have HP := hid (fun (v' : Value) (w3 : World) h1 h2 h3 => MkC.pushSet (R := (MS T 109 (fdCs (.slice (some ⟨b, off, none⟩) n c)) w0 U)) (x := (⟨xx.kind, xx.text, AK, xx.kids.length, cK, ks, xx.blank⟩ : Nd)) HMb.out.mkc rfl hx9 (w1 := W.alloc (.cells #[.int .i64 xx.kind, .string xx.text, .slice AK xx.kids.length cK, .bool xx.blank] 48)) ((Below.refl _ _).alloc (Nat.le_refl _) _) (v' := v') (w3 := w3) h1 h2 h3)
   have H3 := hid (fun (w3 : World) h => HMb.out.mkc.blk3 rfl (w1 := W.alloc (.cells #[.int .i64 xx.kind, .string xx.text, .slice AK xx.kids.length cK, .bool xx.blank] 48)) (w3 := w3) ((Below.refl _ _).alloc (Nat.le_refl _) _) h)
   have HM := hid (Mine.alloc HMb.out.mkc.2.1 (.cells #[.int .i64 xx.kind, .string xx.text, .slice AK xx.kids.length cK, .bool xx.blank] 48))
   have HBZ := hid (show w0.heap.size ≤ (W.alloc (.cells #[.int .i64 xx.kind, .string xx.text, .slice AK xx.kids.length cK, .bool xx.blank] 48)).heap.size by
    have h7 : w0.heap.size ≤ W.heap.size := HMb.out.mkc.old.size
    simp only [World.size_alloc]; omega)
   have b1 : ∀ o, (W.alloc o).cell? ⟨T, 1, none⟩ = some (.slice AL l2.length cL) := fun o => (hT.alloc o).cell 1
   have bk0 : ∀ o, (W.alloc o).cell? ⟨w.heap.size, 0, none⟩ = some (.int .i64 xx.kind) := fun o => (K.alloc o).cell 0
   have bk1 : ∀ o, (W.alloc o).cell? ⟨w.heap.size, 1, none⟩ = some (.string xx.text) := fun o => (K.alloc o).cell 1
   have bk2 : ∀ o, (W.alloc o).cell? ⟨w.heap.size, 2, none⟩ = some (.slice AK xx.kids.length cK) := fun o => (K.alloc o).cell 2
   have bk3 : ∀ o, (W.alloc o).cell? ⟨w.heap.size, 3, none⟩ = some (.bool xx.blank) := fun o => (K.alloc o).cell 3
   have hnb : (W.alloc (.cells #[.int .i64 xx.kind, .string xx.text, .slice AK xx.kids.length cK, .bool xx.blank] 48)).heap[W.heap.size]? = some (.cells #[.int .i64 xx.kind, .string xx.text, .slice AK xx.kids.length cK, .bool xx.blank] 48 (0, 0)) := heap_alloc_new W _
   have hll : (l2 ++ [(⟨xx.kind, xx.text, AK, xx.kids.length, cK, ks, xx.blank⟩ : Nd)]).length = l2.length + 1 := by rw [lA]; rfl
   have HLL := hid hll
   clear hi0 hz0 hz1 hz2 hx9 K hT hll hwo
   go_region_law
    (refine step_append_lies _ rfl (.tmp 65) (.tmp 67) 26 rfl w0.heap.size 48 i0 (.agg #[.int .i64 0, .string ⟨#[]⟩, .slice none 0 0, .bool false]) 4 56 underlying26 HI.out.1 HI.out.2.1 HI.out.2.2.1 HI.out.2.2.2 rfl (by decide) (.slice AL l2.length cL) l2.length (l2.flatMap nodeCells) (by first | (simp [Act.eval]; done) | (simp [Act.eval, Act.put]; done) | rfl) (by first | exact HM.out.drew | exact HM.out) ⟨W.heap.size, 0, none⟩ 1 1 (nodeCells (⟨xx.kind, xx.text, AK, xx.kids.length, cK, ks, xx.blank⟩ : Nd)) (by first | (simp [Act.eval]; done) | (simp [Act.eval, Act.put]; done) | rfl) (by rfl) (World.news_of_block (cs := #[.int .i64 xx.kind, .string xx.text, .slice AK xx.kids.length cK, .bool xx.blank]) (t := 48) (fr := (0, 0)) hnb) (nd_one _) (by decide) (by unfold maxLen; omega) (by omega) (by first | exact HBZ.out) (W.heap.size + 1) (by simp) ?_
     intro q6 cap w6 hown6 hgrow hat hlt6
     have hgrow2 : (W.alloc (.cells #[.int .i64 xx.kind, .string xx.text, .slice AK xx.kids.length cK, .bool xx.blank] 48)).grownBy w6 (Value.slice AL l2.length cL).ownBlock := (by first | exact hgrow | exact grown_undrewP hgrow)
     have hb6 := H3.out _ hgrow2
     have j5 : w6.cell? ⟨T, 1, none⟩ = some (.slice AL l2.length cL) := hb6.cell 1
     have jf : ∀ i, w6.frozen? ⟨T, i, none⟩ = false := hb6.frozen
     have jz : T < w6.heap.size := hb6.lt
     have HW := hid (HP.out _ _ hown6 hgrow2 (hat.elim (fun e => .inl e.symm) (fun e => .inr (by rw [e]; simp [Value.ownBlock]))))
     clear hown6 hgrow hat hgrow2 hb6)
   all_goals
    obtain ⟨A5, c5, ev, m5, e5⟩ := HW.out
    injection ev with ev1 ev2 ev3
    subst ev1; subst ev3
    have HF5 := hid (show MkR (MS T 109 (fdCs (.slice (some ⟨b, off, none⟩) n c)) w0 U) (foldW ps) ps k AN l w (.returned (.int .i64 (l2.length : Int))) _ from
      ⟨_, _, l2 ++ [(⟨xx.kind, xx.text, AK, xx.kids.length, cK, ks, xx.blank⟩ : Nd)], q2, by rw [HLL.out]; congr 2; omega, by rw [HLL.out]; exact m5, HMb.out.ke.trans e5, by
       rw [HEQ.out, ← HQ2.out, List.map_append]; rfl⟩)
    clear m5 e5 HMb HW ev2
    go_wp2
    go_ret
    first | exact HF5.out | (have h9 := HF5.out; simpa using h9)
theorem implBare_any (A : Option Addr) (n c : Nat) (ps : List PN) (hg : Good ps) (hp : ParOk ps) (k : Nat) (hk : k < n) (w : World) (hps : Nps w A n ps) :
  Calls prog 77 #[.slice A n c, .int .i64 (k : Int)] w fun e w' => e = .returned (.int .i64 (bareV ps k : Int)) ∧ w = w' := by
 have HP := hid hps
 have hlen := hps.len
 obtain ⟨B, hB⟩ : ∃ B, bareV ps k = B := ⟨_, rfl⟩
 rw [hB]
 have HB := hid hB
 clear hps hB
 go_enter func77, ntmps77
 go_wp2
 go_loop [1] (fun s => ∃ q : Nat, q < n ∧ s = .int .i64 (q : Int) ∧ Hid (bareV ps q = B)) (fun s => (intOf s).toNat)
 case atStart => exact ⟨k, hk, rfl, HB⟩
 case round =>
  clear HB
  obtain ⟨q, hq, rfl, HQ⟩ := hrel
  obtain ⟨x, hx⟩ := HP.out.get hq
  obtain ⟨b, off, A', c', rfl, hblt, x0, x1, x2, x3, hxr⟩ := HP.out.at_ hq hx
  by_cases h11 : x.kind = 11
  ·have hp1 := hp q x hx h11
   obtain ⟨hq1, hq2⟩ := kid0_lt hg hx (by rw [hp1]; omega)
   obtain ⟨b5, off5, rfl, hblt5, cv⟩ := int_at hxr (by omega) hq1
   simp only [Nat.add_zero] at cv
   have HQ2 := hid (show bareV ps (kid0 x) = B by rw [← bareV_par hg hp hx h11]; exact HQ.out)
   have hqn : kid0 x < n := by omega
   rw [h11] at x0
   rw [hp1] at x2
   clear hxr hq1 hx x1 x3 HQ h11 hp1
   generalize kid0 x = z at *
   go_wp2
   go_round
   case rel => exact ⟨z, hqn, rfl, HQ2⟩
   case measure => simp [intOf]; omega
  ·have hb := bareV_not hx h11
   have hqB : q = B := by rw [← hb]; exact HQ.out
   subst hqB
   have e11 : (x.kind == 11) = false := beq_eq_false_iff_ne.2 h11
   clear hxr hx x1 x2 x3 HQ h11 hb
   go_wp2
   go_ret
   exact ⟨rfl, rfl⟩
theorem cloSp_any (A : Option Addr) (n c : Nat) (ps : List PN) (hg : Good ps) (hp : ParOk ps) (gn : Nat) (w0 : World) (hps : Nps w0 A n ps) (hcap : w0.cell? ⟨gn, 0, none⟩ = some (.slice A n c)) : CloSp gn w0 (spareW ps) ps := by
 intro k x i kid A1 c1 W hx hi hW
 have hl := hps.len
 have hkl := (List.getElem?_eq_some_iff.1 hx).1
 have hkid := (hg k x hx).2 kid (List.mem_of_getElem? hi)
 have h12 := (hg k x hx).1
 have him := (List.getElem?_eq_some_iff.1 hi).1
 obtain ⟨q, rfl⟩ := Int.eq_ofNat_of_zero_le hkid.1
 have hq : q < n := by omega
 obtain ⟨y, hy⟩ := hps.get hq
 have hgn := block_of_cell hcap
 have g0 := ((bcell hW).1 _ _ hgn).trans hcap
 have hgW : gn < W.heap.size := Nat.lt_of_lt_of_le hgn hW.size
 have HPW := hid (hps.next hW)
 obtain ⟨b, off, A', c', rfl, hblt, y0, y1, y2, y3, hyr⟩ := HPW.out.at_ hq hy
 by_cases h11 : y.kind = 11
 ·have hturn : (spareW ps).turn x i (q : Int) = (bareV ps q, wantsB x i (ndAt ps (bareV ps q))) := by
   unfold spareW
   simp only [Int.toNat_natCast]
   rw [ndAt_of hy, if_pos h11]
  rw [hturn]
  obtain ⟨hb1, ⟨z, hz, hz11⟩, _, _⟩ := bareV_facts hg hp q (by omega)
  rw [ndAt_of hz]
  have hbn : bareV ps q < n := by omega
  have HBA := hid (fun W2 (hW2 : Below W.heap.size W W2) => implBare_any (some ⟨b, off, none⟩) n c ps hg hp q hq W2 (HPW.out.next hW2))
  generalize bareV ps q = B at *
  obtain ⟨b7, off7, A7, c7, e7, _, z0, z1, z2, z3, _⟩ := HPW.out.at_ hbn hz
  injection e7 with e7; injection e7 with e71 e72; subst e71; subst e72
  have HWA := hid (fun W2 => wants_any x.kind x.text A1 x.kids.length c1 x.blank i z.kind z.text A7 z.kids.length c7 z.blank W2 him (by omega))
  rw [h11] at y0
  show Calls _ _ _ _ fun e w' => e = .returned (.tuple #[.int .i64 (B : Int), .bool (wantsB x i z)]) ∧ _
  unfold wantsB
  generalize wantsK x.kind x.text x.kids.length i z.kind z.text = WB at HWA ⊢
  have hb0 : Below W.heap.size W (W.alloc (.cells #[.int .i64 x.kind, .string x.text, .slice A1 x.kids.length c1, .bool x.blank] 48)) := grow_
  have HB0 := hid hb0
  clear hx hi hyr hz hturn hcap y1 y2 y3 HPW hb0
  go_enter func76, ntmps76
  go_wp2_with fail
  refine (HBA.out _ HB0.out).mono ?_
  rintro e w1 ⟨rfl, rfl⟩
  go_upto_region 4 with fail
  go_cut [7, 8] (fun s7 s8 wx => s7 = .int .i64 (B : Int) ∧ s8 = .bool WB ∧ Hid (Below W.heap.size W wx))
  case first =>
   go_region_with (go_at_call 78; refine (HWA.out _).mono ?_; rintro e w2 ⟨rfl, h2⟩; have h3 : Hid (Below W.heap.size W w2) := (by first | exact below_next1 (Below.refl _ _) h2 | exact below_next1 (Below.refl _ _) ((Below.refl _ _).drew.trans h2)))
   all_goals (go_wp2_with fail; go_meet; exact ⟨rfl, rfl, h3⟩)
  case rest =>
  obtain ⟨rfl, rfl, h3⟩ := hcut
  go_wp2
  refine bodyPost_ret (by simp [results, Tryz.results76, go_sem,]; try rfl) rfl ?_
  exact ⟨rfl, h3.out⟩
 ·have hturn : (spareW ps).turn x i (q : Int) = (q, false) := by
   unfold spareW
   simp only [Int.toNat_natCast]
   rw [ndAt_of hy, if_neg h11]
  rw [hturn]
  have e11 : (y.kind != 11) = true := by rw [bne, beq_eq_false_iff_ne.2 h11]; rfl
  clear hx hi hyr hturn hcap y1 y2 y3 HPW h11
  go_enter func76, ntmps76
  go_wp2
  refine bodyPost_ret (by simp [results, Tryz.results76, go_sem,]; try rfl) rfl ?_
  exact ⟨rfl, grow_⟩
theorem cloOr_any (ps : List PN) (hg : Good ps) (w0 : World) : CloOr w0 idW ps := by
 intro k x i kid A1 c1 W hx hi hW
 have hkid := (hg k x hx).2 kid (List.mem_of_getElem? hi)
 obtain ⟨q, rfl⟩ := Int.eq_ofNat_of_zero_le hkid.1
 show Calls _ _ _ _ fun e w' => e = .returned (.tuple #[.int .i64 (((q : Int).toNat : Nat) : Int), .bool false]) ∧ _
 rw [Int.toNat_natCast]
 clear hx hi hkid
 go_enter func81, ntmps81
 go_wp2
 refine bodyPost_ret (by simp [results, Tryz.results81, go_sem,]; try rfl) rfl ?_
 exact ⟨rfl, grow_⟩
theorem MkC.start (ty : TypeId) (cs : Int → Value → Array Value) (w0 : World) (h1 : ∀ q v v', (cs q v).setIfInBounds 1 v' = cs q v') (h2 : ty ≠ 48) (h3 : ty ≠ 3) :
  MkC (MS w0.heap.size ty cs w0 (fun _ => False)) 0 (.slice none 0 0) none 0 [] (w0.alloc (.cells (cs 0 (.slice none 0 0)) ty)) :=
 ⟨fun _ => Blk.new _ _ _, Mine.mk_nil _ _ _ _, ⟨fun x hx => (by cases hx), fun g hg => hg.elim, List.Pairwise.nil⟩, (Below.refl _ _).alloc (Nat.le_refl _) _, ⟨fun _ => Nat.le_refl _, h1, fun _ => h2, fun _ => h3⟩⟩
theorem MkR.made {T : Nat} {ty : TypeId} {cs : Int → Value → Array Value} {w0 w w' : World} {U : Nat → Prop} {Y : Way} {ps : List PN} {k : Nat} {AN : Option Addr} {W : World} {e : Ending} (hw : Below w.heap.size w w0) (h : MkR (MS T ty cs w0 U) Y ps k AN [] W e w') :
  ∃ (A3 : Option Addr) (c3 : Nat) (l3 : List Nd) (q3 : Int), Blk w' T ty (cs q3 (.slice A3 l3.length c3)) ∧ Made w (mkV Y ps k []) (.returned (.slice A3 l3.length c3)) w' := by
 obtain ⟨A3, c3, l3, q3, _, hm, _, hp⟩ := h
 have hold : Below w0.heap.size w0 w' := hm.old
 exact ⟨A3, c3, l3, q3, hm.1 rfl, A3, l3.length, c3, l3, rfl, hm.nr.more hw.size (Nat.le_refl _), hp, below_next hw hold⟩
theorem implFolded_any (A : Option Addr) (n c : Nat) (ps : List PN) (w : World) (hf : FineT ps) (hps : Nps w A n ps) (htab : Hid (Tab w)) :
  Calls prog 33 #[.slice A n c] w (Made w (foldedV ps)) := by
 have hl := hps.len
 have hn : n ≤ 1048576 := by rw [← hl]; exact hf.2
 have HT := hid (implTreeOk_any A n c ps w hn hps hf.1)
 unfold foldedV
 cases ht : treeB ps with
 | false =>
  rw [if_neg (by decide)]
  rw [ht] at HT
  have HC := hid (fun W (hW : Below w.heap.size w W) => implCopy_any A n c ps W hn (hps.next hW) hf.1)
  clear hps hf
  go_enter func33, ntmps33
  go_wp2_with fail
  refine HT.out.mono ?_
  rintro e w1 ⟨rfl, h1⟩
  go_wp2_with fail
  refine (HC.out _ h1).mono ?_
  rintro e w2 ⟨A3, n3, c3, l3, rfl, hN, hE, hB⟩
  have HN := hid (hN.more h1.size (Nat.le_refl _))
  have HE := hid hE
  have HB := hid (below_next h1 hB)
  clear hN hE hB h1
  go_wp2
  go_ret
  exact ⟨A3, n3, c3, l3, rfl, HN.out, HE.out, HB.out⟩
 | true =>
  rw [if_pos rfl]
  rw [ht] at HT
  obtain ⟨m, hF⟩ := treeF ht
  have hlm := hF.tree.len
  obtain rfl : n = m + 1 := by omega
  rw [show ps.length - 1 = m by omega]
  have hv := visV_root hF.tree.good hlm hF.tree.used
  have HNM := hid (fun W (hW : Below w.heap.size w W) => fdNode_any A (m + 1) c ps m hF W.heap.size W (hps.next hW) (hid (htab.out.next hW)) m (by omega) (fun _ => False) 0 none 0 [] _ (MkC.start 109 (fdCs (.slice A (m + 1) c)) W (fun q v v' => rfl) (by decide) (by decide)) (by have := hF.few; simp only [List.length_nil]; omega))
  have hm300 := hF.few
  clear hps hf hv hF
  go_enter func33, ntmps33
  go_wp2_with fail
  refine HT.out.mono ?_
  rintro e w1 ⟨rfl, h1⟩
  have HB1 := hid h1
  clear h1
  go_wp2_with fail
  refine (HNM.out _ HB1.out).mono ?_
  rintro e w2 h2
  obtain ⟨A3, c3, l3, q3, hb, hmade⟩ := MkR.made HB1.out h2
  obtain ⟨A8, c8, l8, q8, rfl, _⟩ := h2
  have t1 : w2.cell? ⟨w1.heap.size, 1, none⟩ = some (.slice A3 l3.length c3) := hb.cell 1
  have tz := hb.lt
  have HMD := hid hmade
  clear hb hmade
  go_wp2
  go_ret
  exact HMD.out
theorem implSpared_any (A : Option Addr) (n c : Nat) (ps : List PN) (w : World) (hf : FineT ps) (hps : Nps w A n ps) :
  Calls prog 34 #[.slice A n c] w (Made w (sparedV ps)) := by
 have hl := hps.len
 have hn : n ≤ 1048576 := by rw [← hl]; exact hf.2
 have hb0 : Below w.heap.size w (w.alloc (.cells #[.slice A n c] 26)) := grow_
 have HB0 := hid hb0
 have HT := hid (implTreeOk_any A n c ps _ hn (hps.next hb0) hf.1)
 have K := Blk.new w 26 #[.slice A n c]
 unfold sparedV
 cases ht : treeB ps with
 | false =>
  rw [if_neg (by decide)]
  rw [ht] at HT
  have HC := hid (fun W (hW : Below w.heap.size w W) => implCopy_any A n c ps W hn (hps.next hW) hf.1)
  clear hps hf hb0
  go_enter func34, ntmps34
  go_wp2_with fail
  refine HT.out.mono ?_
  rintro e w1 ⟨rfl, h1⟩
  have K1 := K.next h1
  have hB1 := below_next HB0.out h1
  have g0 : w1.cell? ⟨w.heap.size, 0, none⟩ = some (.slice A n c) := K1.cell 0
  have gz := K1.lt
  clear K K1 h1
  go_wp2_with fail
  refine (HC.out _ hB1).mono ?_
  rintro e w2 ⟨A3, n3, c3, l3, rfl, hN, hE, hB⟩
  have HN := hid (hN.more hB1.size (Nat.le_refl _))
  have HE := hid hE
  have HB := hid (below_next hB1 hB)
  clear hN hE hB hB1 g0 gz
  go_wp2
  go_ret
  exact ⟨A3, n3, c3, l3, rfl, HN.out, HE.out, HB.out⟩
 | true =>
  rw [if_pos rfl]
  rw [ht] at HT
  obtain ⟨m, hF⟩ := treeF ht
  have hlm := hF.tree.len
  obtain rfl : n = m + 1 := by omega
  rw [show ps.length - 1 = m by omega]
  have hv := visV_root hF.tree.good hlm hF.tree.used
  have HNM := hid (fun W (hW : Below w.heap.size w W) (hcap : W.cell? ⟨w.heap.size, 0, none⟩ = some (.slice A (m + 1) c)) => mkNodeSp_any A (m + 1) c ps W.heap.size w.heap.size W (hps.next hW) hF.tree.good (spareW ps) (spareW_fits hF.tree.good hF.par) (fun _ => rfl) (hid (cloSp_any A (m + 1) c ps hF.tree.good hF.par w.heap.size W (hps.next hW) hcap)) m (by omega) (fun _ => False) 0 none 0 [] _ (MkC.start 114 (mkCs (.slice A (m + 1) c) (.func (.func 76) #[] #[.pointer (some ⟨w.heap.size, 0, none⟩)])) W (fun q v v' => rfl) (by decide) (by decide)) (by have := hF.few; simp only [List.length_nil]; omega))
  have hm300 := hF.few
  clear hps hf hv hF hb0
  go_enter func34, ntmps34
  go_wp2_with fail
  refine HT.out.mono ?_
  rintro e w1 ⟨rfl, h1⟩
  have K1 := K.next h1
  have hB1 := below_next HB0.out h1
  have g0 : w1.cell? ⟨w.heap.size, 0, none⟩ = some (.slice A (m + 1) c) := K1.cell 0
  have gz := K1.lt
  have HB1 := hid hB1
  clear K K1 h1 hB1
  go_wp2_with fail
  refine (HNM.out _ HB1.out g0).mono ?_
  rintro e w2 h2
  obtain ⟨A3, c3, l3, q3, hb, hmade⟩ := MkR.made HB1.out h2
  obtain ⟨A8, c8, l8, q8, rfl, _⟩ := h2
  have t1 : w2.cell? ⟨w1.heap.size, 1, none⟩ = some (.slice A3 l3.length c3) := hb.cell 1
  have tz := hb.lt
  have HMD := hid hmade
  clear hb hmade g0 gz
  go_wp2
  go_ret
  exact HMD.out
end Go.Proofs.YtgaajcbklkchjaaGreatDoor

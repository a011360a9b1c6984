
/-
  Contracts: a piece as a text, of the reference (spec.ShowPiece).
-/
import Derived.Test.YtfapdhfjcnehhaaDoorShowQ
import Derived.Deep.RegionHeld3
namespace Go.Proofs.YtfapdhfjcnehhaaDoor
open Go.RowKit
set_option linter.unusedVariables false

set_option maxRecDepth 100000 in
set_option maxHeartbeats 6400000 in
theorem specShowPiece_any (m : Int) (A0 : Option Addr) (n0 c0 : Nat) (l0 : List RuleD) (A1 : Option Addr) (n1 c1 : Nat) (l1 : List ChunkD) (A2 : Option Addr) (n2 c2 : Nat) (l2 : List SpanD) (A3 : Option Addr) (n3 c3 : Nat) (l3 : List TieD) (w : World) (hl : Hid (LenP n0 l0 n1 l1 n2 l2 n3 l3)) (hr : RdP w A0 n0 l0 A1 n1 l1 A2 n2 l2 A3 n3 l3) (hn : n0 ≤ 1048576 ∧ n1 ≤ 1048576 ∧ n2 ≤ 1048576 ∧ n3 ≤ 1048576) (hs : Hid (∀ d ∈ l1, d.1.size ≤ maxLen)) (hz : Hid ((l1.map szChunk).sum ≤ 1048576)) :
    Calls Tryd.prog 35 #[.agg #[.int .i64 m, .slice A0 n0 c0, .slice A1 n1 c1, .slice A2 n2 c2, .slice A3 n3 c3]] w fun e w' => e = .returned (.string (showPieceT m l0 l1 l2 l3)) ∧ Below w.heap.size w w' := by
  have HR := Lib.hid (fun W (hW : Below w.heap.size w W) => hr.next hW)
  have HP := Lib.hid (fun (b : Bool) (hb : pieceB m l0 l1 l2 l3 = b) (W : World) (hR : RdP W A0 n0 l0 A1 n1 l1 A2 n2 l2 A3 n3 l3) => show Calls Tryd.prog 64 #[.agg #[.int .i64 m, .slice A0 n0 c0, .slice A1 n1 c1, .slice A2 n2 c2, .slice A3 n3 c3]] W fun e w' => e = .returned (.bool b) ∧ Below W.heap.size W w' by rw [← hb]; exact specPieceOk_any m A0 n0 c0 l0 A1 n1 c1 l1 A2 n2 c2 l2 A3 n3 c3 l3 W hl hR hn hs)
  have HE : Hid (showPieceT m l0 l1 l2 l3 = if pieceB m l0 l1 l2 l3 = true then ⟨(showL m l0 l1 l2 l3).toArray⟩ else ⟨#[]⟩) := rfl
  clear hr
  cases hp : pieceB m l0 l1 l2 l3 with
  | false =>
    have H := Lib.hid (HP.out _ hp)
    have HF := Lib.hid (show showPieceT m l0 l1 l2 l3 = ⟨#[]⟩ by rw [HE.out, hp]; rfl)
    clear HP HE hp
    go_enter Tryd.func35, Tryd.ntmps35
    go_wp2_with fail
    refine (H.out _ (HR.out _ (by repeat' (first | (with_reducible exact Below.refl _ _) | (with_reducible assumption) | (with_reducible refine below_drewN ?_ _) | (with_reducible refine Below.drew ?_) | (with_reducible refine Below.alloc ?_ ?_ _) | (with_reducible refine Below.setCell ?_ ?_ _) | go_size)))).mono ?_
    rintro e w2 ⟨rfl, h2⟩
    have hb := below_next1 (Below.refl _ _) h2
    go_wp2
    go_ret
    exact ⟨ret_str HF.out.symm, hb⟩
  | true =>
    have H := Lib.hid (HP.out _ hp)
    have RG := Lib.hid (right_of hp hl.out)
    have HF : Hid (showPieceT m l0 l1 l2 l3 = ⟨((headS m).data.toList ++ catK ruleS l0 n0 ++ catK (chunkS n1) l1 n1 ++ catK spanS l2 n2 ++ catK tieS l3 n3).toArray⟩) := by
      obtain ⟨e0, e1, e2, e3⟩ := hl.out
      exact Lib.hid (by rw [HE.out, if_pos hp]; unfold showL; rw [e0, e1, e2, e3])
    clear HP HE hp
    have hm := RG.out.m0
    have zm := decT_sz hm.1 hm.2
    have s0 : ¬ 9223372036854775807 < 3 + (decT m).size := by omega
    have s1 : ¬ 9223372036854775807 < 3 + (decT m).size + 1 := by omega
    go_enter Tryd.func35, Tryd.ntmps35
    go_wp2_with fail
    refine (H.out _ (HR.out _ (by repeat' (first | (with_reducible exact Below.refl _ _) | (with_reducible assumption) | (with_reducible refine below_drewN ?_ _) | (with_reducible refine Below.drew ?_) | (with_reducible refine Below.alloc ?_ ?_ _) | (with_reducible refine Below.setCell ?_ ?_ _) | go_size)))).mono ?_
    rintro e w2 ⟨rfl, h2⟩
    have hb := below_next1 (Below.refl _ _) h2
    have K := Blk.fresh h2
    have cK := K.cell
    have zK := K.lt
    clear h2
    go_wp2_with fail
    refine (specDec m _ hm).mono ?_
    rintro e w3 ⟨rfl, h3⟩
    replace K := K.next h3
    replace hb := below_next hb h3
    clear h3 cK zK
    have cK := K.cell
    have zK := K.lt
    go_wp2
    clear cK zK s0 s1
    obtain ⟨P, hP⟩ : ∃ P, P = (headS m).data.toList := ⟨_, rfl⟩
    have HPP := Lib.hid hP
    have hPl : P.length ≤ 30 := by rw [hP, ba_len]; exact headS_size hm
    have HO : Hid ((⟨#[105, 110, 32]⟩ ++ decT m ++ ⟨#[10]⟩ : ByteArray).data.toList = P) := by rw [hP]; exact Lib.hid rfl
    clear hP
    go_loopw [3, 4] (fun s i wr => ∃ (k : Nat) (out : ByteArray), k ≤ n0 ∧ i = .int .i64 k ∧ s = .string out ∧ Hid (out.data.toList = P ++ catK ruleS l0 k) ∧ Blk wr w.heap.size 52 #[.int .i64 m, .slice A0 n0 c0, .slice A1 n1 c1, .slice A2 n2 c2, .slice A3 n3 c3] ∧ Below w.heap.size w wr) (fun _ i _ => n0 - (intOf i).toNat)
    case atStart => exact ⟨0, _, Nat.zero_le _, rfl, rfl, (show _ = _ by rw [catK_zero, List.append_nil]; exact HO.out), K, hb⟩
    case round =>
    clear HO K hb
    obtain ⟨k, out, hk, rfl, rfl, HO, K, hb⟩ := hrel
    by_cases hlt : k < n0
    · obtain ⟨⟨x0, x1⟩, hd⟩ : ∃ d, l0[k]? = some d := ⟨_, List.getElem?_eq_getElem (by have := hl.out.1; omega)⟩
      obtain ⟨b, off, hA, hblt, y0, y1⟩ := rule_at (HR.out _ hb).1 hlt hd
      have hst := Lib.hid (catK_step (f := ruleS) hd)
      have hx := RG.out.r k _ hd
      have hol : out.size ≤ 1062000 := by rw [← ba_len, HO.out, List.length_append]; have := RG.out.lr hk; omega
      have hx0 : 0 ≤ x0 ∧ x0 ≤ 1000 := hx.1
      have hx1 : 0 ≤ x1 ∧ x1 ≤ 1000 := hx.2
      have zx0 := decT_sz hx0.1 hx0.2
      have zx1 := decT_sz hx1.1 hx1.2
      have s0 : ¬ 9223372036854775807 < out.size + 5 := by omega
      have s1 : ¬ 9223372036854775807 < out.size + 5 + (decT x0).size := by omega
      have s2 : ¬ 9223372036854775807 < out.size + 5 + (decT x0).size + 1 := by omega
      have s3 : ¬ 9223372036854775807 < out.size + 5 + (decT x0).size + 1 + (decT x1).size := by omega
      have s4 : ¬ 9223372036854775807 < out.size + 5 + (decT x0).size + 1 + (decT x1).size + 1 := by omega
      have hfin := Lib.hid (show (out ++ ⟨#[114, 117, 108, 101, 32]⟩ ++ decT x0 ++ ⟨#[32]⟩ ++ decT x1 ++ ⟨#[10]⟩ : ByteArray).data.toList = out.data.toList ++ (ruleS k (x0, x1)).data.toList by unfold ruleS; simp only [ba_app, List.append_assoc])
      subst hA
      have ik0 : (0 : Int) ≤ (k : Int) := by omega
      have ik1 : (k : Int) < (n0 : Int) := by omega
      have zK := K.lt
      have kf : wr.cell? ⟨w.heap.size, 1, none⟩ = some (.slice (some ⟨b, off, none⟩) n0 c0) := K.cell 1
      clear hx hd
      obtain ⟨wv, hwv⟩ : ∃ wv, wv = wr := ⟨_, rfl⟩
      subst hwv
      go_upto_region 7 with fail
      go_region_held3 (fun w' => w'.cell? ⟨w.heap.size, 1, none⟩ = some (.slice (some ⟨b, off, none⟩) n0 c0) ∧ w'.cell? ⟨b, off + k * 2, none⟩ = some (.int .i64 x0) ∧ w'.cell? ⟨b, off + k * 2 + 1, none⟩ = some (.int .i64 x1))
          (first | exact ⟨kf, y0, y1⟩ | exact ⟨uf, u0, u1⟩)
          ((go_at_call 34
            refine (specDec _ _ (by assumption)).mono ?_
            rintro e w8 ⟨rfl, h8⟩
            have q8 : Below wv.heap.size wv w8 := below_next (by repeat' (first | (with_reducible exact Below.refl _ _) | (with_reducible assumption) | (with_reducible refine below_drewN ?_ _) | (with_reducible refine Below.drew ?_) | (with_reducible refine Below.alloc ?_ ?_ _) | (with_reducible refine Below.setCell ?_ ?_ _) | go_size)) h8
            have uf := ((bcell q8).1 _ _ zK).trans kf
            have u0 := ((bcell q8).1 _ _ hblt).trans y0
            have u1 := ((bcell q8).1 _ _ hblt).trans y1))
      all_goals
        have K2 := K.next q8
        have hb2 := below_next hb q8
        go_wp2_with fail
        go_roundw
        case rel => exact ⟨k + 1, _, by omega, by go_num, rfl, (show _ = _ by rw [hfin.out, HO.out, hst.out, List.append_assoc]), K2, hb2⟩
        case measure => simp [intOf]; omega
    obtain rfl : n0 = k := by omega
    have cK := K.cell
    have zK := K.lt
    obtain ⟨P2, hP2⟩ : ∃ P2, P2 = P ++ catK ruleS l0 n0 := ⟨_, rfl⟩
    have HPP1 := Lib.hid hP2
    have hPl2 : P2.length ≤ 600 := by rw [hP2, List.length_append]; have := RG.out.lr hk; omega
    rw [← hP2] at HO
    clear hP2 hPl
    have hPl := hPl2
    clear hPl2
    obtain ⟨P, hPP⟩ : ∃ P, P = P2 := ⟨_, rfl⟩
    subst hPP
    go_wp2
    clear cK zK
    obtain ⟨wO, hwO⟩ : ∃ wO, wO = wr := ⟨_, rfl⟩
    subst hwO
    go_loopw [3, 5] (fun s i wr => ∃ (k : Nat) (out : ByteArray), k ≤ n1 ∧ i = .int .i64 k ∧ s = .string out ∧ Hid (out.data.toList = P ++ catK (chunkS n1) l1 k) ∧ Blk wr w.heap.size 52 #[.int .i64 m, .slice A0 n0 c0, .slice A1 n1 c1, .slice A2 n2 c2, .slice A3 n3 c3] ∧ Below w.heap.size w wr) (fun _ i _ => n1 - (intOf i).toNat)
    case atStart => exact ⟨0, _, Nat.zero_le _, rfl, rfl, (show _ = _ by rw [catK_zero, List.append_nil]; exact HO.out), K, hb⟩
    case round =>
    clear HO K hb
    obtain ⟨k, out, hk, rfl, rfl, HO, K, hb⟩ := hrel
    by_cases hlt : k < n1
    · obtain ⟨⟨x0, x1, x2, x3, x4⟩, hd⟩ : ∃ d, l1[k]? = some d := ⟨_, List.getElem?_eq_getElem (by have := hl.out.2.1; omega)⟩
      obtain ⟨b, off, hA, hblt, y0, y1, y2, y3, y4⟩ := chunk_at (HR.out _ hb).2.1 hlt hd
      have hst := Lib.hid (catK_step (f := chunkS n1) hd)
      have HX := Lib.hid (RG.out.c k _ hd)
      have hxl : x0.size ≤ 1048576 := by
        have h1 := mem_le_sum szChunk (List.mem_of_getElem? hd)
        have h2 := hz.out
        have e : szChunk (x0, x1, x2, x3, x4) = x0.size := rfl
        omega
      have hol : out.size ≤ 1056000 := by rw [← ba_len, HO.out, List.length_append]; have := RG.out.lc hz.out hk; omega
      have t0 : ¬ 9223372036854775807 < out.size + x0.size := by omega
      subst hA
      have cK := K.cell
      have zK := K.lt
      have hzz := hb.size
      clear hd
      by_cases hlast : k + 1 < n1
      · have hq : (k : Int) + 1 < (n1 : Int) := by omega
        obtain ⟨p1, p2, p4⟩ := HX.out hlast
        have hx1 : 0 ≤ x1 ∧ x1 ≤ 1000 := p1
        have hx2 : 0 ≤ x2 ∧ x2 ≤ 1000 := p2
        have hx4 : 0 ≤ x4 ∧ x4 ≤ 1000 := p4
        have zx1 := decT_sz hx1.1 hx1.2
        have zx2 := decT_sz hx2.1 hx2.2
        have zx4 := decT_sz hx4.1 hx4.2
        have s0 : ¬ 9223372036854775807 < out.size + x0.size + 2 := by omega
        have s1 : ¬ 9223372036854775807 < out.size + x0.size + 2 + (decT x1).size := by omega
        have s2 : ¬ 9223372036854775807 < out.size + x0.size + 2 + (decT x1).size + 1 := by omega
        have s3 : ¬ 9223372036854775807 < out.size + x0.size + 2 + (decT x1).size + 1 + (decT x2).size := by omega
        have s4 : ¬ 9223372036854775807 < out.size + x0.size + 2 + (decT x1).size + 1 + (decT x2).size + 1 := by omega
        have s5 : ¬ 9223372036854775807 < out.size + x0.size + 2 + (decT x1).size + 1 + (decT x2).size + 1 + (decT x4).size := by omega
        have s6 : ¬ 9223372036854775807 < out.size + x0.size + 2 + (decT x1).size + 1 + (decT x2).size + 1 + (decT x4).size + 1 := by omega
        have s7 : ¬ 9223372036854775807 < out.size + x0.size + 2 + (decT x1).size + 1 + (decT x2).size + 1 + (decT x4).size + 1 + 1 := by omega
        have hfin := Lib.hid (fun (h : x3 = true) => show (out ++ x0 ++ ⟨#[32, 124]⟩ ++ decT x1 ++ ⟨#[62]⟩ ++ decT x2 ++ ⟨#[43]⟩ ++ decT x4 ++ ⟨#[95]⟩ ++ ⟨#[10]⟩ : ByteArray).data.toList = out.data.toList ++ (chunkS n1 k (x0, x1, x2, x3, x4)).data.toList by unfold chunkS; rw [if_pos hlast]; unfold splitT; rw [if_pos h]; unfold splitS; simp only [ba_app, List.append_assoc])
        have hfin2 := Lib.hid (fun (h : x3 = false) => show (out ++ x0 ++ ⟨#[32, 124]⟩ ++ decT x1 ++ ⟨#[62]⟩ ++ decT x2 ++ ⟨#[43]⟩ ++ decT x4 ++ ⟨#[10]⟩ : ByteArray).data.toList = out.data.toList ++ (chunkS n1 k (x0, x1, x2, x3, x4)).data.toList by unfold chunkS; rw [if_pos hlast]; unfold splitT; rw [if_neg (by rw [h]; exact Bool.false_ne_true)]; unfold splitS; simp only [ba_app, List.append_assoc])
        clear p1 p2 p4
        go_upto_region 14 with fail
        obtain ⟨wv, hwv⟩ : ∃ wv, wv = wr.alloc (.cells #[.int .i64 x1, .int .i64 x2, .bool x3, .int .i64 x4] 94) := ⟨_, rfl⟩
        rw [← hwv]
        have V : Blk wv wr.heap.size 94 #[.int .i64 x1, .int .i64 x2, .bool x3, .int .i64 x4] := by rw [hwv]; exact Blk.new _ _ _
        have hv : Below wr.heap.size wr wv := by rw [hwv]; exact (by repeat' (first | (with_reducible exact Below.refl _ _) | (with_reducible assumption) | (with_reducible refine below_drewN ?_ _) | (with_reducible refine Below.drew ?_) | (with_reducible refine Below.alloc ?_ ?_ _) | (with_reducible refine Below.setCell ?_ ?_ _) | go_size))
        clear hwv
        have v0 : wv.cell? ⟨wr.heap.size, 0, none⟩ = some (.int .i64 x1) := V.cell 0
        have v1 : wv.cell? ⟨wr.heap.size, 1, none⟩ = some (.int .i64 x2) := V.cell 1
        have v3 : wv.cell? ⟨wr.heap.size, 3, none⟩ = some (.int .i64 x4) := V.cell 3
        have zV := V.lt
        clear y0 y1 y2 y3 y4 cK zK
        go_cut [3] (fun x wx => x = .string (out ++ x0 ++ ⟨#[32, 124]⟩ ++ decT x1 ++ ⟨#[62]⟩ ++ decT x2 ++ ⟨#[43]⟩ ++ decT x4) ∧ Below wv.heap.size wv wx)
        case first =>
          go_region_held3 (fun w' => w'.cell? ⟨wr.heap.size, 0, none⟩ = some (.int .i64 x1) ∧ w'.cell? ⟨wr.heap.size, 1, none⟩ = some (.int .i64 x2) ∧ w'.cell? ⟨wr.heap.size, 3, none⟩ = some (.int .i64 x4))
            (first | exact ⟨v0, v1, v3⟩ | exact ⟨u0, u1, u3⟩)
            ((go_at_call 34
              refine (specDec _ _ (by assumption)).mono ?_
              rintro e w8 ⟨rfl, h8⟩
              have q8 : Below wv.heap.size wv w8 := below_next (by repeat' (first | (with_reducible exact Below.refl _ _) | (with_reducible assumption) | (with_reducible refine below_drewN ?_ _) | (with_reducible refine Below.drew ?_) | (with_reducible refine Below.alloc ?_ ?_ _) | (with_reducible refine Below.setCell ?_ ?_ _) | go_size)) h8
              have u0 := ((bcell q8).1 _ _ zV).trans v0
              have u1 := ((bcell q8).1 _ _ zV).trans v1
              have u3 := ((bcell q8).1 _ _ zV).trans v3))
          all_goals (go_wp2_with fail; go_meet; exact ⟨rfl, q8⟩)
        case rest =>
          obtain ⟨rfl, h2⟩ := hcut
          have K2 := (K.next hv).next h2
          have hb2 := below_next (below_next hb hv) h2
          have V2 := V.next h2
          have cV := V2.cell
          have zV2 := V2.lt
          clear v0 v1 v3 zV V K hb h2 hv
          cases x3 with
          | true =>
            have hf := Lib.hid (hfin.out rfl)
            go_wp2_with fail
            go_roundw
            case rel => exact ⟨k + 1, _, by omega, by go_num, rfl, (show _ = _ by rw [hf.out, HO.out, hst.out, List.append_assoc]), K2, hb2⟩
            case measure => simp [intOf]; omega
          | false =>
            have hf := Lib.hid (hfin2.out rfl)
            go_wp2_with fail
            go_roundw
            case rel => exact ⟨k + 1, _, by omega, by go_num, rfl, (show _ = _ by rw [hf.out, HO.out, hst.out, List.append_assoc]), K2, hb2⟩
            case measure => simp [intOf]; omega
      · have hq : ¬ ((k : Int) + 1 < (n1 : Int)) := by omega
        have t1 : ¬ 9223372036854775807 < out.size + x0.size + 1 := by omega
        have hf := Lib.hid (show (out ++ x0 ++ ⟨#[10]⟩ : ByteArray).data.toList = out.data.toList ++ (chunkS n1 k (x0, x1, x2, x3, x4)).data.toList by unfold chunkS; rw [if_neg hlast]; simp only [ba_app, List.append_assoc])
        go_wp2_with fail
        go_roundw
        case rel => exact ⟨k + 1, _, by omega, by go_num, rfl, (show _ = _ by rw [hf.out, HO.out, hst.out, List.append_assoc]), K, hb⟩
        case measure => simp [intOf]; omega
    obtain rfl : n1 = k := by omega
    have cK := K.cell
    have zK := K.lt
    obtain ⟨P2, hP2⟩ : ∃ P2, P2 = P ++ catK (chunkS n1) l1 n1 := ⟨_, rfl⟩
    have HPP2 := Lib.hid hP2
    have hPl2 : P2.length ≤ 1056000 := by rw [hP2, List.length_append]; have := RG.out.lc hz.out hk; omega
    rw [← hP2] at HO
    clear hP2 hPl
    have hPl := hPl2
    clear hPl2
    obtain ⟨P, hPP⟩ : ∃ P, P = P2 := ⟨_, rfl⟩
    subst hPP
    go_wp2
    clear cK zK
    obtain ⟨wP, hwO⟩ : ∃ wO, wO = wr := ⟨_, rfl⟩
    subst hwO
    go_loopw [3, 7] (fun s i wr => ∃ (k : Nat) (out : ByteArray), k ≤ n2 ∧ i = .int .i64 k ∧ s = .string out ∧ Hid (out.data.toList = P ++ catK spanS l2 k) ∧ Blk wr w.heap.size 52 #[.int .i64 m, .slice A0 n0 c0, .slice A1 n1 c1, .slice A2 n2 c2, .slice A3 n3 c3] ∧ Below w.heap.size w wr) (fun _ i _ => n2 - (intOf i).toNat)
    case atStart => exact ⟨0, _, Nat.zero_le _, rfl, rfl, (show _ = _ by rw [catK_zero, List.append_nil]; exact HO.out), K, hb⟩
    case round =>
    clear HO K hb
    obtain ⟨k, out, hk, rfl, rfl, HO, K, hb⟩ := hrel
    by_cases hlt : k < n2
    · obtain ⟨⟨x0, x1, x2⟩, hd⟩ : ∃ d, l2[k]? = some d := ⟨_, List.getElem?_eq_getElem (by have := hl.out.2.2.1; omega)⟩
      obtain ⟨b, off, hA, hblt, y0, y1, y2⟩ := span_at (HR.out _ hb).2.2.1 hlt hd
      have hst := Lib.hid (catK_step (f := spanS) hd)
      have hx := RG.out.s k _ hd
      have hol : out.size ≤ 1062000 := by rw [← ba_len, HO.out, List.length_append]; have := RG.out.ls hk; omega
      have hx0 : 0 ≤ x0 ∧ x0 ≤ 1000 := hx.1
      have hx1 : 0 ≤ x1 ∧ x1 ≤ 1000 := hx.2.1
      have hx2 : 0 ≤ x2 ∧ x2 ≤ 1000 := hx.2.2
      have zx0 := decT_sz hx0.1 hx0.2
      have zx1 := decT_sz hx1.1 hx1.2
      have zx2 := decT_sz hx2.1 hx2.2
      have s0 : ¬ 9223372036854775807 < out.size + 5 := by omega
      have s1 : ¬ 9223372036854775807 < out.size + 5 + (decT x0).size := by omega
      have s2 : ¬ 9223372036854775807 < out.size + 5 + (decT x0).size + 1 := by omega
      have s3 : ¬ 9223372036854775807 < out.size + 5 + (decT x0).size + 1 + (decT x1).size := by omega
      have s4 : ¬ 9223372036854775807 < out.size + 5 + (decT x0).size + 1 + (decT x1).size + 1 := by omega
      have s5 : ¬ 9223372036854775807 < out.size + 5 + (decT x0).size + 1 + (decT x1).size + 1 + (decT x2).size := by omega
      have s6 : ¬ 9223372036854775807 < out.size + 5 + (decT x0).size + 1 + (decT x1).size + 1 + (decT x2).size + 1 := by omega
      have hfin := Lib.hid (show (out ++ ⟨#[115, 112, 97, 110, 32]⟩ ++ decT x0 ++ ⟨#[32]⟩ ++ decT x1 ++ ⟨#[32]⟩ ++ decT x2 ++ ⟨#[10]⟩ : ByteArray).data.toList = out.data.toList ++ (spanS k (x0, x1, x2)).data.toList by unfold spanS; simp only [ba_app, List.append_assoc])
      subst hA
      have ik0 : (0 : Int) ≤ (k : Int) := by omega
      have ik1 : (k : Int) < (n2 : Int) := by omega
      have zK := K.lt
      have kf : wr.cell? ⟨w.heap.size, 3, none⟩ = some (.slice (some ⟨b, off, none⟩) n2 c2) := K.cell 3
      clear hx hd
      obtain ⟨wv, hwv⟩ : ∃ wv, wv = wr := ⟨_, rfl⟩
      subst hwv
      go_upto_region 21 with fail
      go_region_held3 (fun w' => w'.cell? ⟨w.heap.size, 3, none⟩ = some (.slice (some ⟨b, off, none⟩) n2 c2) ∧ w'.cell? ⟨b, off + k * 3, none⟩ = some (.int .i64 x0) ∧ w'.cell? ⟨b, off + k * 3 + 1, none⟩ = some (.int .i64 x1) ∧ w'.cell? ⟨b, off + k * 3 + 2, none⟩ = some (.int .i64 x2))
          (first | exact ⟨kf, y0, y1, y2⟩ | exact ⟨uf, u0, u1, u2⟩)
          ((go_at_call 34
            refine (specDec _ _ (by assumption)).mono ?_
            rintro e w8 ⟨rfl, h8⟩
            have q8 : Below wv.heap.size wv w8 := below_next (by repeat' (first | (with_reducible exact Below.refl _ _) | (with_reducible assumption) | (with_reducible refine below_drewN ?_ _) | (with_reducible refine Below.drew ?_) | (with_reducible refine Below.alloc ?_ ?_ _) | (with_reducible refine Below.setCell ?_ ?_ _) | go_size)) h8
            have uf := ((bcell q8).1 _ _ zK).trans kf
            have u0 := ((bcell q8).1 _ _ hblt).trans y0
            have u1 := ((bcell q8).1 _ _ hblt).trans y1
            have u2 := ((bcell q8).1 _ _ hblt).trans y2))
      all_goals
        have K2 := K.next q8
        have hb2 := below_next hb q8
        go_wp2_with fail
        go_roundw
        case rel => exact ⟨k + 1, _, by omega, by go_num, rfl, (show _ = _ by rw [hfin.out, HO.out, hst.out, List.append_assoc]), K2, hb2⟩
        case measure => simp [intOf]; omega
    obtain rfl : n2 = k := by omega
    have cK := K.cell
    have zK := K.lt
    obtain ⟨P2, hP2⟩ : ∃ P2, P2 = P ++ catK spanS l2 n2 := ⟨_, rfl⟩
    have HPP3 := Lib.hid hP2
    have hPl2 : P2.length ≤ 1060000 := by rw [hP2, List.length_append]; have := RG.out.ls hk; omega
    rw [← hP2] at HO
    clear hP2 hPl
    have hPl := hPl2
    clear hPl2
    obtain ⟨P, hPP⟩ : ∃ P, P = P2 := ⟨_, rfl⟩
    subst hPP
    go_wp2
    clear cK zK
    obtain ⟨wQ, hwO⟩ : ∃ wO, wO = wr := ⟨_, rfl⟩
    subst hwO
    go_loopw [3, 8] (fun s i wr => ∃ (k : Nat) (out : ByteArray), k ≤ n3 ∧ i = .int .i64 k ∧ s = .string out ∧ Hid (out.data.toList = P ++ catK tieS l3 k) ∧ Blk wr w.heap.size 52 #[.int .i64 m, .slice A0 n0 c0, .slice A1 n1 c1, .slice A2 n2 c2, .slice A3 n3 c3] ∧ Below w.heap.size w wr) (fun _ i _ => n3 - (intOf i).toNat)
    case atStart => exact ⟨0, _, Nat.zero_le _, rfl, rfl, (show _ = _ by rw [catK_zero, List.append_nil]; exact HO.out), K, hb⟩
    case round =>
    clear HO K hb
    obtain ⟨k, out, hk, rfl, rfl, HO, K, hb⟩ := hrel
    by_cases hlt : k < n3
    · obtain ⟨⟨x0, x1⟩, hd⟩ : ∃ d, l3[k]? = some d := ⟨_, List.getElem?_eq_getElem (by have := hl.out.2.2.2; omega)⟩
      obtain ⟨b, off, hA, hblt, y0, y1⟩ := tie_at (HR.out _ hb).2.2.2 hlt hd
      have hst := Lib.hid (catK_step (f := tieS) hd)
      have hx := RG.out.t k _ hd
      have hol : out.size ≤ 1062000 := by rw [← ba_len, HO.out, List.length_append]; have := RG.out.lt hk; omega
      have hx0 : 0 ≤ x0 ∧ x0 ≤ 1000 := hx.1
      have hx1 : 0 ≤ x1 ∧ x1 ≤ 1000 := hx.2
      have zx0 := decT_sz hx0.1 hx0.2
      have zx1 := decT_sz hx1.1 hx1.2
      have s0 : ¬ 9223372036854775807 < out.size + 4 := by omega
      have s1 : ¬ 9223372036854775807 < out.size + 4 + (decT x0).size := by omega
      have s2 : ¬ 9223372036854775807 < out.size + 4 + (decT x0).size + 1 := by omega
      have s3 : ¬ 9223372036854775807 < out.size + 4 + (decT x0).size + 1 + (decT x1).size := by omega
      have s4 : ¬ 9223372036854775807 < out.size + 4 + (decT x0).size + 1 + (decT x1).size + 1 := by omega
      have hfin := Lib.hid (show (out ++ ⟨#[116, 105, 101, 32]⟩ ++ decT x0 ++ ⟨#[32]⟩ ++ decT x1 ++ ⟨#[10]⟩ : ByteArray).data.toList = out.data.toList ++ (tieS k (x0, x1)).data.toList by unfold tieS; simp only [ba_app, List.append_assoc])
      subst hA
      have ik0 : (0 : Int) ≤ (k : Int) := by omega
      have ik1 : (k : Int) < (n3 : Int) := by omega
      have zK := K.lt
      have kf : wr.cell? ⟨w.heap.size, 4, none⟩ = some (.slice (some ⟨b, off, none⟩) n3 c3) := K.cell 4
      clear hx hd
      obtain ⟨wv, hwv⟩ : ∃ wv, wv = wr := ⟨_, rfl⟩
      subst hwv
      go_upto_region 25 with fail
      go_region_held3 (fun w' => w'.cell? ⟨w.heap.size, 4, none⟩ = some (.slice (some ⟨b, off, none⟩) n3 c3) ∧ w'.cell? ⟨b, off + k * 2, none⟩ = some (.int .i64 x0) ∧ w'.cell? ⟨b, off + k * 2 + 1, none⟩ = some (.int .i64 x1))
          (first | exact ⟨kf, y0, y1⟩ | exact ⟨uf, u0, u1⟩)
          ((go_at_call 34
            refine (specDec _ _ (by assumption)).mono ?_
            rintro e w8 ⟨rfl, h8⟩
            have q8 : Below wv.heap.size wv w8 := below_next (by repeat' (first | (with_reducible exact Below.refl _ _) | (with_reducible assumption) | (with_reducible refine below_drewN ?_ _) | (with_reducible refine Below.drew ?_) | (with_reducible refine Below.alloc ?_ ?_ _) | (with_reducible refine Below.setCell ?_ ?_ _) | go_size)) h8
            have uf := ((bcell q8).1 _ _ zK).trans kf
            have u0 := ((bcell q8).1 _ _ hblt).trans y0
            have u1 := ((bcell q8).1 _ _ hblt).trans y1))
      all_goals
        have K2 := K.next q8
        have hb2 := below_next hb q8
        go_wp2_with fail
        go_roundw
        case rel => exact ⟨k + 1, _, by omega, by go_num, rfl, (show _ = _ by rw [hfin.out, HO.out, hst.out, List.append_assoc]), K2, hb2⟩
        case measure => simp [intOf]; omega
    obtain rfl : n3 = k := by omega
    have cK := K.cell
    have zK := K.lt
    obtain ⟨P2, hP2⟩ : ∃ P2, P2 = P ++ catK tieS l3 n3 := ⟨_, rfl⟩
    have HPP4 := Lib.hid hP2
    have hPl2 : P2.length ≤ 1064000 := by rw [hP2, List.length_append]; have := RG.out.lt hk; omega
    rw [← hP2] at HO
    clear hP2 hPl
    have hPl := hPl2
    clear hPl2
    obtain ⟨P, hPP⟩ : ∃ P, P = P2 := ⟨_, rfl⟩
    subst hPP
    go_wp2
    clear cK zK
    go_ret
    exact ⟨ret_str (ba_ext (by rw [HO.out, HF.out, HPP4.out, HPP3.out, HPP2.out, HPP1.out, HPP.out])), hb⟩
end Go.Proofs.YtfapdhfjcnehhaaDoor

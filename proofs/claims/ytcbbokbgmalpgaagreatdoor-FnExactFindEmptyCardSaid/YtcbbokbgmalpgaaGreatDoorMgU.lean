/-
  Put together by program (shake.py): FeA, ParZ, FeB, FeC, FeE, FeF, FeG.
-/
import Derived.Test.YtcbbokbgmalpgaaGreatDoorMgT
import Derived.Test.YtcbbokbgmalpgaaGreatDoorMgI
import Derived.Test.YtcbbokbgmalpgaaGreatDoorMgJ
set_option maxRecDepth 100000
set_option maxHeartbeats 25600000
set_option linter.unusedVariables false
set_option linter.unusedSimpArgs false
namespace Go.Proofs.YtcbbokbgmalpgaaGreatDoor
open Go.RowKit
open Go.Lib (hid)
def emptyB (p : PN) : Bool := (p.kind == 18) && ((p.kids.length : Int) == 0)
def emptyTo (t : ByteArray) (ps : List PN) : Nat → List FindingD
 | 0 => []
 | k + 1 => emptyTo t ps k ++ (match ps[k]? with | none => [] | some p => if emptyB p = true then [(4, lineN t (firstV ps k), noT)] else [])
def findEmpty (t : ByteArray) : List FindingD := match readP t with | none => [] | some ps => emptyTo t ps ps.length
theorem emptyTo_yes {t : ByteArray} {ps : List PN} {k : Nat} {p : PN} (h : ps[k]? = some p) (hp : emptyB p = true) : emptyTo t ps (k + 1) = emptyTo t ps k ++ [(4, lineN t (firstV ps k), noT)] := by
 rw [emptyTo, h]; simp only [hp, if_true]
theorem emptyTo_no {t : ByteArray} {ps : List PN} {k : Nat} {p : PN} (h : ps[k]? = some p) (hp : emptyB p = false) : emptyTo t ps (k + 1) = emptyTo t ps k := by
 rw [emptyTo, h]; simp [hp]
theorem emptyTo_len (t : ByteArray) (ps : List PN) (k : Nat) : (emptyTo t ps k).length ≤ k := by
 induction k with
 | zero => simp [emptyTo]
 | succ k ih =>
  rw [emptyTo, List.length_append]
  split
  ·simp; omega
  ·split <;> simp <;> omega
theorem findEmpty_len (t : ByteArray) : (findEmpty t).length ≤ 300 := by
 unfold findEmpty
 split
 ·simp
 ·next ps h => exact Nat.le_trans (emptyTo_len _ _ _) (readP_some h).2.1
theorem SRd.one {t : ByteArray} {w w' : World} {e : Ending} (h : SRd t w e w') : ∃ (A : Option Addr) (n c : Nat) (p : Int) (ok : Bool) (ps : List PN), e = .returned (.tuple #[.slice A n c, .int .i64 p, .bool ok]) ∧ NpsM w' w.heap.size A n c ps ∧ PNs ps ∧ n ≤ 300 ∧ findEmpty t = emptyTo t ps n ∧ Below w.heap.size w w' := by
 obtain ⟨hb, h⟩ := h
 unfold findEmpty
 revert h
 rcases hr : readP t with _ | ps
 ·rintro ⟨g, p, rfl, hn⟩
  exact ⟨some ⟨g, 0, none⟩, 0, 0, p, false, [], rfl, hn, (fun p hp => by cases hp), Nat.zero_le _, rfl, hb⟩
 ·rintro ⟨A, c, rfl, hn⟩
  exact ⟨A, ps.length, c, 0, true, ps, rfl, hn, (readP_some hr).2.2, (readP_some hr).2.1, rfl, hb⟩
theorem specFindEmpty_any (t : ByteArray) (w : World) (ht : t.size ≤ 1048576) : Calls Tryz.prog 18 #[.string t] w (FindM w (findEmpty t)) := by
 obtain ⟨i0, hi, hz0, hz1, hz2⟩ := info_parts infoFindingI
 have HII := hid (And.intro hi (And.intro hz0 (And.intro hz1 hz2)))
 have HR := hid (fun W => (specRead_any t W ht).mono fun _ _ h => SRd.one h)
 have HLn := hid (fun (A : Option Addr) (n c : Nat) (ps : List PN) (k : Nat) (W : World) h1 h2 h3 => specLine_any t A n c ps k W ht h1 h2 h3)
 unfold FindM
 obtain ⟨fe, hfe⟩ : ∃ fe, findEmpty t = fe := ⟨_, rfl⟩
 rw [hfe] at HR
 rw [hfe]
 clear hi hz0 hz1 hz2 hfe
 go_enter Tryz.func18, Tryz.ntmps18
 go_wp2_with fail
 refine (HR.out _).mono ?_
 rintro e w1 ⟨AN, n, cN, p, ok, ps, rfl, hnps, hpn, hn3, hff, h1⟩
 have HN1 := hid (hnps.more (B' := w.heap.size) (by simp))
 have HPN := hid hpn
 have HF := hid hff
 have HL := hid hnps.nps.len
 have M0 := hid (show Mine w1 w.heap.size 50 3 (some ⟨w.heap.size, 0, none⟩) (emptyTo t ps 0).length 0 ((emptyTo t ps 0).flatMap findingCells) from Mine.next (own_empty w 50 3) h1)
 have hb := below_next1 (Below.refl _ _) h1
 clear h1 hnps hpn hff HR
 go_wp2
 go_loopw [3, 7] (fun o i wr => ∃ (k : Nat) (A : Option Addr) (c : Nat), k ≤ n ∧ i = .int .i64 k ∧ o = .slice A (emptyTo t ps k).length c ∧ Hid (Mine wr w.heap.size 50 3 A (emptyTo t ps k).length c ((emptyTo t ps k).flatMap findingCells)) ∧ Hid (NpsM wr w.heap.size AN n cN ps) ∧ Below w.heap.size w wr) (fun _ i _ => n - (intOf i).toNat)
 case atStart => exact ⟨0, _, _, Nat.zero_le _, rfl, rfl, M0, HN1, hb⟩
 case round =>
  clear M0 hb HN1
  obtain ⟨k, A, c, hk, rfl, rfl, HM, HN, hb⟩ := hrel
  have hlen := emptyTo_len t ps k
  obtain ⟨acc, hacc⟩ : ∃ acc, emptyTo t ps k = acc := ⟨_, rfl⟩
  rw [hacc] at HM hlen
  rw [hacc]
  have HA := hid hacc
  obtain ⟨m2, hm2⟩ : ∃ m2, acc.length = m2 := ⟨_, rfl⟩
  rw [hm2] at HM hlen
  rw [hm2]
  have Hm := hid hm2
  clear hacc hm2
  by_cases hkn : k < n
  ·obtain ⟨p1, hp⟩ := HN.out.nps.get hkn
   obtain ⟨b', off, A', c', rfl, hblt, x0, x1, x2, x3, _, _⟩ := HN.out.nps.atc hkn hp
   have hi1 : (k : Int) < (n : Int) := by omega
   by_cases hem : emptyB p1 = true
   ·have hst := hid (emptyTo_yes (t := t) hp hem)
    unfold emptyB at hem
    rw [Bool.and_eq_true] at hem
    obtain ⟨g1, g2⟩ := hem
    rw [HA.out] at hst
    have H8 := hid (fun W h2 => HLn.out (some ⟨b', off, none⟩) n cN ps k W (by omega) h2 HPN)
    revert hst H8
    generalize lineN t (firstV ps k) = D
    intro hst H8
    clear hp x1 x3
    go_wp2_with fail
    refine (H8.out _ HN.out.nps).mono ?_
    rintro e w2 ⟨rfl, h2⟩
    have HM2 := hid (HM.out.next h2)
    have HN2 := hid (HN.out.next h2)
    have hb2 := below_next hb h2
    clear HM HN hb h2 x0 x2 hblt
    go_wp2_with (at_builtin; (refine wpList_append_own _ rfl (.tmp 36) (.tmp 42) _ rfl w.heap.size 50 i0 (.agg #[.int .i64 0, .int .i64 0, .string ⟨#[]⟩]) 3 32 Tryz.underlying34 HII.out.1 HII.out.2.1 HII.out.2.2.1 HII.out.2.2.2 rfl (by decide) _ _ _ rfl (Mine.alloc HM2.out _) ⟨w2.heap.size, 0, none⟩ 1 1 [.int .i64 4, .int .i64 D, .string ⟨#[]⟩] rfl rfl (cell_three_new _ _ _ _ _) (fun x hx => by simp at hx; rcases hx with rfl | rfl | rfl <;> rfl) (by unfold maxLen; omega) (by omega) (by have := hb2.size; simp; omega) ?_); intro v' w3 hown3 hg3 hnil3)
    have hb3 := hb2.alloc hb2.size (.cells #[.int .i64 4, .int .i64 D, .string ⟨#[]⟩] 50)
    have hb4 : Below w.heap.size w w3 := hb3.grown hg3 hb3.size (fun g hg => (Mine.blk HM2.out ((ownBlk A m2 c).symm.trans hg)).1)
    have HN4 := hid ((HN2.out.next ((Below.refl _ _).alloc (Nat.le_refl _) (.cells #[.int .i64 4, .int .i64 D, .string ⟨#[]⟩] 50))).grown hg3 (fun g hg => by
     obtain ⟨cs, hk⟩ := mine_blk' (Mine.alloc HM2.out (.cells #[.int .i64 4, .int .i64 D, .string ⟨#[]⟩] 50)) ((ownBlk A m2 c).symm.trans hg)
     exact ⟨_, cs, hk, by decide, by decide⟩))
    obtain ⟨A3, c3, rfl, m3⟩ := Mine.of hown3
    rw [← snoc_find] at m3
    have HM3 := hid m3
    clear hown3 m3 hg3 hnil3 hb3
    go_wp2
    go_roundw
    case rel => exact ⟨k + 1, A3, c3, by omega, by go_num, by rw [hst.out, List.length_append, Hm.out]; rfl, (by rw [hst.out, List.length_append, Hm.out]; exact HM3.out), HN4, hb4⟩
    case measure => simp [intOf]; omega
   ·have hem' : emptyB p1 = false := by rcases Bool.eq_false_or_eq_true (emptyB p1) with h | h; exact absurd h hem; exact h
    have hst := hid (emptyTo_no (t := t) hp hem')
    rw [HA.out] at hst
    unfold emptyB at hem'
    clear hp hem x1 x3
    rcases Bool.eq_false_or_eq_true (p1.kind == 18) with g1 | g1
    ·rw [g1, Bool.true_and] at hem'
     go_wp2
     go_roundw
     case rel => exact ⟨k + 1, A, c, by omega, by go_num, by rw [hst.out, Hm.out], (by rw [hst.out, Hm.out]; exact HM), HN, hb⟩
     case measure => simp [intOf]; omega
    ·clear hem'
     go_wp2
     go_roundw
     case rel => exact ⟨k + 1, A, c, by omega, by go_num, by rw [hst.out, Hm.out], (by rw [hst.out, Hm.out]; exact HM), HN, hb⟩
     case measure => simp [intOf]; omega
  ·obtain rfl : k = n := by omega
   go_wp2
   go_ret
   rw [HF.out, HA.out]
   exact ⟨A, c, by rw [Hm.out]; rfl, (by rw [Hm.out]; exact HM.out), hb⟩
theorem RdI.npsM {R : RC} {d : Nat} {s : PS} {row : Option Nat} {w : World} (hi : R.imp = true) (h : RdI R d (some s) row w) :
  ∃ A c, w.cell? ⟨R.T, 4, none⟩ = some (.bool false) ∧ w.cell? ⟨R.T, 5, none⟩ = some (.slice A s.nodes.length c) ∧ (∀ i, w.frozen? ⟨R.T, i, none⟩ = false) ∧ R.T < w.heap.size ∧ NpsM w R.w0.heap.size A s.nodes.length c s.nodes := by
 obtain ⟨a, b, AN, cN, l, hc, ⟨rfl, _, hns⟩, _⟩ := h
 obtain ⟨c0, c2, c3, c4, c5, cf, cz⟩ := hc.ci hi
 have hl : s.nodes.length = l.length := by rw [hns, List.length_map]
 refine ⟨AN, cN, c4, by rw [hl]; exact c5, cf, cz, l, ?_, hl.symm, fun x hx => ⟨⟨(hc.2.2.1.1 x hx).1.1, fun _ _ h => h⟩, (hc.2.2.1.1 x hx).2⟩, hns.symm⟩
 rw [hl]; exact hc.2.1
def RdRM (t : ByteArray) (w : World) (e : Ending) (w' : World) : Prop :=
 ∃ (T : Nat) (p : Int), e = .returned (.tuple #[.pointer (some ⟨T, 0, none⟩), .int .i64 p]) ∧ w'.cell? ⟨T, 4, none⟩ = some (.bool (readP t).isNone) ∧ T < w'.heap.size ∧ Below w.heap.size w w' ∧ ∀ ps, readP t = some ps → p = 0 ∧ ∃ A c, w'.cell? ⟨T, 5, none⟩ = some (.slice A ps.length c) ∧ NpsM w' w.heap.size A ps.length c ps
theorem readSourceM_any (t : ByteArray) (w : World) (ht : t.size ≤ 1048576) : Calls Tryz.prog 158 #[.string t] w (RdRM t w) := by
 have HS := hid (implSignsOf_any t w ht)
 have hsl := signsP_len t
 have HN1 := hid (fun h => readP_no (t := t) h)
 have HN2 := hid (fun h1 h2 => readP_none (t := t) h1 h2)
 have HN3 := hid (fun h1 (s : PS) h2 => readP_ok (t := t) h1 (s := s) h2)
 have HSm := hid (fun (s : PS) h => read_small (t := t) (s := s) h)
 unfold RdRM
 unfold SignsM at HS
 generalize readP t = RP at HN1 HN2 HN3 ⊢
 generalize signsP t = Z at HS hsl HN1 HN2 HN3 HSm
 obtain ⟨sg, pl, ok⟩ := Z
 dsimp only at HS hsl HN1 HN2 HN3 HSm
 obtain ⟨n, hn⟩ : ∃ n, sg.length = n := ⟨_, rfl⟩
 rw [hn] at HS hsl
 go_enter Tryz.func158, Tryz.ntmps158
 go_wp2_with fail
 refine HS.out.mono ?_
 rintro e w1 ⟨A, c, rfl, m1, h1⟩
 have hsz1 := h1.size
 have HM1 := hid m1
 have HB1 := hid h1
 clear m1 h1 HS
 cases ok with
 | false =>
  have hr := HN1.out (by trivial)
  subst hr
  have K := Blk.new w1 166 #[.slice A n c, .int .i64 t.size, .int .i64 0, .int .i64 0, .bool true, .slice none 0 0, .slice none 0 0]
  have k4 := K.q4
  have kz := K.lt
  have HKb := hid (HB1.out.alloc hsz1 (.cells #[.slice A n c, .int .i64 t.size, .int .i64 0, .int .i64 0, .bool true, .slice none 0 0, .slice none 0 0] 166))
  clear K HN1 HN2 HN3 HSm
  go_wp2
  go_ret2
  exact ⟨w1.heap.size, pl, rfl, k4, kz, HKb.out, fun ps h => by cases h⟩
 | true =>
  obtain ⟨R, hR⟩ : ∃ R : RC, R = ⟨true, w1.heap.size, A, n, c, t.size, .slice none 0 0, sg, w1, fun _ => False⟩ := ⟨_, rfl⟩
  have K := Blk.new w1 166 #[.slice A n c, .int .i64 t.size, .int .i64 0, .int .i64 0, .bool false, .slice none 0 0, .slice none 0 0]
  have hI0 : RdI R 0 (some ⟨0, []⟩) none (w1.alloc (.cells #[.slice A n c, .int .i64 t.size, .int .i64 0, .int .i64 0, .bool false, .slice none 0 0, .slice none 0 0] 166)) := by
   subst hR
   exact ⟨0, false, none, 0, [], ⟨K, Mine.mk_nil _ _ _ _, ⟨fun x hx => absurd hx (by simp), fun g hg => False.elim hg⟩, by simp, Nat.zero_le _, (Below.refl _ _).alloc (Nat.le_refl _) _, ⟨hn, hsl, HM1.out.rd, Nat.le_refl _⟩⟩, ⟨rfl, rfl, rfl⟩, rfl⟩
  have hRi : R.imp = true := by rw [hR]
  have hRT : R.T = w1.heap.size := by rw [hR]
  have hRn : R.n = n := by rw [hR]
  have hRM : R.M = .slice none 0 0 := by rw [hR]
  have hRg : R.sg = sg := by rw [hR]
  have hRA : R.A = A ∧ R.c = c := by rw [hR]; exact ⟨rfl, rfl⟩
  have hF := file_step R hRi (n + 2) (14 * (n + 2)) (by rw [hRn]; omega) (by omega) (by rw [hRn]; omega) (ec_all R hRi (n + 2) (by rw [hRn]; omega) _) (some ⟨0, []⟩) none _ hI0 hRM
  have hnp : fileS R.sg (exprF R.sg (n + 2) (14 * (n + 2))) (n + 2) (some ⟨0, []⟩) = nodesP sg := by rw [hRg]; unfold nodesP; rw [hn]
  rw [hnp, hRT] at hF
  have HF := hid hF
  have HB2 := hid (HB1.out.alloc hsz1 (.cells #[.slice A n c, .int .i64 t.size, .int .i64 0, .int .i64 0, .bool false, .slice none 0 0, .slice none 0 0] 166))
  have hRw : R.w0 = w1 := by rw [hR]
  have HRw := hid hRw
  clear hF hnp K hI0
  go_wp2_with fail
  refine HF.out.mono ?_
  rintro e w2 ⟨rfl, v, row', hI2, hK2⟩
  have HBw : Hid (Below w.heap.size w w2) := (show Below w.heap.size w w2 from HB1.out.trans (by have := hI2.old; rw [show (R.mem v).w0 = w1 from hRw] at this; exact this.mono hsz1))
  have hz2 := hI2.old.size
  cases hnd : nodesP sg with
  | none =>
   have hr := HN2.out (by trivial) hnd
   subst hr
   rw [hnd] at hI2
   obtain ⟨a, b, AN, cN, l, hc, hb, hrow⟩ := hI2
   obtain ⟨c0, c2, c3, c4, c5, cf, cz⟩ := RdC.ci (R := R.mem v) hRi hc
   obtain rfl : b = true := hb
   have han := hc.2.2.2.2.1
   have hlen2 := hc.2.2.2.2.2.2.rd.below hc.2.2.2.2.2.1
   change w2.cell? ⟨R.T, 0, none⟩ = some (.slice R.A R.n R.c) at c0
   change w2.cell? ⟨R.T, 2, none⟩ = _ at c2
   change w2.cell? ⟨R.T, 4, none⟩ = _ at c4
   change R.T < _ at cz
   change a ≤ R.n at han
   change Rd w2 4 R.A R.n (R.sg.flatMap sgCells) at hlen2
   rw [hRT] at c0 c2 c4 cz
   rw [hRA.1, hRn, hRA.2] at c0
   rw [hRn] at han
   rw [hRA.1, hRn, hRg] at hlen2
   clear hc c3 c5 cf hrow HF HN1 HN2 HN3 HSm hRM hRg hRA hRT hRn hRi hRw
   by_cases hlt : a < n
   ·obtain ⟨x, hx⟩ : ∃ x, sg[a]? = some x := ⟨_, List.getElem?_eq_getElem (by omega)⟩
    obtain ⟨b1, off, hA, hblt, e0, e1, e2, e3⟩ := sgn_at hlen2 hlt hx
    subst hA
    have hlt' : (a : Int) < n := by omega
    clear hlen2 hx e0 e1 e3
    go_wp2
    go_quiet (fail)
    go_wp2
    go_ret2
    exact ⟨w1.heap.size, _, rfl, c4, cz, below_next HBw.out (below_drewN (Below.refl _ _) _), fun ps h => by cases h⟩
   ·have hlt' : ¬ (a : Int) < n := by omega
    clear hlen2
    go_wp2
    go_ret2
    exact ⟨w1.heap.size, _, rfl, c4, cz, HBw.out, fun ps h => by cases h⟩
  | some s =>
   have hr := HN3.out (by trivial) s hnd
   obtain ⟨hs1, hs2⟩ := HSm.out s hnd
   rw [hnd] at hI2
   obtain ⟨A2, c2', c4, c5, cf, cz, hnps⟩ := RdI.npsM (R := R.mem v) hRi hI2
   change w2.cell? ⟨R.T, 4, none⟩ = _ at c4
   change w2.cell? ⟨R.T, 5, none⟩ = _ at c5
   change ∀ i, w2.frozen? ⟨R.T, i, none⟩ = false at cf
   change R.T < _ at cz
   rw [hRT] at c4 c5 cf cz
   have HI2 := hid hI2
   have HRi := hid hRi
   have HT := hid (implTreeOk_any A2 s.nodes.length c2' s.nodes w2 (by omega) hnps.nps (hid hs2))
   have hz := HB1.out.size
   have HRT := hid hRT
   clear hnps hs2 hI2 HF HN1 HN2 HN3 HSm hRM hRg hRA hRT hRn hRi hRw hnd
   cases htr : treeB s.nodes with
   | true =>
    rw [htr, if_pos rfl] at hr
    rw [htr] at HT
    subst hr
    clear htr
    go_wp2_with fail
    refine HT.out.mono ?_
    rintro e w3 ⟨rfl, h3⟩
    have c4' := ((bcell h3).1 _ 4 cz).trans c4
    have c5' := ((bcell h3).1 _ 5 cz).trans c5
    have cf' : ∀ i, w3.frozen? ⟨w1.heap.size, i, none⟩ = false := fun i => ((bcell h3).2 _ i cz).trans (cf i)
    have cz' := Nat.lt_of_lt_of_le cz h3.size
    obtain ⟨A4, c4n, q4, q5, _, qz, hnp4⟩ := RdI.npsM (R := R.mem v) HRi.out (RdI.set4 (R := R.mem v) HRi.out (HI2.out.next h3))
    change (w3.setCell ⟨R.T, 4, none⟩ (.bool false)).cell? ⟨R.T, 4, none⟩ = _ at q4
    change (w3.setCell ⟨R.T, 4, none⟩ (.bool false)).cell? ⟨R.T, 5, none⟩ = _ at q5
    change R.T < (w3.setCell ⟨R.T, 4, none⟩ (.bool false)).heap.size at qz
    change NpsM (w3.setCell ⟨R.T, 4, none⟩ (.bool false)) R.w0.heap.size _ _ _ _ at hnp4
    rw [HRT.out] at q4 q5 qz hnp4
    have H4 := hid (And.intro q4 (And.intro q5 (And.intro qz hnp4)))
    clear q4 q5 qz hnp4
    have HB3 := hid ((below_next HBw.out h3).setCell (show w.heap.size ≤ (⟨w1.heap.size, 4, none⟩ : Addr).block from hsz1) (.bool false))
    clear h3 c4 c5 cf cz HT
    go_wp2
    go_ret2
    exact ⟨w1.heap.size, _, rfl, H4.out.1, H4.out.2.2.1, HB3.out, fun ps h => by obtain rfl := Option.some.inj h; exact ⟨rfl, A4, c4n, H4.out.2.1, by have h := H4.out.2.2.2; rw [HRw.out] at h; exact h.more hsz1⟩⟩
   | false =>
    rw [htr, if_neg (by decide)] at hr
    rw [htr] at HT
    subst hr
    clear htr
    go_wp2_with fail
    refine HT.out.mono ?_
    rintro e w3 ⟨rfl, h3⟩
    have hb4 := RdI.set4b (R := R.mem v) HRi.out (HI2.out.next h3)
    change (w3.setCell ⟨R.T, 4, none⟩ (.bool true)).cell? ⟨R.T, 4, none⟩ = _ ∧ R.T < _ at hb4
    rw [HRT.out] at hb4
    have H4 := hid hb4
    clear hb4
    have c4' := ((bcell h3).1 _ 4 cz).trans c4
    have cf' : ∀ i, w3.frozen? ⟨w1.heap.size, i, none⟩ = false := fun i => ((bcell h3).2 _ i cz).trans (cf i)
    have cz' := Nat.lt_of_lt_of_le cz h3.size
    have HB3 := hid ((below_next HBw.out h3).setCell (show w.heap.size ≤ (⟨w1.heap.size, 4, none⟩ : Addr).block from hsz1) (.bool true))
    clear h3 c4 c5 cf cz HT
    go_wp2
    go_ret2
    exact ⟨w1.heap.size, _, rfl, H4.out.1, H4.out.2, HB3.out, fun ps h => by cases h⟩
theorem implReadM_some (t : ByteArray) (w : World) (ht : t.size ≤ 1048576) (ps : List PN) (h : readP t = some ps) : Calls Tryz.prog 108 #[.string t] w fun e w' => ∃ A c, e = .returned (.tuple #[.slice A ps.length c, .int .i64 0, .bool true]) ∧ NpsM w' w.heap.size A ps.length c ps ∧ Below w.heap.size w w' := by
 have HS := readSourceM_any t w ht
 unfold RdRM at HS
 rw [h] at HS
 have HS := hid HS
 clear h
 go_enter Tryz.func108, Tryz.ntmps108
 go_wp2_with fail
 refine HS.out.mono ?_
 rintro e w1 ⟨T, p, rfl, c4, cz, hb, h5⟩
 obtain ⟨rfl, A, c, c5, hn⟩ := h5 ps rfl
 have HB := hid hb
 have HN := hid hn
 change w1.cell? ⟨T, 4, none⟩ = some (.bool false) at c4
 clear hb hn h5
 go_wp2
 refine bodyPost_ret (by simp [results, Tryz.results108, go_sem,]; try rfl) rfl ?_
 exact ⟨A, c, rfl, HN.out, HB.out⟩
def NonNeg (l : List Int) : Prop := ∀ x ∈ l, 0 ≤ x
theorem nn_set {l : List Int} (h : NonNeg l) (k : Nat) (x : Nat) : NonNeg (l.set k (x : Int)) := fun y hy => by
 rcases List.mem_or_eq_of_mem_set hy with h2 | rfl
 ·exact h y h2
 ·omega
theorem nn_run {g : Nat → TS → TS} (hg : ∀ k s, NonNeg s.2 → NonNeg (g k s).2) : ∀ (es : List Ev) (s : TS), NonNeg s.2 → NonNeg (runE g s es).2 := by
 intro es
 induction es with
 | nil => intro s h; exact h
 | cons e es ih =>
  intro s h
  rw [runE_cons]
  cases e with
  | sg k t => exact ih _ h
  | kid j => exact ih _ (hg _ _ h)
theorem nn_tell (ps : List PN) : ∀ (f k : Nat) (s : TS), NonNeg s.2 → NonNeg (tellF ps f k s).2 := by
 intro f
 induction f with
 | zero => intro k s h; exact h
 | succ f ih =>
  intro k s h
  unfold tellF
  cases ps[k]? with
  | none => exact h
  | some p => exact nn_run ih _ _ (nn_set h k _)
theorem nn_told (ps : List PN) : NonNeg (toldS ps).2 := nn_tell ps _ _ _ (fun x hx => by rw [(List.mem_replicate.1 hx).2]; exact Int.le_refl _)
theorem mine_kr {w w' : World} {T B : Nat} {ty e : TypeId} {cs : Array Value} {s n c : Nat} {A : Option Addr} {xs : List Value} (hm : Mine w B e s A n c xs) (hT : Blk w T ty cs) (k : Kr T none w none w') (hne : e ≠ ty) : Mine w' B e s A n c xs := by
 have hl2 := hm.len
 rcases hm.own with ⟨rfl, rfl, rfl⟩ | ⟨g, rfl, hB, hn, hc, rest, hb, hs⟩
 ·exact ⟨hl2, .inl ⟨rfl, rfl⟩⟩
 ·exact Mine.mk_own ⟨rest, hb.kr k (blk_ne hb hT hne) (by simp), hs⟩ hl2 hB hn hc
theorem NpsM.kr {w w' : World} {T B n c : Nat} {ty : TypeId} {cs : Array Value} {A : Option Addr} {ps : List PN} (h : NpsM w B A n c ps) (hT : Blk w T ty cs) (k : Kr T none w none w') (h1 : ty ≠ 54) (h2 : ty ≠ 3) : NpsM w' B A n c ps := by
 obtain ⟨l, hm, hl, hk, e⟩ := h
 exact ⟨l, mine_kr hm hT k (Ne.symm h1), hl, fun x hx => ⟨(hk x hx).1, mine_kr (hk x hx).2 hT k (Ne.symm h2)⟩, e⟩
theorem own_kr {w w' : World} {T g cap : Nat} {ty e : TypeId} {cs : Array Value} {xs : List Value} (h : Own w g e cap xs) (hT : Blk w T ty cs) (k : Kr T none w none w') (hne : e ≠ ty) : Own w' g e cap xs := by
 obtain ⟨rest, hb, hs⟩ := h
 exact ⟨rest, hb.kr k (blk_ne hb hT hne) (by simp), hs⟩
def linesN (t : ByteArray) (ps : List PN) : List Int := (toldS ps).2.map (lineN t)
def FiP (w0 : World) (B T : Nat) (AN : Option Addr) (n cN : Nat) (ps : List PN) (ls : List Int) (fs : List FindingD) (w : World) : Prop :=
 ∃ (AL : Option Addr) (cL : Nat) (AF : Option Addr) (cF : Nat), Blk w T 67 #[.slice AN n cN, .slice AL ls.length cL, .slice AF fs.length cF] ∧ NpsM w B AN n cN ps ∧ Mine w B 3 1 AL ls.length cL (intCells ls) ∧ Mine w B 50 3 AF fs.length cF (fs.flatMap findingCells) ∧ B ≤ T ∧ Below B w0 w
theorem told_len {ps : List PN} {w : World} {T Sb n c : Nat} {ty : TypeId} {A : Option Addr} {w0 : World} (h : TL ty T Sb A n c w0 (toldS ps) w) : (toldS ps).2.length = n := by
 obtain ⟨_, _, _, _, _, h, _⟩ := h
 exact h
theorem finderOf_no (t : ByteArray) (w : World) (ht : t.size ≤ 1048576) (h : readP t = none) : Calls Tryz.prog 54 #[.string t] w fun e w' => ∃ T, e = .returned (.pointer (some ⟨T, 0, none⟩)) ∧ FiP w w.heap.size T none 0 0 [] [] [] w' := by
 have HR := hid (implRead_none t w ht h)
 clear h
 go_enter Tryz.func54, Tryz.ntmps54
 go_wp2_with fail
 refine HR.out.mono ?_
 rintro e w1 ⟨p, rfl, h1⟩
 have hz1 := h1.size
 have K := Blk.new w1 67 #[.slice none 0 0, .slice none 0 0, .slice none 0 0]
 have HK := hid K
 have HB := hid (h1.alloc hz1 (.cells #[.slice none 0 0, .slice none 0 0, .slice none 0 0] 67))
 clear K h1
 go_wp2
 go_ret
 exact ⟨w1.heap.size, rfl, none, 0, none, 0, HK.out, NpsM.none_ (Mine.mk_nil _ _ _ _), Mine.mk_nil _ _ _ _, Mine.mk_nil _ _ _ _, hz1, HB.out⟩
theorem take_snoc {α : Type} {l : List α} {k : Nat} {x : α} (h : l[k]? = some x) : l.take (k + 1) = l.take k ++ [x] := by
 rw [List.take_add_one, h]; rfl
theorem fe_push {w w1 w3 wr w5 : World} {A AL : Option Addr} {n c k cL : Nat} {xs : List Value} {L : Int} {v' : Value} (hK : Blk wr w1.heap.size 67 #[.slice A n c, .slice AL k cL, .slice none 0 0]) (hm : Mine wr w3.heap.size 3 1 AL k cL xs) (hk : Kr w1.heap.size none w3 none wr) (hb : Below w.heap.size w wr) (hz1 : w.heap.size ≤ w1.heap.size) (hz13 : w1.heap.size < w3.heap.size) (hzr : w3.heap.size ≤ wr.heap.size)
  (hown : w5.ownsRow w3.heap.size 3 1 v' (k + 1) (xs ++ [.int .i64 L])) (hg : (wr.alloc (.cells #[.int .i64 L] 3)).grownBy w5 (Value.slice AL k cL).ownBlock) :
  ∃ (A5 : Option Addr) (c5 : Nat), v' = .slice A5 (k + 1) c5 ∧ (w5.cell? ⟨w1.heap.size, 1, none⟩ = some (.slice AL k cL) ∧ (∀ i, w5.frozen? ⟨w1.heap.size, i, none⟩ = false) ∧ w1.heap.size < w5.heap.size) ∧
   (Blk (w5.setCell ⟨w1.heap.size, 1, none⟩ (.slice A5 (k + 1) c5)) w1.heap.size 67 #[.slice A n c, .slice A5 (k + 1) c5, .slice none 0 0] ∧ Mine (w5.setCell ⟨w1.heap.size, 1, none⟩ (.slice A5 (k + 1) c5)) w3.heap.size 3 1 A5 (k + 1) c5 (xs ++ [.int .i64 L]) ∧ Kr w1.heap.size none w3 none (w5.setCell ⟨w1.heap.size, 1, none⟩ (.slice A5 (k + 1) c5)) ∧ Below w.heap.size w (w5.setCell ⟨w1.heap.size, 1, none⟩ (.slice A5 (k + 1) c5))) := by
 obtain ⟨A5, c5, rfl, m5⟩ := Mine.of hown
 have hrow : ∀ g, (Value.slice AL k cL).ownBlock = some g → w3.heap.size ≤ g := fun g hg => by rw [ownBlk] at hg; exact (Mine.blk hm hg).1
 have hb5 : Blk w5 w1.heap.size 67 #[.slice A n c, .slice AL k cL, .slice none 0 0] := (hK.alloc _).grown hg (fun e => by
  rw [ownBlk] at e
  obtain ⟨cs, hk2⟩ := mine_blk' (Mine.alloc hm (.cells #[.int .i64 L] 3)) e.symm
  exact blk_ne (hK.alloc _) hk2 (by decide) rfl)
 have hal : Below wr.heap.size wr (wr.alloc (.cells #[.int .i64 L] 3)) := (Below.refl _ _).alloc (Nat.le_refl _) _
 have k5 := (hk.below hal).grown hg hrow
 refine ⟨A5, c5, rfl, ⟨hb5.cell 1, hb5.frozen, hb5.lt⟩, hb5.set_ 1 _, mine_set m5 hb5 (by decide) _ _, k5.setT 1 _, ?_⟩
 have b1 := below_next hb hal
 exact (b1.grown hg b1.size (fun g hgg => by have := hrow g hgg; omega)).setCell (show w.heap.size ≤ (⟨w1.heap.size, 1, none⟩ : Addr).block from hz1) _
theorem finderOf_yes (t : ByteArray) (w : World) (ht : t.size ≤ 1048576) (ps : List PN) (h : readP t = some ps) : Calls Tryz.prog 54 #[.string t] w fun e w' => ∃ (T : Nat) (A : Option Addr) (c : Nat), e = .returned (.pointer (some ⟨T, 0, none⟩)) ∧ FiP w w.heap.size T A ps.length c ps (linesN t ps) [] w' := by
 obtain ⟨i0, hi0, hz0, hz1, hz2⟩ := info_parts infoInt
 have HII := hid (And.intro hi0 (And.intro hz0 (And.intro hz1 hz2)))
 obtain ⟨htr, hl3, hpn⟩ := readP_some h
 have HR := hid (implReadM_some t w ht ps h)
 have HP := hid (fun W => implPlaces_any t W ht)
 have HX := hid (fun (x : Int) W => implPlaceOf_any t x W ht)
 obtain ⟨n, hn⟩ : ∃ n, ps.length = n := ⟨_, rfl⟩
 rw [hn] at HR hl3
 rw [hn]
 have HTE := hid (fun (A : Option Addr) (c : Nat) (W : World) h => implTell_any A n c ps W (by omega) h htr)
 have hplen : (placesP t).length ≤ 3000 := by
  rw [placesP_eq, List.length_map]
  exact leftP_len _ (signsP_len t)
 obtain ⟨P, hP⟩ : ∃ P, placesP t = P := ⟨_, rfl⟩
 rw [hP] at HP hplen
 have H0 := hid (fun (v : Int) h => lineN_no hP (v := v) h)
 have H1 := hid (fun (q : Nat) (x : Int) h => lineN_yes hP (v := q) (x := x) h)
 have HNN := hid (nn_told ps)
 have HLd := hid (show linesN t ps = (toldS ps).2.map (lineN t) from rfl)
 generalize linesN t ps = LS at HLd ⊢
 have HTL := hid (fun (w0 w' : World) (T Sb c : Nat) (ty : TypeId) (A : Option Addr) h => told_len (ps := ps) (w := w') (T := T) (Sb := Sb) (n := n) (c := c) (ty := ty) (A := A) (w0 := w0) h)
 generalize toldS ps = told at HTE HNN HLd HTL
 clear hi0 hz0 hz1 hz2 h htr hP hpn
 go_enter Tryz.func54, Tryz.ntmps54
 go_wp2_with fail
 refine HR.out.mono ?_
 rintro e w1 ⟨A, c, rfl, hnm, h1⟩
 have HN1 := hid hnm
 have HB1 := hid h1
 have hz1' := h1.size
 clear h1 hnm HR
 go_wp2_with fail
 have K1 := hid (Blk.new w1 67 #[.slice A n c, .slice none 0 0, .slice none 0 0])
 have HN1a := hid (HN1.out.next ((Below.refl _ _).alloc (Nat.le_refl _) (.cells #[.slice A n c, .slice none 0 0, .slice none 0 0] 67)))
 have HB1a := hid (HB1.out.alloc hz1' (.cells #[.slice A n c, .slice none 0 0, .slice none 0 0] 67))
 refine (HP.out _).mono ?_
 rintro e w2 ⟨AP, cP, rfl, mP, h2⟩
 have HM2 := hid mP
 have K2 := hid (K1.out.next h2)
 have HN2 := hid (HN1a.out.next h2)
 have HB2 := hid (below_next HB1a.out h2)
 clear mP h2 HP K1 HN1a HB1a
 go_wp2_with fail
 refine (HTE.out A c w2 HN2.out.nps).mono ?_
 rintro e w3 ⟨rfl, htl⟩
 have hbw := htl.below
 have hlen := HTL.out _ _ _ _ _ _ _ htl
 obtain ⟨AS, cS, hbk, _, ho, _⟩ := htl
 have HO3 := hid ho
 have HM3 := hid (HM2.out.next hbw)
 have K3 := hid (K2.out.next hbw)
 have HN3 := hid (HN2.out.next hbw)
 have HB3 := hid (below_next HB2.out hbw)
 have hz3 := K3.out.lt
 have t2 := hbk.q2
 have tz := hbk.lt
 clear hbk ho hbw HM2 K2 HN2 HB2 HTE HTL
 have HKr := hid (Kr.refl w1.heap.size none w3)
 have HML := hid (show Mine w3 w3.heap.size 3 1 none 0 0 (intCells (LS.take 0)) from Mine.mk_nil _ _ _ _)
 have HLL := hid (show LS.length = n by rw [HLd.out, List.length_map]; exact hlen)
 go_upto_region 7 with fail
 clear t2 tz
 go_loopw [32] (fun i wr => ∃ (k : Nat) (AL : Option Addr) (cL : Nat), k ≤ n ∧ i = .int .i64 k ∧ Hid (Blk wr w1.heap.size 67 #[.slice A n c, .slice AL k cL, .slice none 0 0]) ∧ Hid (Mine wr w3.heap.size 3 1 AL k cL (intCells (LS.take k))) ∧ Hid (Kr w1.heap.size none w3 none wr) ∧ Hid (Below w.heap.size w wr)) (fun i _ => n - (intOf i).toNat)
 case atStart => exact ⟨0, none, 0, Nat.zero_le _, rfl, K3, HML, HKr, HB3⟩
 case round =>
  clear HML HKr
  obtain ⟨k, AL, cL, hk, rfl, HKb, HML, HKr, HBr⟩ := hrel
  have hzr := HKr.out.size
  by_cases hkn : k < n
  ·obtain ⟨v, hv⟩ : ∃ v, told.2[k]? = some v := ⟨_, List.getElem?_eq_getElem (by omega)⟩
   obtain ⟨q, rfl⟩ := Int.eq_ofNat_of_zero_le (HNN.out v (List.mem_of_getElem? hv))
   have HOr := hid (own_kr HO3.out K3.out HKr.out (by decide))
   have HMr := hid (mine_kr HM3.out K3.out HKr.out (by decide))
   obtain ⟨b6, off6, e6, hblt6, cq⟩ := int_at (HOr.out.rd (size := 1) (n := n) (by simp [intCells, hlen])) hkn hv
   injection e6 with e6
   injection e6 with e61 e62
   subst e61; subst e62
   simp only [Nat.zero_add] at cq
   have hls : LS[k]? = some (lineN t (q : Int)) := by rw [HLd.out, List.getElem?_map, hv]; rfl
   have HTk := hid (take_snoc hls)
   have hi1 : (k : Int) < (n : Int) := by omega
   have hp3 : P.length ≤ 3000 := hplen
   by_cases hq : q < P.length
   ·obtain ⟨x, hx⟩ : ∃ x, P[q]? = some x := ⟨_, List.getElem?_eq_getElem hq⟩
    obtain ⟨b7, off7, rfl, hblt7, cp⟩ := int_at HMr.out.rd hq hx
    have hq1 : (q : Int) < (P.length : Int) := by omega
    have HEq := hid (H1.out q x hx)
    have HY := hid (HX.out x)
    clear hv hls hx
    generalize lineP t x = L at HY HEq
    go_wp2_with fail
    refine (HY.out _).mono ?_
    rintro e w4 ⟨c4, rfl, rfl⟩
    have kc1 := HKb.out.q1
    have kf := HKb.out.frozen
    have kz := HKb.out.lt
    have HPt := hid (fun (v' : Value) (w5 : World) (hown : w5.ownsRow w3.heap.size 3 1 v' (k + 1) (intCells (LS.take k) ++ [.int .i64 L])) (hg : (wr.alloc (.cells #[.int .i64 L] 3)).grownBy w5 (Value.slice AL k cL).ownBlock) => fe_push (L := L) HKb.out HML.out HKr.out HBr.out hz1' hz3 hzr hown hg)
    go_wp2_with (at_builtin; (refine wpList_append_row _ rfl (.tmp 53) (.tmp 55) _ rfl w3.heap.size 3 i0 (.int .i64 0) 1 8 Tryz.underlying44 HII.out.1 HII.out.2.1 HII.out.2.2.1 HII.out.2.2.2 rfl (by decide) (.slice AL k cL) k (intCells (LS.take k)) rfl (Mine.alloc HML.out _) ⟨wr.heap.size, 0, none⟩ 1 1 [.int .i64 L] rfl rfl (int_new _ _ _) (int_one _) (by unfold maxLen; omega) (by omega) (by simp; omega) ?_); intro v' w5 hown5 hg5 hwh5; obtain ⟨A5, c5, rfl, ⟨j1, jf, jz⟩, hres⟩ := HPt.out v' w5 hown5 hg5)
    have HRes := hid hres
    clear hown5 hg5 hwh5 hres HPt j1 jf jz
    go_wp2
    go_roundw
    case rel => exact ⟨k + 1, A5, c5, by omega, by go_num, HRes.out.1, (by rw [HTk.out, HEq.out, ints_snoc]; exact HRes.out.2.1), HRes.out.2.2.1, HRes.out.2.2.2⟩
    case measure => simp [intOf]; omega
   ·have hq1 : ¬ (q : Int) < (P.length : Int) := by omega
    have hq2 : decide ((q : Int) < (P.length : Int)) = false := decide_eq_false hq1
    have HEq := hid (H0.out (q : Int) (decide_eq_false (by omega)))
    have kc1 := HKb.out.q1
    have kf := HKb.out.frozen
    have kz := HKb.out.lt
    clear hv hls
    have HPt := hid (fun (v' : Value) (w5 : World) (hown : w5.ownsRow w3.heap.size 3 1 v' (k + 1) (intCells (LS.take k) ++ [.int .i64 0])) (hg : (wr.alloc (.cells #[.int .i64 0] 3)).grownBy w5 (Value.slice AL k cL).ownBlock) => fe_push (L := 0) HKb.out HML.out HKr.out HBr.out hz1' hz3 hzr hown hg)
    go_wp2_with (at_builtin; (refine wpList_append_row _ rfl (.tmp 53) (.tmp 55) _ rfl w3.heap.size 3 i0 (.int .i64 0) 1 8 Tryz.underlying44 HII.out.1 HII.out.2.1 HII.out.2.2.1 HII.out.2.2.2 rfl (by decide) (.slice AL k cL) k (intCells (LS.take k)) rfl (Mine.alloc HML.out _) ⟨wr.heap.size, 0, none⟩ 1 1 [.int .i64 0] rfl rfl (int_new _ _ _) (int_one _) (by unfold maxLen; omega) (by omega) (by simp; omega) ?_); intro v' w5 hown5 hg5 hwh5; obtain ⟨A5, c5, rfl, ⟨j1, jf, jz⟩, hres⟩ := HPt.out v' w5 hown5 hg5)
    have HRes := hid hres
    clear hown5 hg5 hwh5 hres HPt j1 jf jz
    go_wp2
    go_roundw
    case rel => exact ⟨k + 1, A5, c5, by omega, by go_num, HRes.out.1, (by rw [HTk.out, HEq.out, ints_snoc]; exact HRes.out.2.1), HRes.out.2.2.1, HRes.out.2.2.2⟩
    case measure => simp [intOf]; omega
  ·obtain rfl : k = n := by omega
   have HNr := hid (HN3.out.kr K3.out HKr.out (by decide) (by decide))
   have HFi : Hid (FiP w w.heap.size w1.heap.size A k c ps LS [] wr) := (show FiP w w.heap.size w1.heap.size A k c ps LS [] wr from ⟨AL, cL, none, 0, by rw [HLL.out]; exact HKb.out, HNr.out, (by
    have h := HML.out
    rw [← HLL.out, List.take_length] at h
    exact h.more HB3.out.size), Mine.mk_nil _ _ _ _, hz1', HBr.out⟩)
   go_wp2
   go_ret
   exact ⟨w1.heap.size, A, c, rfl, HFi.out⟩
theorem NpsM.set {w : World} {B n c T : Nat} {ty : TypeId} {cs : Array Value} {A : Option Addr} {ps : List PN} (h : NpsM w B A n c ps) (hT : Blk w T ty cs) (h1 : ty ≠ 54) (h2 : ty ≠ 3) (i : Nat) (u : Value) : NpsM (w.setCell ⟨T, i, none⟩ u) B A n c ps := by
 obtain ⟨l, hm, hl, hk, e⟩ := h
 exact ⟨l, mine_set hm hT (Ne.symm h1) _ _, hl, fun x hx => ⟨(hk x hx).1, mine_set (hk x hx).2 hT (Ne.symm h2) _ _⟩, e⟩
def KpF (T : Nat) (w w' : World) : Prop := ∀ g t cs, Blk w g t cs → g ≠ T → t ≠ 50 → Blk w' g t cs
theorem fi_push {w0 w w6 : World} {B T : Nat} {AN AL AF : Option Addr} {n cN cL cF : Nat} {ps : List PN} {ls : List Int} {fs : List FindingD} {kd L : Int} {tx : ByteArray} {v' : Value}
  (hK : Blk w T 67 #[.slice AN n cN, .slice AL ls.length cL, .slice AF fs.length cF]) (hN : NpsM w B AN n cN ps) (hL : Mine w B 3 1 AL ls.length cL (intCells ls)) (hF : Mine w B 50 3 AF fs.length cF (fs.flatMap findingCells)) (hBT : B ≤ T) (hB : Below B w0 w) (hB0 : B = w0.heap.size)
  (hown : w6.ownsRow B 50 3 v' (fs.length + 1) (fs.flatMap findingCells ++ [.int .i64 kd, .int .i64 L, .string tx])) (hg : (w.alloc (.cells #[.int .i64 kd, .int .i64 L, .string tx] 50)).grownBy w6 (Value.slice AF fs.length cF).ownBlock) :
  ∃ (A6 : Option Addr) (c6 : Nat), v' = .slice A6 (fs.length + 1) c6 ∧ ((∃ v, w6.cell? ⟨T, 2, none⟩ = some v) ∧ (∀ i, w6.frozen? ⟨T, i, none⟩ = false) ∧ T < w6.heap.size) ∧ FiP w0 B T AN n cN ps ls (fs ++ [(kd, L, tx)]) (w6.setCell ⟨T, 2, none⟩ v') ∧ KpF T w (w6.setCell ⟨T, 2, none⟩ v') := by
 obtain ⟨A6, c6, rfl, m6⟩ := Mine.of hown
 rw [ownBlk] at hg
 have hal : Below w.heap.size w (w.alloc (.cells #[.int .i64 kd, .int .i64 L, .string tx] 50)) := (Below.refl _ _).alloc (Nat.le_refl _) _
 have hFa := hF.next hal
 have hr : ∀ g, AF.map (·.block) = some g → ∃ t cs, Blk (w.alloc (.cells #[.int .i64 kd, .int .i64 L, .string tx] 50)) g t cs ∧ t ≠ 54 ∧ t ≠ 3 := fun g e => by
  obtain ⟨cs, hk⟩ := mine_blk' hFa e
  exact ⟨_, cs, hk, by decide, by decide⟩
 have hb6 : Blk w6 T 67 #[.slice AN n cN, .slice AL ls.length cL, .slice AF fs.length cF] := (hK.next hal).grown hg (fun e => by
  obtain ⟨cs, hk⟩ := mine_blk' hFa e.symm
  exact blk_ne (hK.next hal) hk (by decide) rfl)
 have hN6 := (hN.next hal).grown hg hr
 have hL6 : Mine w6 B 3 1 AL ls.length cL (intCells ls) := Mine.grown (hL.next hal) hg (fun g e => .inr (Mine.apart (hL.next hal) hFa (by decide) e))
 have hB6 : Below B w0 w6 := by
  subst hB0
  exact (below_next hB hal).grown hg (below_next hB hal).size (fun g e => (Mine.blk hFa e).1)
 refine ⟨A6, c6, rfl, ⟨⟨_, hb6.cell 2⟩, hb6.frozen, hb6.lt⟩, ⟨AL, cL, A6, c6, ?_, hN6.set hb6 (by decide) (by decide) _ _, mine_set hL6 hb6 (by decide) _ _, ?_, hBT, hB6.setCell hBT _⟩, fun g t cs hgb h1 h2 => (((hgb.next hal).grown hg (fun e => ?_)).far h1 _)⟩
 ·rw [List.length_append]
  exact hb6.set_ 2 _
 ·rw [snoc_find, List.length_append]
  exact mine_set m6 hb6 (by decide) _ _
 ·obtain ⟨cs', hk⟩ := mine_blk' hFa e.symm
  exact blk_ne (hgb.next hal) hk h2 rfl
theorem find_any (w0 : World) (T : Nat) (AN : Option Addr) (n cN : Nat) (ps : List PN) (ls : List Int) (fs : List FindingD) (kd : Int) (k : Nat) (L : Int) (tx : ByteArray) (w : World) (h : FiP w0 w0.heap.size T AN n cN ps ls fs w) (hx : ls[k]? = some L) (hfl : fs.length ≤ 100000) (hll : ls.length ≤ 100000) :
  Calls Tryz.prog 55 #[.pointer (some ⟨T, 0, none⟩), .int .i64 kd, .int .i64 k, .string tx] w fun e w' => e = .returned (.tuple #[]) ∧ FiP w0 w0.heap.size T AN n cN ps ls (fs ++ [(kd, L, tx)]) w' ∧ KpF T w w' := by
 obtain ⟨i0, hi, hz0, hz1, hz2⟩ := info_parts infoFindingI
 have HI := hid (And.intro hi (And.intro hz0 (And.intro hz1 hz2)))
 obtain ⟨AL, cL, AF, cF, hK, hN, hL, hF, hBT, hB⟩ := h
 have hkl : k < ls.length := (List.getElem?_eq_some_iff.1 hx).1
 obtain ⟨b, off, rfl, hblt, cl⟩ := int_at hL.rd hkl hx
 have hal : ∀ o, Below w.heap.size w (w.alloc o) := fun o => (Below.refl _ _).alloc (Nat.le_refl _) o
 have c1 := hK.q1
 have c2 := hK.q2
 have cf := hK.frozen
 have cz := hK.lt
 have e1 : ∀ o, (w.alloc o).cell? ⟨T, 1, none⟩ = some (.slice (some ⟨b, off, none⟩) ls.length cL) := fun o => ((bcell (hal o)).1 _ 1 cz).trans c1
 have e2 : ∀ o, (w.alloc o).cell? ⟨T, 2, none⟩ = some (.slice AF fs.length cF) := fun o => ((bcell (hal o)).1 _ 2 cz).trans c2
 have e3 : ∀ o, (w.alloc o).cell? ⟨b, off + k, none⟩ = some (.int .i64 L) := fun o => ((bcell (hal o)).1 _ _ hblt).trans cl
 have hkl' : (k : Int) < (ls.length : Int) := by omega
 have HM := hid (Mine.alloc hF (.cells #[.int .i64 kd, .int .i64 L, .string tx] 50))
 have HPt := hid (fun (v' : Value) (w6 : World) h1 h2 => fi_push (kd := kd) (L := L) (tx := tx) (v' := v') (w6 := w6) hK hN hL hF hBT hB rfl h1 h2)
 have HBZ := hid (show w0.heap.size ≤ (w.alloc (.cells #[.int .i64 kd, .int .i64 L, .string tx] 50)).heap.size by have := hB.size; simp only [World.size_alloc]; omega)
 have hnb := heap_alloc_new w (.cells #[.int .i64 kd, .int .i64 L, .string tx] 50)
 clear hi hz0 hz1 hz2 hK hN hL hF hB hx hal
 go_enter Tryz.func55, Tryz.ntmps55
 try go_upto_region 0 with fail
 go_region_law
  (refine step_append_lies _ rfl (.tmp 12) (.tmp 23) 34 rfl w0.heap.size 50 i0 (.agg #[.int .i64 0, .int .i64 0, .string ⟨#[]⟩]) 3 32 Tryz.underlying34 HI.out.1 HI.out.2.1 HI.out.2.2.1 HI.out.2.2.2 rfl (by decide) (.slice AF fs.length cF) fs.length (fs.flatMap findingCells) (by first | (simp [Act.eval]; done) | (simp [Act.eval, Act.put]; done) | rfl) (by first | exact HM.out.drew | exact HM.out) ⟨w.heap.size, 0, none⟩ 1 1 [.int .i64 kd, .int .i64 L, .string tx] (by first | (simp [Act.eval]; done) | (simp [Act.eval, Act.put]; done) | rfl) (by rfl) (World.news_of_block (cs := #[.int .i64 kd, .int .i64 L, .string tx]) (t := 50) (fr := (0, 0)) hnb) (fun x hx => by simp at hx; rcases hx with rfl | rfl | rfl <;> rfl) (by decide) (by unfold maxLen; omega) (by omega) (by first | exact HBZ.out) (w.heap.size + 1) (by simp) ?_
   intro q cap w6 hown6 hgrow hat hlt6
   have hgrow2 : (w.alloc (.cells #[.int .i64 kd, .int .i64 L, .string tx] 50)).grownBy w6 (Value.slice AF fs.length cF).ownBlock := (by first | exact hgrow | exact grown_undrewP hgrow)
   obtain ⟨A6, c6, ev, ⟨⟨v6, j6⟩, jf, jz⟩, hres⟩ := HPt.out _ _ hown6 hgrow2
   have HW := hid (And.intro ev hres)
   clear hown6 hgrow hat hgrow2 ev hres)
 all_goals
  have HRes := hid HW.out.2
  clear HW
  go_wp2
  go_end0
  exact ⟨rfl, HRes.out.1, fun g t cs hb h1 h2 => HRes.out.2 g t cs hb h1 h2⟩
theorem FiP.next {w0 w w' : World} {B T : Nat} {AN : Option Addr} {n cN : Nat} {ps : List PN} {ls : List Int} {fs : List FindingD} (h : FiP w0 B T AN n cN ps ls fs w) (hB : B = w0.heap.size) (hb : Below w.heap.size w w') : FiP w0 B T AN n cN ps ls fs w' := by
 obtain ⟨AL, cL, AF, cF, hK, hN, hL, hF, hBT, hBw⟩ := h
 subst hB
 exact ⟨AL, cL, AF, cF, hK.next hb, hN.next hb, hL.next hb, hF.next hb, hBT, below_next hBw hb⟩
theorem len_run {g : Nat → TS → TS} (hg : ∀ k s, (g k s).2.length = s.2.length) : ∀ (es : List Ev) (s : TS), (runE g s es).2.length = s.2.length := by
 intro es
 induction es with
 | nil => intro s; rfl
 | cons e es ih =>
  intro s
  rw [runE_cons]
  cases e with
  | sg k t => exact ih _
  | kid j => exact (ih _).trans (hg _ _)
theorem len_tell (ps : List PN) : ∀ (f k : Nat) (s : TS), (tellF ps f k s).2.length = s.2.length := by
 intro f
 induction f with
 | zero => intro k s; rfl
 | succ f ih =>
  intro k s
  unfold tellF
  cases ps[k]? with
  | none => rfl
  | some p => exact (len_run ih _ _).trans (by simp)
theorem len_told (ps : List PN) : (toldS ps).2.length = ps.length := by unfold toldS; rw [len_tell]; simp
theorem lines_len' (t : ByteArray) (ps : List PN) : (linesN t ps).length = ps.length := by unfold linesN; rw [List.length_map, len_told]
theorem lines_at {t : ByteArray} {ps : List PN} (h : treeB ps = true) {k : Nat} (hk : k < ps.length) : (linesN t ps)[k]? = some (lineN t (firstV ps k)) := by
 obtain ⟨v, hv⟩ : ∃ v, (toldS ps).2[k]? = some v := ⟨_, List.getElem?_eq_getElem (by rw [len_told]; exact hk)⟩
 unfold linesN firstV
 rw [List.getElem?_map, hv, if_pos ⟨h, by omega, by omega⟩, Int.toNat_natCast, List.getD_eq_getElem?_getD, hv]
 rfl
theorem finderOf_any (t : ByteArray) (w : World) (ht : t.size ≤ 1048576) : Calls Tryz.prog 54 #[.string t] w fun e w' => ∃ (T : Nat) (A : Option Addr) (n c : Nat) (ps : List PN) (ls : List Int), e = .returned (.pointer (some ⟨T, 0, none⟩)) ∧ FiP w w.heap.size T A n c ps ls [] w' ∧ n ≤ 300 ∧ ls.length = n ∧ (∀ k, k < n → ls[k]? = some (lineN t (firstV ps k))) ∧ findEmpty t = emptyTo t ps n := by
 unfold findEmpty
 rcases hr : readP t with _ | ps
 ·refine (finderOf_no t w ht hr).mono ?_
  rintro e w' ⟨T, rfl, h⟩
  exact ⟨T, none, 0, 0, [], [], rfl, h, Nat.zero_le _, rfl, fun k hk => absurd hk (by omega), rfl⟩
 ·refine (finderOf_yes t w ht ps hr).mono ?_
  rintro e w' ⟨T, A, c, rfl, h⟩
  obtain ⟨h1, h2, h3⟩ := readP_some hr
  exact ⟨T, A, ps.length, c, ps, linesN t ps, rfl, h, h2, lines_len' t ps, fun k hk => lines_at h1 hk, rfl⟩
theorem implFindEmpty_any (t : ByteArray) (w : World) (ht : t.size ≤ 1048576) : Calls Tryz.prog 19 #[.string t] w (FindM w (findEmpty t)) := by
 have HR := hid (finderOf_any t w ht)
 unfold FindM
 obtain ⟨fe, hfe⟩ : ∃ fe, findEmpty t = fe := ⟨_, rfl⟩
 rw [hfe] at HR
 rw [hfe]
 clear hfe
 go_enter Tryz.func19, Tryz.ntmps19
 go_wp2_with fail
 refine HR.out.mono ?_
 rintro e w1 ⟨T, A, n, c, ps, ls, rfl, hfi, hn3, hll, hla, hff⟩
 have HFi := hid hfi
 have HLA := hid hla
 have HF := hid hff
 obtain ⟨AL, cL, AF, cF, hK, hN, _⟩ := hfi
 have k0 := hK.q0
 have kf := hK.frozen
 have kz := hK.lt
 clear hK hN hla hff HR
 go_upto_region 3 with fail
 clear k0 kf kz
 go_loopw [13] (fun i wr => ∃ (k : Nat), k ≤ n ∧ i = .int .i64 k ∧ Hid (FiP w w.heap.size T A n c ps ls (emptyTo t ps k) wr)) (fun i _ => n - (intOf i).toNat)
 case atStart => exact ⟨0, Nat.zero_le _, rfl, HFi⟩
 case round =>
  clear HFi
  obtain ⟨k, hk, rfl, HFi⟩ := hrel
  have hlen := emptyTo_len t ps k
  by_cases hkn : k < n
  ·obtain ⟨AL, cL, AF, cF, hK, hN, hL, hF, hBT, hB⟩ := id HFi.out
   obtain ⟨p1, hp⟩ := hN.nps.get hkn
   obtain ⟨b', off, A', c', rfl, hblt, x0, x1, x2, x3, _, _⟩ := hN.nps.atc hkn hp
   have hi1 : (k : Int) < (n : Int) := by omega
   have hlk := HLA.out k hkn
   clear hK hN hL hF hBT hB
   by_cases hem : emptyB p1 = true
   ·have hst := hid (emptyTo_yes (t := t) hp hem)
    unfold emptyB at hem
    rw [Bool.and_eq_true] at hem
    obtain ⟨g1, g2⟩ := hem
    have HFn := hid (fun (W : World) (h : Below wr.heap.size wr W) => find_any w T (some ⟨b', off, none⟩) n c ps ls (emptyTo t ps k) 4 k (lineN t (firstV ps k)) ⟨#[]⟩ W (HFi.out.next rfl h) hlk (by omega) (by omega))
    clear hp hlk
    go_wp2_with fail
    refine (HFn.out _ grow_).mono ?_
    rintro e w2 ⟨rfl, h2, _⟩
    rw [← hst.out] at h2
    have HF2 := hid h2
    clear h2 x0 x1 x2 x3 hblt
    go_wp2
    go_roundw
    case rel => exact ⟨k + 1, by omega, by go_num, HF2⟩
    case measure => simp [intOf]; omega
   ·have hem' : emptyB p1 = false := by rcases Bool.eq_false_or_eq_true (emptyB p1) with h | h; exact absurd h hem; exact h
    have hst := hid (emptyTo_no (t := t) hp hem')
    unfold emptyB at hem'
    have HFN := hid (fun (W : World) (h : Below wr.heap.size wr W) => HFi.out.next rfl h)
    clear hp hem hlk
    rcases Bool.eq_false_or_eq_true (p1.kind == 18) with g1 | g1
    ·rw [g1, Bool.true_and] at hem'
     go_wp2
     go_roundw
     case rel => exact ⟨k + 1, by omega, by go_num, by rw [hst.out]; exact HFN.out _ grow_⟩
     case measure => simp [intOf]; omega
    ·clear hem'
     go_wp2
     go_roundw
     case rel => exact ⟨k + 1, by omega, by go_num, by rw [hst.out]; exact HFN.out _ grow_⟩
     case measure => simp [intOf]; omega
  ·obtain rfl : k = n := by omega
   rw [← HF.out] at HFi
   obtain ⟨AL, cL, AF, cF, hK, hN, hL, hF, hBT, hB⟩ := id HFi.out
   have k2 := hK.q2
   have kf := hK.frozen
   have kz := hK.lt
   have HM := hid hF
   have HB := hid hB
   clear hK hN hL hF hBT hB
   go_wp2
   go_ret
   exact ⟨AF, cF, rfl, HM.out, HB.out⟩
theorem lawFindEmpty (t : ByteArray) (w : World) (ht : t.size ≤ maxLen) : Calls Tryz.prog 4 #[.string t] w fun e w' => e = .returned (.bool true) ∧ Below w.heap.size w w' := by
 have hb := Below.refl w.heap.size w
 unfold maxLen at ht
 by_cases h1 : 1048576 < t.size
 ·go_enter Tryz.func4, Tryz.ntmps4
  go_wp2
  go_ret
  exact ⟨rfl, grow_⟩
 ·have h2 : t.size ≤ 1048576 := by omega
  have hn6 : (findEmpty t).length ≤ 300 := findEmpty_len t
  have HI := hid (fun W => implFindEmpty_any t W h2)
  have HP := hid (fun W => specFindEmpty_any t W h2)
  obtain ⟨l, hr⟩ : ∃ r, findEmpty t = r := ⟨_, rfl⟩
  rw [hr] at HI HP hn6
  clear hr ht h1
  go_enter Tryz.func4, Tryz.ntmps4
  go_wp2_with fail
  refine (HP.out _).mono ?_
  rintro e w2 ⟨A0, c0, rfl, m0, h2'⟩
  replace hb := below_next hb h2'
  clear h2'
  have q0 := hid (fun g (hg : A0.map (·.block) = some g) => (m0.blk hg).2)
  have z0 := hb.size
  go_wp2_with fail
  refine (HI.out _).mono ?_
  rintro e w3 ⟨A3, c3, rfl, m3, h2'⟩
  replace m0 := m0.next h2'
  replace hb := below_next hb h2'
  clear h2'
  obtain ⟨H3, hH3⟩ : ∃ H, H = w2.heap.size := ⟨_, rfl⟩
  rw [← hH3] at m3 q0 z0
  go_wp2_with fail
  refine (eqFindingS_same _ _ _ _ _ l _ (by omega) rfl m3.rd m0.rd).mono ?_
  rintro e w2 ⟨rfl, h2⟩
  replace m0 := by first | exact m0.next h2 | exact m0.next1 h2 | exact m0.next2 h2
  replace m3 := by first | exact m3.next h2 | exact m3.next1 h2 | exact m3.next2 h2
  replace hb := by first | exact below_next hb h2 | exact below_next1 hb h2 | exact below_next2 hb h2
  clear h2
  go_wp2_with fail
  refine (markFindingS_mine _ _ _ _ _ _ _ m3 (by omega) (by omega)).mono ?_
  rintro e w2 ⟨rfl, m4, hg⟩
  replace m0 := m0.grown hg (fun g e => .inr (fun h => by have := (m3.blk e).1; have := q0.out _ h; omega))
  replace hb := below_turned hb hg (fun g e => by have := (m3.blk e).1; omega)
  clear hg m3
  go_wp2_with fail
  refine (heldFindingS_any _ _ _ _ _ m4.rd (by omega) (by omega)).mono ?_
  rintro e w2 ⟨rfl, h2⟩
  replace m0 := by first | exact m0.next h2 | exact m0.next1 h2 | exact m0.next2 h2
  replace m4 := by first | exact m4.next h2 | exact m4.next1 h2 | exact m4.next2 h2
  replace hb := by first | exact below_next hb h2 | exact below_next1 hb h2 | exact below_next2 hb h2
  clear h2
  go_wp2_with fail
  refine (HI.out _).mono ?_
  rintro e w3 ⟨A5, c5, rfl, m5, h2'⟩
  replace m0 := m0.next h2'
  replace m4 := m4.next h2'
  replace hb := below_next hb h2'
  clear h2'
  go_wp2_with fail
  refine (eqFindingS_same _ _ _ _ _ l _ (by omega) rfl m5.rd m0.rd).mono ?_
  rintro e w2 ⟨rfl, h2⟩
  replace m4 := by first | exact m4.next h2 | exact m4.next1 h2 | exact m4.next2 h2
  replace hb := by first | exact below_next hb h2 | exact below_next1 hb h2 | exact below_next2 hb h2
  clear h2
  go_wp2_with fail
  refine (heldFindingS_any _ _ _ _ _ m4.rd (by omega) (by omega)).mono ?_
  rintro e w2 ⟨rfl, h2⟩
  replace hb := by first | exact below_next hb h2 | exact below_next1 hb h2 | exact below_next2 hb h2
  clear h2
  go_wp2
  go_ret
  exact ⟨rfl, grow_⟩
end Go.Proofs.YtcbbokbgmalpgaaGreatDoor

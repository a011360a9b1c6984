/-
  Put together by program (shake.py): ParX, ParY, SpaS, FamFinding, Mark, MarkP, MkFinding, FeD.
-/
import Derived.Test.YtgbikafalcbibaaGreatDoorMiO
import Derived.Test.YtgbikafalcbibaaGreatDoorMiK
import Derived.Test.YtgbikafalcbibaaGreatDoorMiG
import Derived.Test.YtgbikafalcbibaaGreatDoorMiJ
import Derived.Test.YtgbikafalcbibaaGreatDoorMiT
import Derived.Test.YtgbikafalcbibaaGreatDoorMiB
import Derived.Test.YtgbikafalcbibaaGreatDoorChecked
import Derived.Outline
import Derived.Deep.Cut
import Derived.Laws.IdiomStrings
import Derived.Deep.DeepCutAuto
import Derived.Deep.LoopGhost
import Derived.Deep.RegionWith
set_option maxRecDepth 100000
set_option maxHeartbeats 25600000
set_option linter.unusedVariables false
set_option linter.unusedSimpArgs false
open Go.Lib (hid)
open Go.Proofs.Tryz
namespace Go.Proofs.YtgbikafalcbibaaGreatDoor
open Go.RowKit
def readP (t : ByteArray) : Option (List PN) :=
 if (signsP t).2.2 = true then
  match nodesP (signsP t).1 with
  | none => none
  | some s => if treeB s.nodes = true then some s.nodes else none
 else none
def PreC (c : UInt8) (n : Nat) (x : ByteArray) : Prop := x.size ≤ n ∧ ∀ y l, x.data.toList = y :: l → y = c
theorem pre_of {c : UInt8} {l y : List UInt8} (h : y <+: (c :: l)) : PreC c (l.length + 1) ⟨y.toArray⟩ := by
 obtain ⟨z, hz⟩ := h
 refine ⟨?_, fun a b e => ?_⟩
 ·have := congrArg List.length hz
  simp at this
  show y.toArray.size ≤ _
  simp
  omega
 ·have e' : y = a :: b := by simpa using e
  subst e'
  simp at hz
  exact hz.1
theorem pre_take (c : UInt8) (l : List UInt8) (k : Nat) : PreC c (l.length + 1) ⟨((c :: l).take k).toArray⟩ := pre_of (List.take_prefix _ _)
theorem trim_pre (l : List UInt8) (c : UInt8) : Lib.trimRightB l c <+: l := by
 unfold Lib.trimRightB
 have h : l.reverse.dropWhile (· == c) <:+ l.reverse := List.dropWhile_suffix _
 have := List.reverse_prefix.2 h
 rwa [List.reverse_reverse] at this
theorem pre_trim (c : UInt8) (l : List UInt8) (k : Nat) : PreC c (l.length + 1) (trimT ⟨((c :: l).take k).toArray⟩) := by
 unfold trimT
 refine pre_of (List.IsPrefix.trans (trim_pre _ _) ?_)
 simpa using List.take_prefix k (c :: l)
def SgGood (n : Nat) (d : SgP) : Prop := d.2.1.size ≤ n ∧ (((d.2.1.toList == [41]) = true ∨ (d.2.1.toList == [61, 62]) = true ∨ (d.2.1.toList == [44]) = true) → d.1 = 4)
theorem good_pre {c : UInt8} {n : Nat} {x : ByteArray} (h : PreC c n x) (h1 : c ≠ 41) (h2 : c ≠ 61) (h3 : c ≠ 44) (k q : Int) (b : Bool) : SgGood n (k, x, q, b) := by
 refine ⟨h.1, fun e => ?_⟩
 exfalso
 rw [ByteArray.toList_eq] at e
 rcases e with e | e | e
 ·exact h1 (h.2 41 [] (eq_of_beq e)).symm
 ·exact h2 (h.2 61 [62] (eq_of_beq e)).symm
 ·exact h3 (h.2 44 [] (eq_of_beq e)).symm
theorem fig_ne {c : UInt8} (h : figC c = true) : c ≠ 41 ∧ c ≠ 61 ∧ c ≠ 44 := by
 unfold figC at h
 have := of_decide_eq_true h
 refine ⟨?_, ?_, ?_⟩ <;> (rintro rfl; simp at this)
theorem first_ne {c : UInt8} (h : firstC c = true) : c ≠ 41 ∧ c ≠ 61 ∧ c ≠ 44 := by
 unfold firstC at h
 have := of_decide_eq_true h
 refine ⟨?_, ?_, ?_⟩ <;> (rintro rfl; simp at this)
theorem note_47 {c : UInt8} {l : List UInt8} (h : 0 < noteN (c :: l)) : c = 47 := by
 rcases Classical.em (c = 47) with e | e
 ·exact e
 ·rw [noteN_zero e] at h; omega
theorem signZ_good (c : UInt8) (l : List UInt8) (q : Nat) (b : Bool) : SgGood (l.length + 1) ((signZ (c :: l) q).1, (signZ (c :: l) q).2.1, (signZ (c :: l) q).2.2.1, b) := by
 have hz : ∀ k p, SgGood (l.length + 1) (k, ⟨#[]⟩, p, b) := fun k p => ⟨Nat.zero_le _, fun e => by
  exfalso
  rw [ByteArray.toList_eq] at e
  rcases e with e | e | e <;> cases e⟩
 unfold signZ
 by_cases hn : 0 < noteN (c :: l)
 ·rw [if_pos hn]
  have := note_47 hn
  exact good_pre (pre_trim c l _) (by rw [this]; decide) (by rw [this]; decide) (by rw [this]; decide) _ _ _
 ·rw [if_neg hn]
  by_cases h1 : firstC c = true
  ·simp only
   rw [if_pos h1]
   obtain ⟨g1, g2, g3⟩ := first_ne h1
   split
   ·exact hz _ _
   ·exact good_pre (pre_take c l _) g1 g2 g3 _ _ _
  ·simp only
   rw [if_neg h1]
   by_cases h2 : figC c = true
   ·rw [if_pos h2]
    obtain ⟨g1, g2, g3⟩ := fig_ne h2
    split
    ·exact hz _ _
    ·exact good_pre (pre_take c l _) g1 g2 g3 _ _ _
   ·rw [if_neg h2]
    by_cases h3 : c = 39
    ·rw [if_pos h3]
     exact good_pre (pre_take c l _) (by rw [h3]; decide) (by rw [h3]; decide) (by rw [h3]; decide) _ _ _
    ·rw [if_neg h3]
     refine ⟨?_, fun _ => rfl⟩
     have := markF_le (c :: l) marks04
     show (markL (c :: l)).toArray.size ≤ _
     unfold markL
     simpa using this
theorem signsF_good (l : List UInt8) (n : Nat) (hn : l.length ≤ n) : ∀ (f at_ br : Nat) (acc : List SgP), (∀ d ∈ acc, SgGood n d) → ∀ d ∈ (signsF l f at_ br acc).1, SgGood n d := by
 intro f
 induction f with
 | zero => intro at_ br acc h; exact h
 | succ f ih =>
  intro at_ br acc h
  unfold signsF
  split
  ·exact h
  ·rename_i c l' hd
   split
   ·exact ih _ _ _ h
   ·split
    ·exact ih _ _ _ h
    ·split
     ·intro d hd; cases hd
     ·refine ih _ _ _ (fun d hd2 => ?_)
      rcases List.mem_append.1 hd2 with hd2 | hd2
      ·exact h d hd2
      ·obtain rfl := List.mem_singleton.1 hd2
       have hl : l'.length + 1 ≤ n := by
        have := congrArg List.length hd
        simp at this
        omega
       have := signZ_good c l' at_ (decide (1 < br))
       exact ⟨Nat.le_trans this.1 hl, this.2⟩
theorem signsP_good (t : ByteArray) : ∀ d ∈ (signsP t).1, SgGood 3000 d := by
 unfold signsP
 split
 ·intro d hd; cases hd
 ·exact signsF_good _ 3000 (by rw [ba_len]; omega) _ _ _ _ (fun d hd => by cases hd)
theorem signs_fine (t : ByteArray) : SgFine (signsP t).1 := fun d hd => (signsP_good t d hd).1
theorem signs_marks (t : ByteArray) : MarksOk (signsP t).1 := fun d hd => (signsP_good t d hd).2
theorem read_small {t : ByteArray} {s : PS} (h : nodesP (signsP t).1 = some s) : s.nodes.length ≤ 300 ∧ PNs s.nodes := by
 obtain ⟨h1, h2⟩ := fine_nodes (signs_fine t) s h
 exact ⟨h1, fun p hp => by have := h2 p hp; exact ⟨by have := this.1; omega, by have := this.2; omega⟩⟩
theorem readP_some {t : ByteArray} {ps : List PN} (h : readP t = some ps) : treeB ps = true ∧ ps.length ≤ 300 ∧ PNs ps := by
 unfold readP at h
 split at h
 ·cases hn : nodesP (signsP t).1 with
  | none => rw [hn] at h; cases h
  | some s =>
   rw [hn] at h
   simp only at h
   split at h
   ·rename_i ht
    obtain rfl := Option.some.inj h
    exact ⟨ht, (read_small hn).1, (read_small hn).2⟩
   ·cases h
 ·cases h
theorem RdI.nps {R : RC} {d : Nat} {s : PS} {row : Option Nat} {w : World} (hi : R.imp = true) (h : RdI R d (some s) row w) :
  ∃ A c, w.cell? ⟨R.T, 4, none⟩ = some (.bool false) ∧ w.cell? ⟨R.T, 5, none⟩ = some (.slice A s.nodes.length c) ∧ (∀ i, w.frozen? ⟨R.T, i, none⟩ = false) ∧ R.T < w.heap.size ∧ Nps w A s.nodes.length s.nodes := by
 obtain ⟨a, b, AN, cN, l, hc, ⟨rfl, _, hns⟩, _⟩ := h
 obtain ⟨c0, c2, c3, c4, c5, cf, cz⟩ := hc.ci hi
 have hl : s.nodes.length = l.length := by rw [hns, List.length_map]
 refine ⟨AN, cN, c4, by rw [hl]; exact c5, cf, cz, l, ⟨hl.symm, ?_, fun x hx => (hc.2.2.1.1 x hx).2.rd⟩, fun x hx => (hc.2.2.1.1 x hx).1.1, hns.symm⟩
 rw [hl]; exact hc.2.1.rd
theorem RdI.set4 {R : RC} {d : Nat} {s : PS} {row : Option Nat} {w : World} (hi : R.imp = true) (h : RdI R d (some s) row w) : RdI R d (some s) row (w.setCell ⟨R.T, 4, none⟩ (.bool false)) := by
 obtain ⟨a, b, AN, cN, l, hc, ⟨rfl, h1, h2⟩, hrow⟩ := h
 have := hc.set (i := 4) (u := .bool false) (a' := a) (d' := d) (b' := false) (by unfold RC.cells; rw [if_pos hi]; simp) hc.2.2.2.2.1
 exact ⟨a, false, AN, cN, l, this.1, ⟨rfl, h1, h2⟩, hrow⟩
theorem RdI.set4b {R : RC} {d : Nat} {st : RdSt} {row : Option Nat} {w : World} (hi : R.imp = true) (h : RdI R d st row w) : (w.setCell ⟨R.T, 4, none⟩ (.bool true)).cell? ⟨R.T, 4, none⟩ = some (.bool true) ∧ R.T < (w.setCell ⟨R.T, 4, none⟩ (.bool true)).heap.size := by
 obtain ⟨a, b, AN, cN, l, hc, hst, hrow⟩ := h
 obtain ⟨a', b', AN', cN', l', hc', hb', _⟩ := (RdI.bad1 hi hc hrow).1
 obtain ⟨c0, c2, c3, c4, c5, cf, cz⟩ := hc'.ci hi
 obtain rfl : b' = true := hb'
 exact ⟨c4, cz⟩
def RdR (t : ByteArray) (w : World) (e : Ending) (w' : World) : Prop :=
 ∃ (T : Nat) (p : Int), e = .returned (.tuple #[.pointer (some ⟨T, 0, none⟩), .int .i64 p]) ∧ w'.cell? ⟨T, 4, none⟩ = some (.bool (readP t).isNone) ∧ T < w'.heap.size ∧ Below w.heap.size w w' ∧ ∀ ps, readP t = some ps → p = 0 ∧ ∃ A c, w'.cell? ⟨T, 5, none⟩ = some (.slice A ps.length c) ∧ Nps w' A ps.length ps
theorem readP_no {t : ByteArray} (h : (signsP t).2.2 = false) : readP t = none := by unfold readP; rw [h]; rfl
theorem readP_none {t : ByteArray} (h : (signsP t).2.2 = true) (hn : nodesP (signsP t).1 = none) : readP t = none := by unfold readP; rw [h, if_pos rfl, hn]
theorem readP_ok {t : ByteArray} (h : (signsP t).2.2 = true) {s : PS} (hn : nodesP (signsP t).1 = some s) : readP t = if treeB s.nodes = true then some s.nodes else none := by unfold readP; rw [h, if_pos rfl, hn]
theorem readSource_any (t : ByteArray) (w : World) (ht : t.size ≤ 1048576) : Calls prog 82 #[.string t] w (RdR t w) := by
 have HS := hid (implSignsOf_any t w ht)
 have hsl := signsP_len t
 have HN1 := hid (fun h => readP_no (t := t) h)
 have HN2 := hid (fun h1 h2 => readP_none (t := t) h1 h2)
 have HN3 := hid (fun h1 (s : PS) h2 => readP_ok (t := t) h1 (s := s) h2)
 have HSm := hid (fun (s : PS) h => read_small (t := t) (s := s) h)
 unfold RdR
 unfold SignsM at HS
 generalize readP t = RP at HN1 HN2 HN3 ⊢
 generalize signsP t = Z at HS hsl HN1 HN2 HN3 HSm
 obtain ⟨sg, pl, ok⟩ := Z
 dsimp only at HS hsl HN1 HN2 HN3 HSm
 obtain ⟨n, hn⟩ : ∃ n, sg.length = n := ⟨_, rfl⟩
 rw [hn] at HS hsl
 go_enter func82, ntmps82
 go_wp2_with fail
 refine HS.out.mono ?_
 rintro e w1 ⟨A, c, rfl, m1, h1⟩
 have hsz1 := h1.size
 have HM1 := hid m1
 have HB1 := hid h1
 clear m1 h1 HS
 cases ok with
 | false =>
  have hr := HN1.out (by trivial)
  subst hr
  have K := Blk.new w1 105 #[.slice A n c, .int .i64 t.size, .int .i64 0, .int .i64 0, .bool true, .slice none 0 0, .slice none 0 0]
  have k4 := K.q4
  have kz := K.lt
  have HKb := hid (HB1.out.alloc hsz1 (.cells #[.slice A n c, .int .i64 t.size, .int .i64 0, .int .i64 0, .bool true, .slice none 0 0, .slice none 0 0] 105))
  clear K HN1 HN2 HN3 HSm
  go_wp2
  go_ret2
  exact ⟨w1.heap.size, pl, rfl, k4, kz, HKb.out, fun ps h => by cases h⟩
 | true =>
  obtain ⟨R, hR⟩ : ∃ R : RC, R = ⟨true, w1.heap.size, A, n, c, t.size, .slice none 0 0, sg, w1, fun _ => False⟩ := ⟨_, rfl⟩
  have K := Blk.new w1 105 #[.slice A n c, .int .i64 t.size, .int .i64 0, .int .i64 0, .bool false, .slice none 0 0, .slice none 0 0]
  have hI0 : RdI R 0 (some ⟨0, []⟩) none (w1.alloc (.cells #[.slice A n c, .int .i64 t.size, .int .i64 0, .int .i64 0, .bool false, .slice none 0 0, .slice none 0 0] 105)) := by
   subst hR
   exact ⟨0, false, none, 0, [], ⟨K, Mine.mk_nil _ _ _ _, ⟨fun x hx => absurd hx (by simp), fun g hg => False.elim hg⟩, by simp, Nat.zero_le _, (Below.refl _ _).alloc (Nat.le_refl _) _, ⟨hn, hsl, HM1.out.rd, Nat.le_refl _⟩⟩, ⟨rfl, rfl, rfl⟩, rfl⟩
  have hRi : R.imp = true := by rw [hR]
  have hRT : R.T = w1.heap.size := by rw [hR]
  have hRn : R.n = n := by rw [hR]
  have hRM : R.M = .slice none 0 0 := by rw [hR]
  have hRg : R.sg = sg := by rw [hR]
  have hRA : R.A = A ∧ R.c = c := by rw [hR]; exact ⟨rfl, rfl⟩
  have hF := file_step R hRi (n + 2) (14 * (n + 2)) (by rw [hRn]; omega) (by omega) (by rw [hRn]; omega) (ec_all R hRi (n + 2) (by rw [hRn]; omega) _) (some ⟨0, []⟩) none _ hI0 hRM
  have hnp : fileS R.sg (exprF R.sg (n + 2) (14 * (n + 2))) (n + 2) (some ⟨0, []⟩) = nodesP sg := by rw [hRg]; unfold nodesP; rw [hn]
  rw [hnp, hRT] at hF
  have HF := hid hF
  have HB2 := hid (HB1.out.alloc hsz1 (.cells #[.slice A n c, .int .i64 t.size, .int .i64 0, .int .i64 0, .bool false, .slice none 0 0, .slice none 0 0] 105))
  have hRw : R.w0 = w1 := by rw [hR]
  clear hF hnp K hI0
  go_wp2_with fail
  refine HF.out.mono ?_
  rintro e w2 ⟨rfl, v, row', hI2, hK2⟩
  have HBw : Hid (Below w.heap.size w w2) := (show Below w.heap.size w w2 from HB1.out.trans (by have := hI2.old; rw [show (R.mem v).w0 = w1 from hRw] at this; exact this.mono hsz1))
  have hz2 := hI2.old.size
  cases hnd : nodesP sg with
  | none =>
   have hr := HN2.out (by trivial) hnd
   subst hr
   rw [hnd] at hI2
   obtain ⟨a, b, AN, cN, l, hc, hb, hrow⟩ := hI2
   obtain ⟨c0, c2, c3, c4, c5, cf, cz⟩ := RdC.ci (R := R.mem v) hRi hc
   obtain rfl : b = true := hb
   have han := hc.2.2.2.2.1
   have hlen2 := hc.2.2.2.2.2.2.rd.below hc.2.2.2.2.2.1
   change w2.cell? ⟨R.T, 0, none⟩ = some (.slice R.A R.n R.c) at c0
   change w2.cell? ⟨R.T, 2, none⟩ = _ at c2
   change w2.cell? ⟨R.T, 4, none⟩ = _ at c4
   change R.T < _ at cz
   change a ≤ R.n at han
   change Rd w2 4 R.A R.n (R.sg.flatMap sgCells) at hlen2
   rw [hRT] at c0 c2 c4 cz
   rw [hRA.1, hRn, hRA.2] at c0
   rw [hRn] at han
   rw [hRA.1, hRn, hRg] at hlen2
   clear hc c3 c5 cf hrow HF HN1 HN2 HN3 HSm hRM hRg hRA hRT hRn hRi hRw
   by_cases hlt : a < n
   ·obtain ⟨x, hx⟩ : ∃ x, sg[a]? = some x := ⟨_, gE (by omega)⟩
    obtain ⟨b1, off, hA, hblt, e0, e1, e2, e3⟩ := sgn_at hlen2 hlt hx
    subst hA
    have hlt' : (a : Int) < n := by omega
    clear hlen2 hx e0 e1 e3
    go_wp2
    go_quiet (fail)
    go_wp2
    go_ret2
    exact ⟨w1.heap.size, _, rfl, c4, cz, below_next HBw.out (below_drewN (Below.refl _ _) _), fun ps h => by cases h⟩
   ·have hlt' : ¬ (a : Int) < n := by omega
    clear hlen2
    go_wp2
    go_ret2
    exact ⟨w1.heap.size, _, rfl, c4, cz, HBw.out, fun ps h => by cases h⟩
  | some s =>
   have hr := HN3.out (by trivial) s hnd
   obtain ⟨hs1, hs2⟩ := HSm.out s hnd
   rw [hnd] at hI2
   obtain ⟨A2, c2', c4, c5, cf, cz, hnps⟩ := RdI.nps (R := R.mem v) hRi hI2
   change w2.cell? ⟨R.T, 4, none⟩ = _ at c4
   change w2.cell? ⟨R.T, 5, none⟩ = _ at c5
   change ∀ i, w2.frozen? ⟨R.T, i, none⟩ = false at cf
   change R.T < _ at cz
   rw [hRT] at c4 c5 cf cz
   have HI2 := hid hI2
   have HRi := hid hRi
   have HT := hid (implTreeOk_any A2 s.nodes.length c2' s.nodes w2 (by omega) hnps (hid hs2))
   have hz := HB1.out.size
   have HRT := hid hRT
   clear hnps hs2 hI2 HF HN1 HN2 HN3 HSm hRM hRg hRA hRT hRn hRi hRw hnd
   cases htr : treeB s.nodes with
   | true =>
    rw [htr, if_pos rfl] at hr
    rw [htr] at HT
    subst hr
    clear htr
    go_wp2_with fail
    refine HT.out.mono ?_
    rintro e w3 ⟨rfl, h3⟩
    have c4' := ((bcell h3).1 _ 4 cz).trans c4
    have c5' := ((bcell h3).1 _ 5 cz).trans c5
    have cf' : ∀ i, w3.frozen? ⟨w1.heap.size, i, none⟩ = false := fun i => ((bcell h3).2 _ i cz).trans (cf i)
    have cz' := Nat.lt_of_lt_of_le cz h3.size
    obtain ⟨A4, c4n, q4, q5, _, qz, hnp4⟩ := RdI.nps (R := R.mem v) HRi.out (RdI.set4 (R := R.mem v) HRi.out (HI2.out.next h3))
    change (w3.setCell ⟨R.T, 4, none⟩ (.bool false)).cell? ⟨R.T, 4, none⟩ = _ at q4
    change (w3.setCell ⟨R.T, 4, none⟩ (.bool false)).cell? ⟨R.T, 5, none⟩ = _ at q5
    change R.T < (w3.setCell ⟨R.T, 4, none⟩ (.bool false)).heap.size at qz
    change Nps (w3.setCell ⟨R.T, 4, none⟩ (.bool false)) _ _ _ at hnp4
    rw [HRT.out] at q4 q5 qz hnp4
    have H4 := hid (And.intro q4 (And.intro q5 (And.intro qz hnp4)))
    clear q4 q5 qz hnp4
    have HB3 := hid ((below_next HBw.out h3).setCell (show w.heap.size ≤ (⟨w1.heap.size, 4, none⟩ : Addr).block from hsz1) (.bool false))
    clear h3 c4 c5 cf cz HT
    go_wp2
    go_ret2
    exact ⟨w1.heap.size, _, rfl, H4.out.1, H4.out.2.2.1, HB3.out, fun ps h => by obtain rfl := Option.some.inj h; exact ⟨rfl, A4, c4n, H4.out.2.1, H4.out.2.2.2⟩⟩
   | false =>
    rw [htr, if_neg (by decide)] at hr
    rw [htr] at HT
    subst hr
    clear htr
    go_wp2_with fail
    refine HT.out.mono ?_
    rintro e w3 ⟨rfl, h3⟩
    have hb4 := RdI.set4b (R := R.mem v) HRi.out (HI2.out.next h3)
    change (w3.setCell ⟨R.T, 4, none⟩ (.bool true)).cell? ⟨R.T, 4, none⟩ = _ ∧ R.T < _ at hb4
    rw [HRT.out] at hb4
    have H4 := hid hb4
    clear hb4
    have c4' := ((bcell h3).1 _ 4 cz).trans c4
    have cf' : ∀ i, w3.frozen? ⟨w1.heap.size, i, none⟩ = false := fun i => ((bcell h3).2 _ i cz).trans (cf i)
    have cz' := Nat.lt_of_lt_of_le cz h3.size
    have HB3 := hid ((below_next HBw.out h3).setCell (show w.heap.size ≤ (⟨w1.heap.size, 4, none⟩ : Addr).block from hsz1) (.bool true))
    clear h3 c4 c5 cf cz HT
    go_wp2
    go_ret2
    exact ⟨w1.heap.size, _, rfl, H4.out.1, H4.out.2, HB3.out, fun ps h => by cases h⟩
theorem implRead_none (t : ByteArray) (w : World) (ht : t.size ≤ 1048576) (h : readP t = none) : Calls prog 52 #[.string t] w fun e w' => ∃ p : Int, e = .returned (.tuple #[.slice none 0 0, .int .i64 p, .bool false]) ∧ Below w.heap.size w w' := by
 have HS := readSource_any t w ht
 unfold RdR at HS
 rw [h] at HS
 have HS := hid HS
 clear h
 go_enter func52, ntmps52
 go_wp2_with fail
 refine HS.out.mono ?_
 rintro e w1 ⟨T, p, rfl, c4, cz, hb, _⟩
 have HB := hid hb
 change w1.cell? ⟨T, 4, none⟩ = some (.bool true) at c4
 clear hb
 go_wp2
 refine bodyPost_ret (by simp [results, Tryz.results52, go_sem,]; try rfl) rfl ?_
 exact ⟨p, rfl, HB.out⟩
def NpsM (w : World) (B : Nat) (A : Option Addr) (n c : Nat) (ps : List PN) : Prop :=
 ∃ l : List Nd, Mine w B 36 4 A n c (l.flatMap nodeCells) ∧ l.length = n ∧ (∀ x ∈ l, KidsIn w B (fun _ => False) x) ∧ l.map Nd.pn = ps
section
variable {w w' : World} {B n c : Nat} {A : Option Addr} {ps : List PN}
theorem NpsM.nps (h : NpsM w B A n c ps) : Nps w A n ps := by
 obtain ⟨l, hm, hl, hk, rfl⟩ := h
 exact ⟨l, ⟨hl, hm.rd, fun x hx => (hk x hx).2.rd⟩, fun x hx => (hk x hx).1.1, rfl⟩
theorem NpsM.next (h : NpsM w B A n c ps) (hb : Below w.heap.size w w') : NpsM w' B A n c ps := by
 obtain ⟨l, hm, hl, hk, e⟩ := h
 exact ⟨l, hm.next hb, hl, fun x hx => (hk x hx).next hb, e⟩
theorem NpsM.more {B' : Nat} (h : NpsM w B A n c ps) (hb : B' ≤ B) : NpsM w B' A n c ps := by
 obtain ⟨l, hm, hl, hk, e⟩ := h
 exact ⟨l, hm.more hb, hl, fun x hx => ⟨(hk x hx).1, (hk x hx).2.more hb⟩, e⟩
theorem NpsM.grown {r : Option Nat} (h : NpsM w B A n c ps) (hg : w.grownBy w' r) (hr : ∀ g, r = some g → ∃ t cs, Blk w g t cs ∧ t ≠ 36 ∧ t ≠ 3) : NpsM w' B A n c ps := by
 obtain ⟨l, hm, hl, hk, e⟩ := h
 have hne : ∀ g t cs, Blk w g t cs → (t = 36 ∨ t = 3) → some g ≠ r := fun g t cs hb ht e2 => by
  obtain ⟨t', cs', hb', h1, h2⟩ := hr g e2.symm
  rcases ht with rfl | rfl
  ·exact blk_ne hb hb' (Ne.symm h1) rfl
  ·exact blk_ne hb hb' (Ne.symm h2) rfl
 have key : ∀ {t : TypeId} {s n c : Nat} {A : Option Addr} {xs : List Value}, (t = 36 ∨ t = 3) → Mine w B t s A n c xs → Mine w' B t s A n c xs := fun ht hm => by
  have hl2 := hm.len
  rcases hm.own with ⟨e1, e2, e3⟩ | ⟨g', e1, hB, hn, hc, rest, hb', hs⟩
  ·rw [e1, e2, e3]; exact ⟨by rw [hl2, e2], .inl ⟨rfl, rfl⟩⟩
  ·rw [e1]; exact Mine.mk_own ⟨rest, hb'.grown hg (hne _ _ _ hb' ht), hs⟩ hl2 hB hn hc
 exact ⟨l, key (.inl rfl) hm, hl, fun x hx => ⟨(hk x hx).1, key (.inr rfl) (hk x hx).2⟩, e⟩
theorem NpsM.none_ (h : Mine w B 36 4 A 0 c []) : NpsM w B A 0 c [] := ⟨[], h, rfl, (fun x hx => by cases hx), rfl⟩
end
theorem RdI.snps {R : RC} {d : Nat} {s : PS} {row : Option Nat} {w : World} (hi : R.imp = false) (h : RdI R d (some s) row w) :
  ∃ A c, w.cell? ⟨R.T, 2, none⟩ = some (.bool false) ∧ w.cell? ⟨R.T, 4, none⟩ = some (.slice A s.nodes.length c) ∧ (∀ i, w.frozen? ⟨R.T, i, none⟩ = false) ∧ R.T < w.heap.size ∧ NpsM w R.w0.heap.size A s.nodes.length c s.nodes := by
 obtain ⟨a, b, AN, cN, l, hc, ⟨rfl, _, hns⟩, _⟩ := h
 obtain ⟨c0, c1, c2, c3, c4, cf, cz⟩ := hc.cs hi
 have hl : s.nodes.length = l.length := by rw [hns, List.length_map]
 refine ⟨AN, cN, c2, by rw [hl]; exact c4, cf, cz, l, ?_, hl.symm, fun x hx => ⟨⟨(hc.2.2.1.1 x hx).1.1, fun _ _ h => h⟩, (hc.2.2.1.1 x hx).2⟩, hns.symm⟩
 rw [hl]; exact hc.2.1
def SRd (t : ByteArray) (w : World) (e : Ending) (w' : World) : Prop :=
 Below w.heap.size w w' ∧ match readP t with
  | none => ∃ (g : Nat) (p : Int), e = .returned (.tuple #[.slice (some ⟨g, 0, none⟩) 0 0, .int .i64 p, .bool false]) ∧ NpsM w' w.heap.size (some ⟨g, 0, none⟩) 0 0 []
  | some ps => ∃ A c, e = .returned (.tuple #[.slice A ps.length c, .int .i64 0, .bool true]) ∧ NpsM w' w.heap.size A ps.length c ps
theorem file_none {sg : List SgP} {E : Md → Nat → RdSt → PR} {N M : Nat} {ks : List Int} {st : RdSt} (h : restB sg st = false) : fileF sg E N M ks st = (ks, st) := by
 cases M with
 | zero => rfl
 | succ M => unfold fileF; rw [h, if_neg (by decide)]
theorem specRead_any (t : ByteArray) (w : World) (ht : t.size ≤ 1048576) : Calls prog 18 #[.string t] w (SRd t w) := by
 obtain ⟨i0, hi0, hz0, hz1, hz2⟩ := info_parts infoInt
 have HII := hid (And.intro hi0 (And.intro hz0 (And.intro hz1 hz2)))
 clear hi0 hz0 hz1 hz2
 have HS := hid (fun W => specSignsOf_any t W ht)
 have hsl := signsP_len t
 have HN1 := hid (fun h => readP_no (t := t) h)
 have HN2 := hid (fun h1 h2 => readP_none (t := t) h1 h2)
 have HN3 := hid (fun h1 (s : PS) h2 => readP_ok (t := t) h1 (s := s) h2)
 have HSm := hid (fun (s : PS) h => read_small (t := t) (s := s) h)
 have HMk := hid (signs_marks t)
 unfold SRd
 unfold SignsM at HS
 generalize readP t = RP at HN1 HN2 HN3 ⊢
 generalize signsP t = Z at HS hsl HN1 HN2 HN3 HSm HMk
 obtain ⟨sg, pl, ok⟩ := Z
 dsimp only at HS hsl HN1 HN2 HN3 HSm HMk
 obtain ⟨n, hn⟩ : ∃ n, sg.length = n := ⟨_, rfl⟩
 rw [hn] at HS hsl
 go_enter func18, ntmps18
 go_wp2_with fail
 refine (HS.out _).mono ?_
 rintro e w1 ⟨A, c, rfl, m1, h1⟩
 have HB1 := hid (((Below.refl w.heap.size w).alloc (Nat.le_refl _) (.cells #[] 36)).trans (h1.mono (by simp)))
 have hsz1 := HB1.out.size
 have HM1 := hid (m1.rd)
 have HE1 := hid (NpsM.none_ (Mine.next (own_empty w 36 4) h1))
 clear m1 h1 HS
 cases ok with
 | false =>
  have hr := HN1.out (by trivial)
  subst hr
  clear HN1 HN2 HN3 HSm HMk
  go_wp2
  refine bodyPost_ret (by simp [results, Tryz.results18, go_sem,]; try rfl) rfl ?_
  refine ⟨HB1.out, ?_⟩
  first
   | exact ⟨_, _, rfl, HE1.out⟩
   | exact ⟨_, rfl, HE1.out⟩
   | exact ⟨_, ⟨_, rfl⟩, HE1.out⟩
 | true =>
  obtain ⟨R, hR⟩ : ∃ R : RC, R = ⟨false, w1.heap.size, A, n, c, 0, .slice none 0 0, sg, w1, fun _ => False⟩ := ⟨_, rfl⟩
  have K := Blk.new w1 62 #[.slice A n c, .int .i64 0, .bool false, .int .i64 0, .slice none 0 0]
  have hI0 : RdI R 0 (some ⟨0, []⟩) none (w1.alloc (.cells #[.slice A n c, .int .i64 0, .bool false, .int .i64 0, .slice none 0 0] 62)) := by
   subst hR
   exact ⟨0, false, none, 0, [], ⟨K, Mine.mk_nil _ _ _ _, ⟨fun x hx => absurd hx (by simp), fun g hg => False.elim hg⟩, by simp, Nat.zero_le _, (Below.refl _ _).alloc (Nat.le_refl _) _, ⟨hn, hsl, HM1.out, Nat.le_refl _⟩⟩, ⟨rfl, rfl, rfl⟩, rfl⟩
  have hi : R.imp = false := by rw [hR]
  have hRT : R.T = w1.heap.size := by rw [hR]
  have hRn : R.n = n := by rw [hR]
  have hRg : R.sg = sg := by rw [hR]
  have hRA : R.A = A := by rw [hR]
  have hRc : R.c = c := by rw [hR]
  have hRw : R.w0 = w1 := by rw [hR]
  have hRU : ∀ g, ¬ R.U g := fun g h => by rw [hR] at h; exact h
  have HI1 := hid (hI0.res_new (A := some ⟨w1.heap.size + 1, 0, none⟩) ((Below.refl _ _).alloc (Nat.le_refl _) (.cells #[] 3)) (fun g hg => by simp at hg; subst hg; simp))
  have HM2 := hid ((kid0 (w1.alloc (.cells #[.slice A n c, .int .i64 0, .bool false, .int .i64 0, .slice none 0 0] 62))).more (B' := w1.heap.size) (by simp))
  rw [World.size_alloc] at HM2
  clear K hR hI0
  go_upto_region 7 with fail
  generalize (w1.alloc (.cells #[.slice A n c, .int .i64 0, .bool false, .int .i64 0, .slice none 0 0] 62)).alloc (.cells #[] 3) = W3 at HI1 HM2 ⊢
  rw [← hRT] at HI1 HM2 ⊢
  subst hRn hRg hRA hRc hRw
  have HLo : Hid (R.Lo R.w0.heap.size) := (show R.Lo _ from ⟨Nat.le_refl _, fun g h => (hRU g h).elim⟩)
  have HSC := hid (sc_all R hi HMk.out (R.n + 2) (by omega) (14 * (R.n + 2)))
  have hnp : nodesP R.sg = (addS (fileF R.sg (exprF R.sg (R.n + 2) (14 * (R.n + 2))) (R.n + 2) (R.n + 2) [] (some ⟨0, []⟩)).2 ⟨22, noT, (fileF R.sg (exprF R.sg (R.n + 2) (14 * (R.n + 2))) (R.n + 2) (R.n + 2) [] (some ⟨0, []⟩)).1, false⟩).2 := by
   unfold nodesP fileS
   rw [hn]
  have HO : Hid (∀ (U : Nat → Prop) (t : PS) (row : Option Nat) (w : World), RdI { R with U := U } 0 (some t) row w → Calls prog 44 #[.pointer (some ⟨R.T, 0, none⟩), .bool true] w (fun e w' => e = .returned (.int .i64 (topS R.sg (exprF R.sg (R.n + 2) (14 * (R.n + 2))) (R.n + 2) false (some t)).1) ∧ ∃ row', RdI { R with U := U } 0 (topS R.sg (exprF R.sg (R.n + 2) (14 * (R.n + 2))) (R.n + 2) false (some t)).2 row' w' ∧ Kr R.T row w row' w')) := (show ∀ U t row w, _ → _ from fun U t row w h => smember_top { R with U := U } hi (R.n + 2) (14 * (R.n + 2)) (Nat.le_refl _) (show 14 * (R.n + 2) ≤ 100000 by omega) (show R.n < R.n + 2 by omega) (sc_u U HSC.out) (some t) row w h)
  have HONE : Hid (∀ b st, topS R.sg (exprF R.sg (R.n + 2) (14 * (R.n + 2))) (R.n + 2) b st = blankR b (topS R.sg (exprF R.sg (R.n + 2) (14 * (R.n + 2))) (R.n + 2) false st)) := (show ∀ b st, _ from fun b st => top_blank b st)
  have HNN : Hid (∀ st, 0 ≤ (topS R.sg (exprF R.sg (R.n + 2) (14 * (R.n + 2))) (R.n + 2) false st).1) := (show ∀ st, _ from fun st => top_nn false st)
  have HA2 : Hid (∀ b st, Adv 1 1 st (topS R.sg (exprF R.sg (R.n + 2) (14 * (R.n + 2))) (R.n + 2) b st).2) := (show ∀ b st, _ from fun b st => adv_top (fun m d st => adv_expr _ m d st) b st)
  obtain ⟨N, hNN⟩ : ∃ N, R.n + 2 = N := ⟨_, rfl⟩
  have hN : R.n < N := by omega
  rw [hNN] at hnp HO HONE HNN HA2
  generalize exprF R.sg N (14 * N) = E at hnp HO HONE HNN HA2
  obtain ⟨Q, hQ⟩ : ∃ Q, fileF R.sg E N N [] (some ⟨0, []⟩) = Q := ⟨_, rfl⟩
  rw [hQ] at hnp
  have HQ := hid hQ
  have HNP := hid hnp
  have HZ1 := hid hsz1
  have HRA : Hid (R.A = R.A) := (show R.A = R.A from rfl)
  have HRT := hid hRT
  clear HSC hnp hQ hNN HMk hRU HN1 hRT
  go_loopw [10] (fun v wr => ∃ (M : Nat) (ks : List Int) (st' : RdSt) (row' : Option Nat) (A' : Option Addr) (c' : Nat), v = .slice A' ks.length c' ∧ Hid (fileF R.sg E N M ks st' = Q) ∧ Hid (Enough R.n M st') ∧ Hid (KidB ks st') ∧ Hid (Mine wr R.w0.heap.size 3 1 A' ks.length c' (intCells ks)) ∧ Hid (RdI (R.res A') 0 st' row' wr)) (fun _ wr => measP R wr)
  case atStart => exact ⟨N, [], some ⟨0, []⟩, none, _, 0, rfl, HQ, (show Enough _ _ _ from enough_of hN _), ⟨by simp, fun s _ => by simp⟩, by rw [← HRT.out]; exact HM2, HI1⟩
  case round =>
   clear HQ HM2 HI1
   obtain ⟨M, ks, st', row', A', c', rfl, HQ, HEn, HKB, HM, HI⟩ := hrel
   have HIo := HI
   cases st' with
   | none =>
    obtain ⟨a, b, AN, cN, l, hc, hb, hrow⟩ := HI.out
    obtain ⟨c1, c2, c3, cf, cz⟩ := hc.csu _ hi
    obtain rfl : b = true := hb
    have hq := HQ.out
    rw [file_none (show restB R.sg none = false from rfl)] at hq
    clear hc hrow c1 c3
    have HNE : Hid (nodesP R.sg = (addS none ⟨22, noT, ks, false⟩).2) := (show _ = _ by rw [HNP.out, ← hq])
    have HIE := hid HI.out.unres
    go_wp2_with fail
    refine (putK R.U hi 0 none _ 22 noT A' ks.length c' ks R.w0.heap.size _ HIE.out HM.out HLo.out).mono ?_
    rintro e w5 ⟨rfl, row5, h5, k5⟩
    rw [← HNE.out] at h5
    have HI5 : Hid (RdI R 0 (nodesP R.sg) row5 w5) := h5
    have HB5 : Hid (Below w.heap.size w w5) := (show Below w.heap.size w w5 from HB1.out.trans (by have := HI5.out.old; exact this.mono HZ1.out))
    have HE5 := hid (HE1.out.next HI5.out.old)
    clear h5 k5 HIE HNE HQ hq
    cases hnd : nodesP R.sg with
    | none =>
     rw [hnd] at HI5
     have hr := HN2.out (by trivial) hnd
     have HR5 : RdI R 0 none row5 w5 := HI5.out
     obtain ⟨a5, b5, AN5, cN5, l5, hc5, hb5, hrow5⟩ := id HR5
     obtain ⟨x0, x1, x2, x3, x4, xf, xz⟩ := hc5.cs hi
     obtain rfl : b5 = true := hb5
     have hok5 : R.Ok := HR5.ok
     have hrd5 := hok5.rd.below HR5.old
     have hlen5 := hok5.len
     subst hr
     clear HR5 hc5 hrow5 x3 x4 hok5
     rcases Nat.lt_or_ge a5 R.n with hlt5 | hge5
     ·obtain ⟨x, hx⟩ : ∃ x, R.sg[a5]? = some x := ⟨_, gE (by omega)⟩
      obtain ⟨b6, off, hA, hblt, e0, e1, e2, e3⟩ := sgn_at hrd5 hlt5 hx
      have hlt6 : (a5 : Int) < (R.n : Int) := by omega
      rw [hA] at x0 ⊢
      clear hrd5 hx e0 e1 e3 hA
      go_wp2
      go_quiet (fail)
      go_wp2
      refine bodyPost_ret (by simp [results, Tryz.results18, go_sem,]; try rfl) rfl ?_
      exact ⟨below_next HB5.out (below_drewN (Below.refl _ _) _), by first | exact ⟨_, _, rfl, HE5.out.next (below_drewN (Below.refl _ _) _)⟩ | exact ⟨_, rfl, HE5.out.next (below_drewN (Below.refl _ _) _)⟩ | exact ⟨_, ⟨_, rfl⟩, HE5.out.next (below_drewN (Below.refl _ _) _)⟩⟩
     ·have hlt6 : ¬ (a5 : Int) < (R.n : Int) := by omega
      have hlt7 : decide ((a5 : Int) < (R.n : Int)) = false := decide_eq_false hlt6
      clear hrd5
      go_wp2
      refine bodyPost_ret (by simp [results, Tryz.results18, go_sem,]; try rfl) rfl ?_
      exact ⟨HB5.out, by first | exact ⟨_, _, rfl, HE5.out⟩ | exact ⟨_, rfl, HE5.out⟩ | exact ⟨_, ⟨_, rfl⟩, HE5.out⟩⟩
    | some s =>
     rw [hnd] at HI5
     obtain ⟨hs1, hs2⟩ := HSm.out s hnd
     have hr := HN3.out (by trivial) s hnd
     have HR5 : Hid (RdI R 0 (some s) row5 w5) := HI5
     obtain ⟨A6, c6, y2, y4, yf, yz, hnps⟩ := RdI.snps hi HR5.out
     have HT := hid (specTreeOk_any A6 s.nodes.length c6 s.nodes w5 (by omega) hnps.nps (hid hs2))
     clear hs2 hnps
     rcases bft (treeB s.nodes) with htr | htr
     ·rw [if_pos htr] at hr
      rw [htr] at HT
      subst hr
      clear htr
      go_wp2_with fail
      refine HT.out.mono ?_
      rintro e w6 ⟨rfl, h6⟩
      obtain ⟨A7, c7, z2, z4, zf, zz, hn7⟩ := RdI.snps hi (HR5.out.next h6)
      have HB6 := hid (below_next HB5.out h6)
      have HNP7 := hid (hn7.more HZ1.out)
      clear y2 y4 yf yz h6 hn7 HT
      go_wp2
      refine bodyPost_ret (by simp [results, Tryz.results18, go_sem,]; try rfl) rfl ?_
      exact ⟨HB6.out, A7, c7, rfl, HNP7.out⟩
     ·rw [if_neg (by rw [htr]; decide)] at hr
      rw [htr] at HT
      subst hr
      clear htr
      go_wp2_with fail
      refine HT.out.mono ?_
      rintro e w6 ⟨rfl, h6⟩
      have HB6 := hid (below_next HB5.out h6)
      have HE6 := hid (HE5.out.next h6)
      clear y2 y4 yf yz h6 HT
      go_wp2
      refine bodyPost_ret (by simp [results, Tryz.results18, go_sem,]; try rfl) rfl ?_
      exact ⟨HB6.out, by first | exact ⟨_, _, rfl, HE6.out⟩ | exact ⟨_, rfl, HE6.out⟩ | exact ⟨_, ⟨_, rfl⟩, HE6.out⟩⟩
   | some t =>
    obtain ⟨a, b, AN, cN, l, hc, hb, hrow⟩ := HI.out
    obtain ⟨c1, c2, c3, cf, cz⟩ := hc.csu _ hi
    obtain ⟨rfl, hta, _⟩ := hb
    have han : a ≤ R.n := hc.2.2.2.2.1
    rcases Nat.lt_or_ge a R.n with hlt | hge
    ·obtain ⟨M, rfl⟩ : ∃ M', M = M' + 1 := ⟨M - 1, by
      have h1 := HEn.out t rfl
      omega⟩
     have hlt' : (a : Int) < (R.n : Int) := by omega
     have hlt7 : decide ((a : Int) < (R.n : Int)) = true := decide_eq_true hlt'
     have hq := HQ.out
     unfold fileF at hq
     rw [if_pos (show restB R.sg (some t) = true from decide_eq_true (by omega))] at hq
     clear hc hrow c3 HQ
     have HX := hid (fun (row : Option Nat) (W : World) h => sblank_any (R.res A') hi 0 t row W h)
     have hbl : blankB R.sg (some t) ks = ((sgAt R.sg (some t) 0).2.2.2 && decide (0 < ks.length)) := rfl
     rw [hbl] at hq
     have hsr : (R.res A').sg = R.sg := rfl
     rw [hsr] at HX
     generalize sgAt R.sg (some t) 0 = x at HX hq hbl
     obtain ⟨xk, xt, xp, xz⟩ := x
     dsimp only at HX hq hbl
     clear hbl hsr
     have hkb1 := HKB.out.2 t rfl
     have hnb := (HI.out.le rfl).2
     have hkb := HKB.out.1
     have hadv3 := HA2.out (xz && decide (0 < ks.length)) (some t)
     rw [HONE.out] at hq hadv3
     have hnn := HNN.out (some t)
     have HC := hid (fun (row : Option Nat) (W : World) h => HO.out (fun x => R.U x ∨ A'.map (·.block) = some x) t row W h)
     generalize topS R.sg E N false (some t) = r at hq hadv3 hnn HC
     obtain ⟨kc, st3⟩ := r
     unfold blankR at hq hadv3
     dsimp only at hq hadv3 hnn HC
     have HAK : Hid (KidB (ks ++ [kc]) (blankK kc (xz && decide (0 < ks.length)) st3)) := (show KidB _ _ from ⟨by rw [lA]; simp; omega, fun t2 e => by
      obtain ⟨s'', e2, _, h3⟩ := hadv3 t2 e
      obtain rfl := Option.some.inj e2
      rw [lA]
      simp
      omega⟩)
     have HAN : Hid (Enough R.n M (blankK kc (xz && decide (0 < ks.length)) st3)) := HEn.out.adv (i := 0) hadv3
     have hlk : (ks ++ [kc]).length = ks.length + 1 := by simp
     have HQ3 := hid hq
     have HAD3 := hid hadv3
     clear hq hadv3
     cases xz with
     | false =>
      rw [Bool.false_and] at HAK HAN HQ3 HAD3
      go_wp2_with fail
      refine (HX.out _ _ HI.out).mono ?_
      rintro e w3 ⟨rfl, g3⟩
      have HI3 := hid (HI.out.next g3)
      have HM3 := hid (HM.out.next g3)
      clear c1 c2 cf cz g3 HX HM
      go_wp2_with fail
      refine (HC.out _ _ HI3.out).mono ?_
      rintro e w4 ⟨rfl, row4, h4, k4⟩
      have HM4 := hid (HI3.out.keepI k4 HM3.out)
      have HI4 := hid h4
      clear h4 k4 HI3 HM3
      have HBk := hid (blanked_any (R.res A') hi 0 st3 row4 kc hnn false w4 HI4.out)
      unfold Does at HBk
      go_wp2_with fail
      refine HBk.out.mono ?_
      rintro e w5 ⟨rfl, row5, h5, k5⟩
      have HM := hid (HI4.out.keepI k5 HM4.out)
      have HI5 := hid h5
      clear h5 k5 HI4 HM4 HBk
      have hz5 : R.w0.heap.size ≤ w5.heap.size := HI5.out.old.size
      have HB0 : Hid (R.w0.heap.size ≤ R.w0.heap.size) := (show R.w0.heap.size ≤ R.w0.heap.size from Nat.le_refl _)
      go_wp2_with (at_builtin; (refine wpList_append_row _ rfl (.tmp 55) (.tmp 57) _ rfl R.w0.heap.size 3 i0 (.int .i64 0) 1 8 underlying34 HII.out.1 HII.out.2.1 HII.out.2.2.1 HII.out.2.2.2 rfl (by decide) (.slice A' ks.length c') ks.length (intCells ks) rfl (Mine.alloc HM.out _) ⟨w5.heap.size, 0, none⟩ 1 1 [.int .i64 kc] rfl rfl (int_new _ kc _) (int_one _) (by unfold maxLen; omega) (by omega) (by simp; omega) ?_); intro v' w6 hown6 hg6 hwh6; obtain ⟨A6, c6, rfl, h6, m6⟩ := RdI.appended HI5.out HM.out HB0.out ((Below.refl _ _).alloc (Nat.le_refl _) _) hown6 hg6 hwh6)
      rw [← ints_snoc] at m6
      have HI6 := hid h6
      replace HM := hid m6
      clear hown6 hg6 hwh6 h6 m6
      go_wp2
      go_roundw
      case rel => exact ⟨M, ks ++ [kc], _, row5, A6, c6, by rw [hlk], HQ3, HAN, HAK, by rw [hlk]; exact HM, HI6⟩
      case measure => exact measp_u hi HIo.out HI6.out (HAD3.out.weak (i' := 1) (j' := 0) (by omega) (by omega))
     | true =>
      rw [Bool.true_and] at HAK HAN HQ3 HAD3
      go_wp2_with fail
      refine (HX.out _ _ HI.out).mono ?_
      rintro e w3 ⟨rfl, g3⟩
      have HI3 := hid (HI.out.next g3)
      have HM3 := hid (HM.out.next g3)
      clear c1 c2 cf cz g3 HX HM
      go_wp2_with fail
      refine (HC.out _ _ HI3.out).mono ?_
      rintro e w4 ⟨rfl, row4, h4, k4⟩
      have HM4 := hid (HI3.out.keepI k4 HM3.out)
      have HI4 := hid h4
      clear h4 k4 HI3 HM3
      have HBk := hid (blanked_any (R.res A') hi 0 st3 row4 kc hnn (decide (0 < ks.length)) w4 HI4.out)
      unfold Does at HBk
      go_wp2_with fail
      refine HBk.out.mono ?_
      rintro e w5 ⟨rfl, row5, h5, k5⟩
      have HM := hid (HI4.out.keepI k5 HM4.out)
      have HI5 := hid h5
      clear h5 k5 HI4 HM4 HBk
      have hz5 : R.w0.heap.size ≤ w5.heap.size := HI5.out.old.size
      have HB0 : Hid (R.w0.heap.size ≤ R.w0.heap.size) := (show R.w0.heap.size ≤ R.w0.heap.size from Nat.le_refl _)
      go_wp2_with (at_builtin; (refine wpList_append_row _ rfl (.tmp 55) (.tmp 57) _ rfl R.w0.heap.size 3 i0 (.int .i64 0) 1 8 underlying34 HII.out.1 HII.out.2.1 HII.out.2.2.1 HII.out.2.2.2 rfl (by decide) (.slice A' ks.length c') ks.length (intCells ks) rfl (Mine.alloc HM.out _) ⟨w5.heap.size, 0, none⟩ 1 1 [.int .i64 kc] rfl rfl (int_new _ kc _) (int_one _) (by unfold maxLen; omega) (by omega) (by simp; omega) ?_); intro v' w6 hown6 hg6 hwh6; obtain ⟨A6, c6, rfl, h6, m6⟩ := RdI.appended HI5.out HM.out HB0.out ((Below.refl _ _).alloc (Nat.le_refl _) _) hown6 hg6 hwh6)
      rw [← ints_snoc] at m6
      have HI6 := hid h6
      replace HM := hid m6
      clear hown6 hg6 hwh6 h6 m6
      go_wp2
      go_roundw
      case rel => exact ⟨M, ks ++ [kc], _, row5, A6, c6, by rw [hlk], HQ3, HAN, HAK, by rw [hlk]; exact HM, HI6⟩
      case measure => exact measp_u hi HIo.out HI6.out (HAD3.out.weak (i' := 1) (j' := 0) (by omega) (by omega))
    ·have hlt' : ¬ (a : Int) < (R.n : Int) := by omega
     have hlt7 : decide ((a : Int) < (R.n : Int)) = false := decide_eq_false hlt'
     have hq := HQ.out
     rw [file_none (show restB R.sg (some t) = false from decide_eq_false (by omega))] at hq
     clear hc hrow c3
     have HNE : Hid (nodesP R.sg = (addS (some t) ⟨22, noT, ks, false⟩).2) := (show _ = _ by rw [HNP.out, ← hq])
     have HIE := hid HI.out.unres
     go_wp2_with fail
     refine (putK R.U hi 0 (some t) _ 22 noT A' ks.length c' ks R.w0.heap.size _ HIE.out HM.out HLo.out).mono ?_
     rintro e w5 ⟨rfl, row5, h5, k5⟩
     rw [← HNE.out] at h5
     have HI5 : Hid (RdI R 0 (nodesP R.sg) row5 w5) := h5
     have HB5 : Hid (Below w.heap.size w w5) := (show Below w.heap.size w w5 from HB1.out.trans (by have := HI5.out.old; exact this.mono HZ1.out))
     have HE5 := hid (HE1.out.next HI5.out.old)
     clear h5 k5 HIE HNE HQ hq
     cases hnd : nodesP R.sg with
     | none =>
      rw [hnd] at HI5
      have hr := HN2.out (by trivial) hnd
      have HR5 : RdI R 0 none row5 w5 := HI5.out
      obtain ⟨a5, b5, AN5, cN5, l5, hc5, hb5, hrow5⟩ := id HR5
      obtain ⟨x0, x1, x2, x3, x4, xf, xz⟩ := hc5.cs hi
      obtain rfl : b5 = true := hb5
      have hok5 : R.Ok := HR5.ok
      have hrd5 := hok5.rd.below HR5.old
      have hlen5 := hok5.len
      subst hr
      clear HR5 hc5 hrow5 x3 x4 hok5
      rcases Nat.lt_or_ge a5 R.n with hlt5 | hge5
      ·obtain ⟨x, hx⟩ : ∃ x, R.sg[a5]? = some x := ⟨_, gE (by omega)⟩
       obtain ⟨b6, off, hA, hblt, e0, e1, e2, e3⟩ := sgn_at hrd5 hlt5 hx
       have hlt6 : (a5 : Int) < (R.n : Int) := by omega
       rw [hA] at x0 ⊢
       clear hrd5 hx e0 e1 e3 hA
       go_wp2
       go_quiet (fail)
       go_wp2
       refine bodyPost_ret (by simp [results, Tryz.results18, go_sem,]; try rfl) rfl ?_
       exact ⟨below_next HB5.out (below_drewN (Below.refl _ _) _), by first | exact ⟨_, _, rfl, HE5.out.next (below_drewN (Below.refl _ _) _)⟩ | exact ⟨_, rfl, HE5.out.next (below_drewN (Below.refl _ _) _)⟩ | exact ⟨_, ⟨_, rfl⟩, HE5.out.next (below_drewN (Below.refl _ _) _)⟩⟩
      ·have hlt6 : ¬ (a5 : Int) < (R.n : Int) := by omega
       have hlt7 : decide ((a5 : Int) < (R.n : Int)) = false := decide_eq_false hlt6
       clear hrd5
       go_wp2
       refine bodyPost_ret (by simp [results, Tryz.results18, go_sem,]; try rfl) rfl ?_
       exact ⟨HB5.out, by first | exact ⟨_, _, rfl, HE5.out⟩ | exact ⟨_, rfl, HE5.out⟩ | exact ⟨_, ⟨_, rfl⟩, HE5.out⟩⟩
     | some s =>
      rw [hnd] at HI5
      obtain ⟨hs1, hs2⟩ := HSm.out s hnd
      have hr := HN3.out (by trivial) s hnd
      have HR5 : Hid (RdI R 0 (some s) row5 w5) := HI5
      obtain ⟨A6, c6, y2, y4, yf, yz, hnps⟩ := RdI.snps hi HR5.out
      have HT := hid (specTreeOk_any A6 s.nodes.length c6 s.nodes w5 (by omega) hnps.nps (hid hs2))
      clear hs2 hnps
      rcases bft (treeB s.nodes) with htr | htr
      ·rw [if_pos htr] at hr
       rw [htr] at HT
       subst hr
       clear htr
       go_wp2_with fail
       refine HT.out.mono ?_
       rintro e w6 ⟨rfl, h6⟩
       obtain ⟨A7, c7, z2, z4, zf, zz, hn7⟩ := RdI.snps hi (HR5.out.next h6)
       have HB6 := hid (below_next HB5.out h6)
       have HNP7 := hid (hn7.more HZ1.out)
       clear y2 y4 yf yz h6 hn7 HT
       go_wp2
       refine bodyPost_ret (by simp [results, Tryz.results18, go_sem,]; try rfl) rfl ?_
       exact ⟨HB6.out, A7, c7, rfl, HNP7.out⟩
      ·rw [if_neg (by rw [htr]; decide)] at hr
       rw [htr] at HT
       subst hr
       clear htr
       go_wp2_with fail
       refine HT.out.mono ?_
       rintro e w6 ⟨rfl, h6⟩
       have HB6 := hid (below_next HB5.out h6)
       have HE6 := hid (HE5.out.next h6)
       clear y2 y4 yf yz h6 HT
       go_wp2
       refine bodyPost_ret (by simp [results, Tryz.results18, go_sem,]; try rfl) rfl ?_
       exact ⟨HB6.out, by first | exact ⟨_, _, rfl, HE6.out⟩ | exact ⟨_, rfl, HE6.out⟩ | exact ⟨_, ⟨_, rfl⟩, HE6.out⟩⟩
abbrev FindingD := Int × Int × ByteArray
def findingCells (d : FindingD) : List Value := [.int .i64 (d.1), .int .i64 (d.2.1), .string (d.2.2)]
theorem findingCells_len (d : FindingD) : (findingCells d).length = 3 := rfl
theorem finding_at {w : World} {A : Option Addr} {n k : Nat} {l : List FindingD} {x0 : Int} {x1 : Int} {x2 : ByteArray} (h : Rd w 3 A n (l.flatMap findingCells)) (hk : k < n) (hd : l[k]? = some (x0, x1, x2)) :
  ∃ b off, A = some ⟨b, off, none⟩ ∧ b < w.heap.size ∧ w.cell? ⟨b, off + k * 3, none⟩ = some (.int .i64 x0) ∧ w.cell? ⟨b, off + k * 3 + 1, none⟩ = some (.int .i64 x1) ∧ w.cell? ⟨b, off + k * 3 + 2, none⟩ = some (.string x2) := by
 obtain ⟨b, off, e, hb, hc⟩ := h.at_ (by omega)
 exact ⟨b, off, e, hb, hc _ _ (flat_get findingCells findingCells_len hd (j := 0) rfl), hc _ _ (flat_get findingCells findingCells_len hd (j := 1) rfl), hc _ _ (flat_get findingCells findingCells_len hd (j := 2) rfl)⟩
theorem eqFinding_same (x0 : Int) (x1 : Int) (x2 : ByteArray) (w : World) :
  Calls prog 24 #[.agg #[.int .i64 x0, .int .i64 x1, .string x2], .agg #[.int .i64 x0, .int .i64 x1, .string x2]] w fun e w' => e = .returned (.bool true) ∧ Below w.heap.size w w' := by
 go_enter func24, ntmps24
 go_wp2
 go_ret
 exact ⟨rfl, grow_⟩
theorem eqFindingS_same (A B : Option Addr) (n c c' : Nat) (l : List FindingD) (w : World) (hn : n ≤ 4194304) (hl : l.length = n) (ha : Rd w 3 A n (l.flatMap findingCells)) (hb : Rd w 3 B n (l.flatMap findingCells)) :
  Calls prog 9 #[.slice A n c, .slice B n c'] w fun e w' => e = .returned (.bool true) ∧ Below w.heap.size w w' := by
 have HL := hid hl
 clear hl
 go_enter func9, ntmps9
 go_wp2
 go_loopw [5] (fun i wr => ∃ k : Nat, k ≤ n ∧ i = .int .i64 k ∧ Below w.heap.size w wr) (fun i _ => n - (intOf i).toNat)
 case atStart => exact ⟨0, Nat.zero_le _, rfl, Below.refl _ _⟩
 case round =>
  obtain ⟨k, hk, rfl, hbb⟩ := hrel
  by_cases hkn : k < n
  ·obtain ⟨⟨x0, x1, x2⟩, hd⟩ : ∃ d, l[k]? = some d := ⟨_, gE (by have := HL.out; omega)⟩
   obtain ⟨b, off, rfl, hblt, c0, c1, c2⟩ := finding_at (ha.below hbb) hkn hd
   obtain ⟨b', off', rfl, hblt', c0b, c1b, c2b⟩ := finding_at (hb.below hbb) hkn hd
   clear ha hb hd
   go_upto_region 6 with fail
   go_still_tail 8, (by kernel_rfl)
   change wpList _ _ _ _ _ wr.drew
   go_wp2_with fail
   refine (eqFinding_same _ _ _ _).mono ?_
   rintro e w2 ⟨rfl, h2⟩
   have hb2 : Below w.heap.size w w2 := hbb.drew.trans (h2.mono hbb.size)
   clear hblt hblt' c0 c1 c2 c0b c1b c2b
   go_wp2
   go_roundw
   case rel => exact ⟨k + 1, by omega, by go_num, grow_⟩
   case measure => simp [intOf]; omega
  ·obtain rfl : k = n := by omega
   go_wp2
   go_ret
   exact ⟨rfl, hbb⟩
def mkGo : Nat → Nat → ByteArray → ByteArray
 | 0, _, out => out
 | f + 1, k, out => if k = 0 then out else mkGo f (k / 10) ((⟨#[48 + UInt8.ofNat (k % 10)]⟩ : ByteArray) ++ out)
def mkT (k : Int) : ByteArray := (⟨#[109]⟩ : ByteArray) ++ mkGo k.toNat k.toNat ⟨#[]⟩
def MkAt (k f q : Nat) (out : ByteArray) : Prop := mkGo k k ⟨#[]⟩ = mkGo f q out ∧ q ≤ f ∧ out.size + f ≤ k
theorem mkAt_step {k f q : Nat} {out : ByteArray} (h : MkAt k f q out) (hq : 0 < q) : MkAt k (f - 1) (q / 10) ((⟨#[48 + UInt8.ofNat (q % 10)]⟩ : ByteArray) ++ out) := by
 obtain ⟨h1, h2, h3⟩ := h
 obtain ⟨f, rfl⟩ : ∃ g, f = g + 1 := ⟨f - 1, by omega⟩
 refine ⟨?_, by omega, ?_⟩
 ·rw [h1, mkGo, if_neg (by omega)]; rfl
 ·rw [ByteArray.size_append, show (⟨#[48 + UInt8.ofNat (q % 10)]⟩ : ByteArray).size = 1 from rfl]; omega
theorem mkAt_end {k f q : Nat} {out : ByteArray} (h : MkAt k f q out) (hq : q = 0) : mkGo k k ⟨#[]⟩ = out := by
 obtain ⟨h1, h2, h3⟩ := h
 subst hq
 rw [h1]
 cases f with
 | zero => rfl
 | succ f => rw [mkGo, if_pos rfl]
theorem conv_one (W : World) (q : Nat) : (convert 80 9 (.slice (some ⟨W.heap.size, 0, none⟩) 1 1)).run prog (W.alloc (.cells #[.int .u8 (48 + (q : Int) % 10)] 5)) = .ok (.string ⟨#[48 + UInt8.ofNat (q % 10)]⟩) (W.alloc (.cells #[.int .u8 (48 + (q : Int) % 10)] 5)) := by
 have h := run_convert_bytes_back (P := prog) (W.alloc (.cells #[.int .u8 (48 + (q : Int) % 10)] 5)) 80 9 5 ⟨W.heap.size, 0, none⟩ 1 [48 + UInt8.ofNat (q % 10)] underlying80 underlying5 underlying9 (fun j hj => by
  simp at hj
  subst hj
  have h2 := (Blk.new W 5 #[.int .u8 (48 + (q : Int) % 10)]).cell 0
  rw [show (⟨W.heap.size, 0, none⟩ : Addr).add 0 = ⟨W.heap.size, 0, none⟩ from rfl, h2]
  simp
  omega)
 simpa using h
theorem markText_nat (k : Nat) (w : World) (h0 : 1 ≤ k) (h1 : k ≤ 1099511627776) :
  Calls prog 25 #[.int .i64 (k : Int)] w fun e w' => e = .returned (.string (mkT k)) ∧ Below w.heap.size w w' := by
 have hk0 : ¬ (k : Int) ≤ 0 := by omega
 have HC := hid (show mkT k = (⟨#[109]⟩ : ByteArray) ++ mkGo k k ⟨#[]⟩ from rfl)
 go_enter func25, ntmps25
 go_wp2
 go_loopw [0, 3] (fun a o wr => ∃ (f q : Nat) (out : ByteArray), q ≤ k ∧ MkAt k f q out ∧ a = .int .i64 q ∧ o = .string out ∧ Below w.heap.size w wr) (fun a _ _ => (intOf a).toNat)
 case atStart => exact ⟨k, k, ⟨#[]⟩, Nat.le_refl _, ⟨rfl, Nat.le_refl _, by simp [ByteArray.size]⟩, rfl, rfl, Below.refl _ _⟩
 case round =>
  obtain ⟨f, q, out, hqk, hat, rfl, rfl, hb⟩ := hrel
  have hout : out.size ≤ 1099511627776 := by have := hat.2.2; omega
  by_cases hq : 0 < q
  ·have hst := mkAt_step hat hq
   have hz := hb.size
   have hm0 : (0 : Int) ≤ (q : Int) % 10 := by omega
   have hm1 : (q : Int) % 10 ≤ 9 := by omega
   have hcv := fun W => conv_one W q
   go_wp2
   go_roundw
   case rel => exact ⟨f - 1, q / 10, _, by omega, hst, by go_num, rfl, grow_⟩
   case measure => simp [intOf]; omega
  ·have hst := hid (mkAt_end hat (by omega))
   go_wp2
   go_ret
   exact ⟨ret_str (by rw [HC.out, hst.out]), hb⟩
theorem markText_any (k : Int) (w : World) (h0 : 1 ≤ k) (h1 : k ≤ 1099511627776) :
  Calls prog 25 #[.int .i64 k] w fun e w' => e = .returned (.string (mkT k)) ∧ Below w.heap.size w w' := by
 obtain ⟨n, rfl⟩ := Int.eq_ofNat_of_zero_le (show 0 ≤ k by omega)
 exact markText_nat n w (by omega) (by omega)
def setRow (xs : List Value) (i : Nat) : List Value → List Value
 | [] => xs
 | v :: r => setRow (xs.set i v) (i + 1) r
theorem setRow_len (r : List Value) : ∀ (xs : List Value) (i : Nat), (setRow xs i r).length = xs.length := by
 induction r with
 | nil => intro xs i; rfl
 | cons v r ih => intro xs i; rw [setRow, ih, List.length_set]
theorem setRow_get (r : List Value) : ∀ (xs : List Value) (i x : Nat), i + r.length ≤ xs.length → (setRow xs i r)[x]? = if i ≤ x ∧ x < i + r.length then r[x - i]? else xs[x]? := by
 induction r with
 | nil => intro xs i x h; rw [setRow, if_neg (by simp)]
 | cons v r ih =>
  intro xs i x h
  simp only [List.length_cons] at h
  rw [setRow, ih _ _ _ (by rw [List.length_set]; omega)]
  by_cases h1 : i + 1 ≤ x ∧ x < i + 1 + r.length
  ·rw [if_pos h1, if_pos ⟨by omega, by simp only [List.length_cons]; omega⟩, show x - i = (x - (i + 1)) + 1 by omega, List.getElem?_cons_succ]
  ·rw [if_neg h1, List.getElem?_set]
   by_cases h2 : i = x
   ·subst h2
    rw [if_pos rfl, if_pos (by omega), if_pos ⟨by omega, by simp only [List.length_cons]; omega⟩]
    simp
   ·rw [if_neg h2, if_neg]
    intro h3
    simp only [List.length_cons] at h3
    omega
def MarkedTo (xs M : List Value) (size j : Nat) : Prop := xs.length = M.length ∧ ∀ x, x < j * size → xs[x]? = M[x]?
theorem marked_zero {xs M : List Value} {size : Nat} (h : xs.length = M.length) : MarkedTo xs M size 0 := ⟨h, fun x hx => absurd hx (by omega)⟩
theorem marked_step {xs M row : List Value} {size j : Nat} (h : MarkedTo xs M size j) (hr : row.length = size) (hl : (j + 1) * size ≤ M.length) (hM : ∀ y, y < size → M[j * size + y]? = row[y]?) :
  MarkedTo (setRow xs (j * size) row) M size (j + 1) := by
 obtain ⟨h1, h2⟩ := h
 have e : (j + 1) * size = j * size + size := by rw [Nat.add_mul]; omega
 refine ⟨by rw [setRow_len, h1], fun x hx => ?_⟩
 rw [setRow_get _ _ _ _ (by omega)]
 by_cases h3 : j * size ≤ x ∧ x < j * size + row.length
 ·rw [if_pos h3]
  have h4 := hM (x - j * size) (by omega)
  rw [show j * size + (x - j * size) = x by omega] at h4
  exact h4.symm
 ·rw [if_neg h3]
  exact h2 x (by omega)
theorem marked_all {xs M : List Value} {size n : Nat} (h : MarkedTo xs M size n) (hl : M.length = n * size) : xs = M := by
 obtain ⟨h1, h2⟩ := h
 apply List.ext_getElem?
 intro x
 by_cases hx : x < n * size
 ·exact h2 x hx
 ·rw [List.getElem?_eq_none (by omega), List.getElem?_eq_none (by omega)]
def markRow (row : Int → List Value) (size : Nat) (k : Int) (n : Nat) : List Value := (List.range n).flatMap (fun i => row (k + (size * i : Nat)))
theorem marks_len {row : Int → List Value} {size : Nat} (h : ∀ k, (row k).length = size) (k : Int) (n : Nat) : (markRow row size k n).length = n * size := by
 unfold markRow
 rw [flat_len _ (fun _ => h _), List.length_range]
theorem marks_get {row : Int → List Value} {size : Nat} (h : ∀ k, (row k).length = size) (k : Int) (n j : Nat) (hj : j < n) : ∀ y, y < size → (markRow row size k n)[j * size + y]? = (row (k + (size * j : Nat)))[y]? := by
 intro y hy
 unfold markRow
 have h1 : (row (k + (size * j : Nat)))[y]? = some ((row (k + (size * j : Nat)))[y]'(by rw [h]; exact hy)) := List.getElem?_eq_getElem _
 rw [h1]
 exact flat_get (fun i : Nat => row (k + (size * i : Nat))) (fun _ => h _) (l := List.range n) (i := j) (d := j) (by simp [hj]) h1
theorem marks_one {row : Int → List Value} {size : Nat} (h : ∀ k, (row k).length = size) {k q : Int} {n j : Nat} (hj : j < n) (hq : q = k + (size * j : Nat)) {y : Nat} {v : Value} (hv : (row q)[y]? = some v) : (markRow row size k n)[j * size + y]? = some v := by
 subst hq
 have hy : y < size := by have := (List.getElem?_eq_some_iff.1 hv).1; rw [h] at this; exact this
 rw [marks_get h k n j hj y hy, hv]
theorem grow_set {a w : World} {g : Nat} (h : a.grownBy w (some g)) (o : Nat) (u : Value) : a.grownBy (w.setCell ⟨g, o, none⟩ u) (some g) :=
 ⟨h.os, h.tape, h.output, by simpa [World.setCell] using h.size, fun i hi hne => (Below.heap_setCell w ⟨g, o, none⟩ u i (fun e => hne (by rw [e]))).trans (h.block i hi hne)⟩
theorem grow_below {a w w2 : World} {row : Option Nat} (h : a.grownBy w row) (hb : Below w.heap.size w w2) : a.grownBy w2 row :=
 ⟨hb.os.trans h.os, hb.tape.trans h.tape, hb.output.trans h.output, Nat.le_trans h.size hb.size, fun i hi hne => (hb.block i (Nat.lt_of_lt_of_le hi h.size)).trans (h.block i hi hne)⟩
section
variable {w w' : World} {g : Nat} {t : TypeId} {cap : Nat} {xs : List Value}
theorem Own.fits (h : Own w g t cap xs) : xs.length ≤ cap := by obtain ⟨rest, hb, hs⟩ := h; rw [lA] at hs; omega
theorem Own.set (h : Own w g t cap xs) {i : Nat} (hi : i < xs.length) (u : Value) : Own (w.setCell ⟨g, i, none⟩ u) g t cap (xs.set i u) := by
 obtain ⟨rest, hb, hs⟩ := h
 refine ⟨rest, ?_, by simpa using hs⟩
 have h2 := hb.set_ i u
 have e : ((xs ++ rest).toArray).setIfInBounds i u = ((xs.set i u) ++ rest).toArray := by
  simp [List.set_append_left _ _ hi]
 rwa [e] at h2
end
def findingMk (k : Int) : List Value := [.int .i64 (k), .int .i64 (k + 1), .string (mkT (k + 1 + 1))]
theorem findingMk_len (k : Int) : (findingMk k).length = 3 := rfl
theorem markFindingS_any (g n c cap : Nat) (k : Int) (xs : List Value) (w : World) (hown : Own w g 41 cap xs) (hlen : xs.length = n * 3) (h0 : 1 ≤ k) (h1 : k + (3 * n : Nat) ≤ 1073741824) :
  Calls prog 10 #[.slice (some ⟨g, 0, none⟩) n c, .int .i64 k] w fun e w' => e = .returned (.int .i64 (k + (3 * n : Nat))) ∧ Own w' g 41 cap (markRow findingMk 3 k n) ∧ w.grownBy w' (some g) := by
 have HX := hid hlen
 have HK := hid h1
 have hn : n ≤ 1073741824 := by omega
 clear hlen h1
 go_enter func10, ntmps10
 go_wp2
 go_loopw [1, 5] (fun s i wr => ∃ (j : Nat) (q : Int) (ys : List Value), j ≤ n ∧ Hid (q = k + (3 * j : Nat)) ∧ i = .int .i64 j ∧ s = .int .i64 q ∧ Own wr g 41 cap ys ∧ MarkedTo ys (markRow findingMk 3 k n) 3 j ∧ w.grownBy wr (some g)) (fun _ i _ => n - (intOf i).toNat)
 case atStart => exact ⟨0, k, xs, Nat.zero_le _, (show k = k + ((3 * 0 : Nat) : Int) by simp), rfl, rfl, hown, marked_zero (by rw [marks_len findingMk_len]; exact HX.out), ⟨rfl, rfl, rfl, Nat.le_refl _, fun _ _ _ => rfl⟩⟩
 case round =>
  obtain ⟨j, q, ys, hj, HQ, rfl, rfl, how, hmk, hg⟩ := hrel
  by_cases hjn : j < n
  ·have hq0 : 1 ≤ q := by have := HQ.out; omega
   have hq1 : q + 3 ≤ 1073741824 := by have := HQ.out; have := HK.out; omega
   have hys := hid (show ys.length = n * 3 by rw [hmk.1, marks_len findingMk_len])
   have HM := hid hmk
   clear hmk hown
   have hz := how.lt
   have fz := how.frozen
   obtain ⟨o0, e0⟩ := how.there (i := j * 3) (by have := how.fits; have := hys.out; omega)
   obtain ⟨o1, e1⟩ := how.there (i := j * 3 + 1) (by have := how.fits; have := hys.out; omega)
   obtain ⟨o2, e2⟩ := how.there (i := j * 3 + 2) (by have := how.fits; have := hys.out; omega)
   go_wp2_with fail
   refine (markText_any _ _ (by omega) (by omega)).mono ?_
   rintro e w2 ⟨rfl, h2⟩
   have hg2 := grow_below (grow_set (grow_set hg _ _) _ _) h2
   replace how := Own.next ((how.set (i := j * 3) (by (try simp only [List.length_set]); have := hys.out; omega) _).set (i := j * 3 + 1) (by (try simp only [List.length_set]); have := hys.out; omega) _) h2
   replace hg := hg2
   clear hg2 h2 hz fz e0 e1 e2
   have hz := how.lt
   have fz := how.frozen
   obtain ⟨o0, e0⟩ := how.there (i := j * 3) (by have := how.fits; (try simp only [List.length_set] at this); have := hys.out; omega)
   obtain ⟨o1, e1⟩ := how.there (i := j * 3 + 1) (by have := how.fits; (try simp only [List.length_set] at this); have := hys.out; omega)
   obtain ⟨o2, e2⟩ := how.there (i := j * 3 + 2) (by have := how.fits; (try simp only [List.length_set] at this); have := hys.out; omega)
   go_wp2
   go_roundw
   case rel =>
    refine ⟨j + 1, _, _, by omega, ?_, by go_num, rfl, (how.set (i := j * 3 + 2) (by (try simp only [List.length_set]); have := hys.out; omega) _), ?_, (grow_set hg _ _)⟩
    ·show _ = _
     have := HQ.out
     omega
    ·have hst := marked_step (row := findingMk q) (size := 3) (j := j) HM.out rfl (by rw [marks_len findingMk_len]; omega) (fun y hy => by rw [marks_get findingMk_len k n j hjn y hy, HQ.out])
     exact hst
   case measure => simp [intOf]; omega
  ·obtain rfl : j = n := by omega
   obtain rfl := marked_all hmk (marks_len findingMk_len k j)
   go_wp2
   go_ret
   exact ⟨ret_int HQ.out, how, hg⟩
theorem markFindingS_nil (A : Option Addr) (c : Nat) (k : Int) (w : World) :
  Calls prog 10 #[.slice A 0 c, .int .i64 k] w fun e w' => e = .returned (.int .i64 k) ∧ w = w' := by
 go_enter func10, ntmps10
 go_wp2
 refine wp_loop_rounds 1 ?_
 rw [rounds_succ]
 go_wp2
 go_ret
 exact ⟨rfl, rfl⟩
theorem heldFindingS_any (A : Option Addr) (n c : Nat) (k : Int) (w : World) (hr : Rd w 3 A n (markRow findingMk 3 k n)) (h0 : 1 ≤ k) (h1 : k + (3 * n : Nat) ≤ 1073741824) :
  Calls prog 11 #[.slice A n c, .int .i64 k] w fun e w' => e = .returned (.int .i64 (k + (3 * n : Nat))) ∧ Below w.heap.size w w' := by
 have HK := hid h1
 have hn : n ≤ 1073741824 := by omega
 clear h1
 go_enter func11, ntmps11
 go_wp2
 go_loopw [1, 5] (fun s i wr => ∃ (j : Nat) (q : Int), j ≤ n ∧ Hid (q = k + (3 * j : Nat)) ∧ i = .int .i64 j ∧ s = .int .i64 q ∧ Below w.heap.size w wr) (fun _ i _ => n - (intOf i).toNat)
 case atStart => exact ⟨0, k, Nat.zero_le _, (show k = k + ((3 * 0 : Nat) : Int) by simp), rfl, rfl, Below.refl _ _⟩
 case round =>
  obtain ⟨j, q, hj, HQ, rfl, rfl, hb⟩ := hrel
  by_cases hjn : j < n
  ·have hq0 : 1 ≤ q := by have := HQ.out; omega
   have hq1 : q + 3 ≤ 1073741824 := by have := HQ.out; have := HK.out; omega
   obtain ⟨b, off, rfl, hblt, hcell⟩ := (hr.below hb).at_ (by omega)
   have c0 : wr.cell? ⟨b, off + j * 3, none⟩ = some (.int .i64 (q)) := hcell _ _ (marks_one findingMk_len hjn HQ.out (y := 0) rfl)
   have c1 : wr.cell? ⟨b, off + j * 3 + 1, none⟩ = some (.int .i64 (q + 1)) := hcell _ _ (marks_one findingMk_len hjn HQ.out (y := 1) rfl)
   have c2 : wr.cell? ⟨b, off + j * 3 + 2, none⟩ = some (.string (mkT (q + 1 + 1))) := hcell _ _ (marks_one findingMk_len hjn HQ.out (y := 2) rfl)
   clear hcell hr
   go_upto_region 10 with fail
   go_cut [37] (fun s wx => s = .bool false ∧ Below wr.heap.size wr wx)
   case first =>
    go_region_with (go_at_call 25; refine (markText_any _ _ (by omega) (by omega)).mono ?_; rintro e w2 ⟨rfl, h2⟩; have hcc := ((bcell h2).1 _ _ hblt).trans c2; have h3 : Below wr.heap.size wr w2 := (Below.refl _ wr).drew.trans h2)
    all_goals (go_wp2_with fail; go_meet; exact ⟨rfl, grow_⟩)
   case rest =>
   obtain ⟨rfl, h2⟩ := hcut
   replace hb := hb.trans (h2.mono hb.size)
   replace c0 := ((bcell h2).1 _ _ hblt).trans c0
   replace c1 := ((bcell h2).1 _ _ hblt).trans c1
   replace c2 := ((bcell h2).1 _ _ hblt).trans c2
   replace hblt := Nat.lt_of_lt_of_le hblt h2.size
   clear h2
   obtain ⟨wr, rfl⟩ : ∃ wo : World, wo = wc := ⟨_, rfl⟩
   go_wp2
   go_roundw
   case rel =>
    refine ⟨j + 1, _, by omega, ?_, by go_num, rfl, hb⟩
    show _ = _
    have := HQ.out
    omega
   case measure => simp [intOf]; omega
  ·obtain rfl : j = n := by omega
   go_wp2
   go_ret
   exact ⟨ret_int HQ.out, hb⟩
theorem snoc_find (acc : List FindingD) (a b : Int) (s : ByteArray) : (acc ++ [(a, b, s)]).flatMap findingCells = acc.flatMap findingCells ++ [.int .i64 a, .int .i64 b, .string s] := by
 simp [findingCells]
theorem infoFindingI : (prog.info? 41).map (fun i => (i.zero, i.size, i.bytes)) = some (some (.agg #[.int .i64 0, .int .i64 0, .string ⟨#[]⟩]), 3, 32) := by kernel_rfl
def FindM (w : World) (ss : List FindingD) (e : Ending) (w' : World) : Prop :=
 ∃ (A : Option Addr) (c : Nat), e = .returned (.slice A ss.length c) ∧ Mine w' w.heap.size 41 3 A ss.length c (ss.flatMap findingCells) ∧ Below w.heap.size w w'
theorem markFindingS_mine (A : Option Addr) (n c B : Nat) (k : Int) (xs : List Value) (w : World) (hm : Mine w B 41 3 A n c xs) (h0 : 1 ≤ k) (h1 : k + (3 * n : Nat) ≤ 1073741824) :
  Calls prog 10 #[.slice A n c, .int .i64 k] w fun e w' => e = .returned (.int .i64 (k + (3 * n : Nat))) ∧ Mine w' B 41 3 A n c (markRow findingMk 3 k n) ∧ w.grownBy w' (A.map (·.block)) := by
 have hl := hm.len
 rcases hm.own with ⟨rfl, rfl, rfl⟩ | ⟨g, rfl, hB, hn, hc, ho⟩
 ·refine (markFindingS_nil none 0 k w).mono ?_
  rintro e w' ⟨rfl, rfl⟩
  exact ⟨by simp, by simpa [markRow] using Mine.mk_nil _ _ _ _, World.grownBy.refl _ _⟩
 ·refine (markFindingS_any g n c (c * 3) k xs w ho hl h0 h1).mono ?_
  rintro e w' ⟨rfl, ho', hg⟩
  exact ⟨rfl, Mine.mk_own ho' (by rw [marks_len findingMk_len]) hB hn hc, hg⟩
end Go.Proofs.YtgbikafalcbibaaGreatDoor

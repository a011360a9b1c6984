/-
  Put together by program (shake.py): FeA, ParZ, FeB, FeC, FeE, FeF, FgA, FgC.
-/
import Derived.Test.YtgbikafalcbibaaGreatDoorMiU
import Derived.Test.YtgbikafalcbibaaGreatDoorMiJ
import Derived.Test.YtgbikafalcbibaaGreatDoorMiK
import Derived.Test.YtgbikafalcbibaaGreatDoorMiB
import Derived.Lib.SlicesS
set_option maxRecDepth 100000
set_option maxHeartbeats 25600000
set_option linter.unusedVariables false
set_option linter.unusedSimpArgs false
open Go.Lib (hid)
open Go.Proofs.Tryz
namespace Go.Proofs.YtgbikafalcbibaaGreatDoor
open Go.RowKit
def emptyB (p : PN) : Bool := (p.kind == 18) && ((p.kids.length : Int) == 0)
def emptyTo (t : ByteArray) (ps : List PN) : Nat → List FindingD
 | 0 => []
 | k + 1 => emptyTo t ps k ++ (match ps[k]? with | none => [] | some p => if emptyB p = true then [(4, lineN t (firstV ps k), noT)] else [])
def findEmpty (t : ByteArray) : List FindingD := match readP t with | none => [] | some ps => emptyTo t ps ps.length
theorem SRd.one {t : ByteArray} {w w' : World} {e : Ending} (h : SRd t w e w') : ∃ (A : Option Addr) (n c : Nat) (p : Int) (ok : Bool) (ps : List PN), e = .returned (.tuple #[.slice A n c, .int .i64 p, .bool ok]) ∧ NpsM w' w.heap.size A n c ps ∧ PNs ps ∧ n ≤ 300 ∧ findEmpty t = emptyTo t ps n ∧ Below w.heap.size w w' := by
 obtain ⟨hb, h⟩ := h
 unfold findEmpty
 revert h
 rcases hr : readP t with _ | ps
 ·rintro ⟨g, p, rfl, hn⟩
  exact ⟨some ⟨g, 0, none⟩, 0, 0, p, false, [], rfl, hn, (fun p hp => by cases hp), Nat.zero_le _, rfl, hb⟩
 ·rintro ⟨A, c, rfl, hn⟩
  exact ⟨A, ps.length, c, 0, true, ps, rfl, hn, (readP_some hr).2.2, (readP_some hr).2.1, rfl, hb⟩
theorem RdI.npsM {R : RC} {d : Nat} {s : PS} {row : Option Nat} {w : World} (hi : R.imp = true) (h : RdI R d (some s) row w) :
  ∃ A c, w.cell? ⟨R.T, 4, none⟩ = some (.bool false) ∧ w.cell? ⟨R.T, 5, none⟩ = some (.slice A s.nodes.length c) ∧ (∀ i, w.frozen? ⟨R.T, i, none⟩ = false) ∧ R.T < w.heap.size ∧ NpsM w R.w0.heap.size A s.nodes.length c s.nodes := by
 obtain ⟨a, b, AN, cN, l, hc, ⟨rfl, _, hns⟩, _⟩ := h
 obtain ⟨c0, c2, c3, c4, c5, cf, cz⟩ := hc.ci hi
 have hl : s.nodes.length = l.length := by rw [hns, List.length_map]
 refine ⟨AN, cN, c4, by rw [hl]; exact c5, cf, cz, l, ?_, hl.symm, fun x hx => ⟨⟨(hc.2.2.1.1 x hx).1.1, fun _ _ h => h⟩, (hc.2.2.1.1 x hx).2⟩, hns.symm⟩
 rw [hl]; exact hc.2.1
def RdRM (t : ByteArray) (w : World) (e : Ending) (w' : World) : Prop :=
 ∃ (T : Nat) (p : Int), e = .returned (.tuple #[.pointer (some ⟨T, 0, none⟩), .int .i64 p]) ∧ w'.cell? ⟨T, 4, none⟩ = some (.bool (readP t).isNone) ∧ T < w'.heap.size ∧ Below w.heap.size w w' ∧ ∀ ps, readP t = some ps → p = 0 ∧ ∃ A c, w'.cell? ⟨T, 5, none⟩ = some (.slice A ps.length c) ∧ NpsM w' w.heap.size A ps.length c ps
theorem readSourceM_any (t : ByteArray) (w : World) (ht : t.size ≤ 1048576) : Calls prog 82 #[.string t] w (RdRM t w) := by
 have HS := hid (implSignsOf_any t w ht)
 have hsl := signsP_len t
 have HN1 := hid (fun h => readP_no (t := t) h)
 have HN2 := hid (fun h1 h2 => readP_none (t := t) h1 h2)
 have HN3 := hid (fun h1 (s : PS) h2 => readP_ok (t := t) h1 (s := s) h2)
 have HSm := hid (fun (s : PS) h => read_small (t := t) (s := s) h)
 unfold RdRM
 unfold SignsM at HS
 generalize readP t = RP at HN1 HN2 HN3 ⊢
 generalize signsP t = Z at HS hsl HN1 HN2 HN3 HSm
 obtain ⟨sg, pl, ok⟩ := Z
 dsimp only at HS hsl HN1 HN2 HN3 HSm
 obtain ⟨n, hn⟩ : ∃ n, sg.length = n := ⟨_, rfl⟩
 rw [hn] at HS hsl
 go_enter func82, ntmps82
 go_wp2_with fail
 refine HS.out.mono ?_
 rintro e w1 ⟨A, c, rfl, m1, h1⟩
 have hsz1 := h1.size
 have HM1 := hid m1
 have HB1 := hid h1
 clear m1 h1 HS
 cases ok with
 | false =>
  have hr := HN1.out (by trivial)
  subst hr
  have K := Blk.new w1 105 #[.slice A n c, .int .i64 t.size, .int .i64 0, .int .i64 0, .bool true, .slice none 0 0, .slice none 0 0]
  have k4 := K.q4
  have kz := K.lt
  have HKb := hid (HB1.out.alloc hsz1 (.cells #[.slice A n c, .int .i64 t.size, .int .i64 0, .int .i64 0, .bool true, .slice none 0 0, .slice none 0 0] 105))
  clear K HN1 HN2 HN3 HSm
  go_wp2
  go_ret2
  exact ⟨w1.heap.size, pl, rfl, k4, kz, HKb.out, fun ps h => by cases h⟩
 | true =>
  obtain ⟨R, hR⟩ : ∃ R : RC, R = ⟨true, w1.heap.size, A, n, c, t.size, .slice none 0 0, sg, w1, fun _ => False⟩ := ⟨_, rfl⟩
  have K := Blk.new w1 105 #[.slice A n c, .int .i64 t.size, .int .i64 0, .int .i64 0, .bool false, .slice none 0 0, .slice none 0 0]
  have hI0 : RdI R 0 (some ⟨0, []⟩) none (w1.alloc (.cells #[.slice A n c, .int .i64 t.size, .int .i64 0, .int .i64 0, .bool false, .slice none 0 0, .slice none 0 0] 105)) := by
   subst hR
   exact ⟨0, false, none, 0, [], ⟨K, Mine.mk_nil _ _ _ _, ⟨fun x hx => absurd hx (by simp), fun g hg => False.elim hg⟩, by simp, Nat.zero_le _, (Below.refl _ _).alloc (Nat.le_refl _) _, ⟨hn, hsl, HM1.out.rd, Nat.le_refl _⟩⟩, ⟨rfl, rfl, rfl⟩, rfl⟩
  have hRi : R.imp = true := by rw [hR]
  have hRT : R.T = w1.heap.size := by rw [hR]
  have hRn : R.n = n := by rw [hR]
  have hRM : R.M = .slice none 0 0 := by rw [hR]
  have hRg : R.sg = sg := by rw [hR]
  have hRA : R.A = A ∧ R.c = c := by rw [hR]; exact ⟨rfl, rfl⟩
  have hF := file_step R hRi (n + 2) (14 * (n + 2)) (by rw [hRn]; omega) (by omega) (by rw [hRn]; omega) (ec_all R hRi (n + 2) (by rw [hRn]; omega) _) (some ⟨0, []⟩) none _ hI0 hRM
  have hnp : fileS R.sg (exprF R.sg (n + 2) (14 * (n + 2))) (n + 2) (some ⟨0, []⟩) = nodesP sg := by rw [hRg]; unfold nodesP; rw [hn]
  rw [hnp, hRT] at hF
  have HF := hid hF
  have HB2 := hid (HB1.out.alloc hsz1 (.cells #[.slice A n c, .int .i64 t.size, .int .i64 0, .int .i64 0, .bool false, .slice none 0 0, .slice none 0 0] 105))
  have hRw : R.w0 = w1 := by rw [hR]
  have HRw := hid hRw
  clear hF hnp K hI0
  go_wp2_with fail
  refine HF.out.mono ?_
  rintro e w2 ⟨rfl, v, row', hI2, hK2⟩
  have HBw : Hid (Below w.heap.size w w2) := (show Below w.heap.size w w2 from HB1.out.trans (by have := hI2.old; rw [show (R.mem v).w0 = w1 from hRw] at this; exact this.mono hsz1))
  have hz2 := hI2.old.size
  cases hnd : nodesP sg with
  | none =>
   have hr := HN2.out (by trivial) hnd
   subst hr
   rw [hnd] at hI2
   obtain ⟨a, b, AN, cN, l, hc, hb, hrow⟩ := hI2
   obtain ⟨c0, c2, c3, c4, c5, cf, cz⟩ := RdC.ci (R := R.mem v) hRi hc
   obtain rfl : b = true := hb
   have han := hc.2.2.2.2.1
   have hlen2 := hc.2.2.2.2.2.2.rd.below hc.2.2.2.2.2.1
   change w2.cell? ⟨R.T, 0, none⟩ = some (.slice R.A R.n R.c) at c0
   change w2.cell? ⟨R.T, 2, none⟩ = _ at c2
   change w2.cell? ⟨R.T, 4, none⟩ = _ at c4
   change R.T < _ at cz
   change a ≤ R.n at han
   change Rd w2 4 R.A R.n (R.sg.flatMap sgCells) at hlen2
   rw [hRT] at c0 c2 c4 cz
   rw [hRA.1, hRn, hRA.2] at c0
   rw [hRn] at han
   rw [hRA.1, hRn, hRg] at hlen2
   clear hc c3 c5 cf hrow HF HN1 HN2 HN3 HSm hRM hRg hRA hRT hRn hRi hRw
   by_cases hlt : a < n
   ·obtain ⟨x, hx⟩ : ∃ x, sg[a]? = some x := ⟨_, gE (by omega)⟩
    obtain ⟨b1, off, hA, hblt, e0, e1, e2, e3⟩ := sgn_at hlen2 hlt hx
    subst hA
    have hlt' : (a : Int) < n := by omega
    clear hlen2 hx e0 e1 e3
    go_wp2
    go_quiet (fail)
    go_wp2
    go_ret2
    exact ⟨w1.heap.size, _, rfl, c4, cz, below_next HBw.out (below_drewN (Below.refl _ _) _), fun ps h => by cases h⟩
   ·have hlt' : ¬ (a : Int) < n := by omega
    clear hlen2
    go_wp2
    go_ret2
    exact ⟨w1.heap.size, _, rfl, c4, cz, HBw.out, fun ps h => by cases h⟩
  | some s =>
   have hr := HN3.out (by trivial) s hnd
   obtain ⟨hs1, hs2⟩ := HSm.out s hnd
   rw [hnd] at hI2
   obtain ⟨A2, c2', c4, c5, cf, cz, hnps⟩ := RdI.npsM (R := R.mem v) hRi hI2
   change w2.cell? ⟨R.T, 4, none⟩ = _ at c4
   change w2.cell? ⟨R.T, 5, none⟩ = _ at c5
   change ∀ i, w2.frozen? ⟨R.T, i, none⟩ = false at cf
   change R.T < _ at cz
   rw [hRT] at c4 c5 cf cz
   have HI2 := hid hI2
   have HRi := hid hRi
   have HT := hid (implTreeOk_any A2 s.nodes.length c2' s.nodes w2 (by omega) hnps.nps (hid hs2))
   have hz := HB1.out.size
   have HRT := hid hRT
   clear hnps hs2 hI2 HF HN1 HN2 HN3 HSm hRM hRg hRA hRT hRn hRi hRw hnd
   cases htr : treeB s.nodes with
   | true =>
    rw [htr, if_pos rfl] at hr
    rw [htr] at HT
    subst hr
    clear htr
    go_wp2_with fail
    refine HT.out.mono ?_
    rintro e w3 ⟨rfl, h3⟩
    have c4' := ((bcell h3).1 _ 4 cz).trans c4
    have c5' := ((bcell h3).1 _ 5 cz).trans c5
    have cf' : ∀ i, w3.frozen? ⟨w1.heap.size, i, none⟩ = false := fun i => ((bcell h3).2 _ i cz).trans (cf i)
    have cz' := Nat.lt_of_lt_of_le cz h3.size
    obtain ⟨A4, c4n, q4, q5, _, qz, hnp4⟩ := RdI.npsM (R := R.mem v) HRi.out (RdI.set4 (R := R.mem v) HRi.out (HI2.out.next h3))
    change (w3.setCell ⟨R.T, 4, none⟩ (.bool false)).cell? ⟨R.T, 4, none⟩ = _ at q4
    change (w3.setCell ⟨R.T, 4, none⟩ (.bool false)).cell? ⟨R.T, 5, none⟩ = _ at q5
    change R.T < (w3.setCell ⟨R.T, 4, none⟩ (.bool false)).heap.size at qz
    change NpsM (w3.setCell ⟨R.T, 4, none⟩ (.bool false)) R.w0.heap.size _ _ _ _ at hnp4
    rw [HRT.out] at q4 q5 qz hnp4
    have H4 := hid (And.intro q4 (And.intro q5 (And.intro qz hnp4)))
    clear q4 q5 qz hnp4
    have HB3 := hid ((below_next HBw.out h3).setCell (show w.heap.size ≤ (⟨w1.heap.size, 4, none⟩ : Addr).block from hsz1) (.bool false))
    clear h3 c4 c5 cf cz HT
    go_wp2
    go_ret2
    exact ⟨w1.heap.size, _, rfl, H4.out.1, H4.out.2.2.1, HB3.out, fun ps h => by obtain rfl := Option.some.inj h; exact ⟨rfl, A4, c4n, H4.out.2.1, by have h := H4.out.2.2.2; rw [HRw.out] at h; exact h.more hsz1⟩⟩
   | false =>
    rw [htr, if_neg (by decide)] at hr
    rw [htr] at HT
    subst hr
    clear htr
    go_wp2_with fail
    refine HT.out.mono ?_
    rintro e w3 ⟨rfl, h3⟩
    have hb4 := RdI.set4b (R := R.mem v) HRi.out (HI2.out.next h3)
    change (w3.setCell ⟨R.T, 4, none⟩ (.bool true)).cell? ⟨R.T, 4, none⟩ = _ ∧ R.T < _ at hb4
    rw [HRT.out] at hb4
    have H4 := hid hb4
    clear hb4
    have c4' := ((bcell h3).1 _ 4 cz).trans c4
    have cf' : ∀ i, w3.frozen? ⟨w1.heap.size, i, none⟩ = false := fun i => ((bcell h3).2 _ i cz).trans (cf i)
    have cz' := Nat.lt_of_lt_of_le cz h3.size
    have HB3 := hid ((below_next HBw.out h3).setCell (show w.heap.size ≤ (⟨w1.heap.size, 4, none⟩ : Addr).block from hsz1) (.bool true))
    clear h3 c4 c5 cf cz HT
    go_wp2
    go_ret2
    exact ⟨w1.heap.size, _, rfl, H4.out.1, H4.out.2, HB3.out, fun ps h => by cases h⟩
theorem implReadM_some (t : ByteArray) (w : World) (ht : t.size ≤ 1048576) (ps : List PN) (h : readP t = some ps) : Calls prog 52 #[.string t] w fun e w' => ∃ A c, e = .returned (.tuple #[.slice A ps.length c, .int .i64 0, .bool true]) ∧ NpsM w' w.heap.size A ps.length c ps ∧ Below w.heap.size w w' := by
 have HS := readSourceM_any t w ht
 unfold RdRM at HS
 rw [h] at HS
 have HS := hid HS
 clear h
 go_enter func52, ntmps52
 go_wp2_with fail
 refine HS.out.mono ?_
 rintro e w1 ⟨T, p, rfl, c4, cz, hb, h5⟩
 obtain ⟨rfl, A, c, c5, hn⟩ := h5 ps rfl
 have HB := hid hb
 have HN := hid hn
 change w1.cell? ⟨T, 4, none⟩ = some (.bool false) at c4
 clear hb hn h5
 go_wp2
 refine bodyPost_ret (by simp [results, Tryz.results52, go_sem,]; try rfl) rfl ?_
 exact ⟨A, c, rfl, HN.out, HB.out⟩
def NonNeg (l : List Int) : Prop := ∀ x ∈ l, 0 ≤ x
theorem nn_set {l : List Int} (h : NonNeg l) (k : Nat) (x : Nat) : NonNeg (l.set k (x : Int)) := fun y hy => by
 rcases List.mem_or_eq_of_mem_set hy with h2 | rfl
 ·exact h y h2
 ·omega
theorem nn_run {g : Nat → TS → TS} (hg : ∀ k s, NonNeg s.2 → NonNeg (g k s).2) : ∀ (es : List Ev) (s : TS), NonNeg s.2 → NonNeg (runE g s es).2 := by
 intro es
 induction es with
 | nil => intro s h; exact h
 | cons e es ih =>
  intro s h
  rw [runE_cons]
  cases e with
  | sg k t => exact ih _ h
  | kid j => exact ih _ (hg _ _ h)
theorem nn_tell (ps : List PN) : ∀ (f k : Nat) (s : TS), NonNeg s.2 → NonNeg (tellF ps f k s).2 := by
 intro f
 induction f with
 | zero => intro k s h; exact h
 | succ f ih =>
  intro k s h
  unfold tellF
  cases ps[k]? with
  | none => exact h
  | some p => exact nn_run ih _ _ (nn_set h k _)
theorem nn_told (ps : List PN) : NonNeg (toldS ps).2 := nn_tell ps _ _ _ (fun x hx => by rw [(List.mem_replicate.1 hx).2]; exact Int.le_refl _)
theorem mine_kr {w w' : World} {T B : Nat} {ty e : TypeId} {cs : Array Value} {s n c : Nat} {A : Option Addr} {xs : List Value} (hm : Mine w B e s A n c xs) (hT : Blk w T ty cs) (k : Kr T none w none w') (hne : e ≠ ty) : Mine w' B e s A n c xs := by
 have hl2 := hm.len
 rcases hm.own with ⟨rfl, rfl, rfl⟩ | ⟨g, rfl, hB, hn, hc, rest, hb, hs⟩
 ·exact ⟨hl2, .inl ⟨rfl, rfl⟩⟩
 ·exact Mine.mk_own ⟨rest, hb.kr k (blk_ne hb hT hne) (by simp), hs⟩ hl2 hB hn hc
theorem NpsM.kr {w w' : World} {T B n c : Nat} {ty : TypeId} {cs : Array Value} {A : Option Addr} {ps : List PN} (h : NpsM w B A n c ps) (hT : Blk w T ty cs) (k : Kr T none w none w') (h1 : ty ≠ 36) (h2 : ty ≠ 3) : NpsM w' B A n c ps := by
 obtain ⟨l, hm, hl, hk, e⟩ := h
 exact ⟨l, mine_kr hm hT k (Ne.symm h1), hl, fun x hx => ⟨(hk x hx).1, mine_kr (hk x hx).2 hT k (Ne.symm h2)⟩, e⟩
theorem own_kr {w w' : World} {T g cap : Nat} {ty e : TypeId} {cs : Array Value} {xs : List Value} (h : Own w g e cap xs) (hT : Blk w T ty cs) (k : Kr T none w none w') (hne : e ≠ ty) : Own w' g e cap xs := by
 obtain ⟨rest, hb, hs⟩ := h
 exact ⟨rest, hb.kr k (blk_ne hb hT hne) (by simp), hs⟩
def linesN (t : ByteArray) (ps : List PN) : List Int := (toldS ps).2.map (lineN t)
def FiP (w0 : World) (B T : Nat) (AN : Option Addr) (n cN : Nat) (ps : List PN) (ls : List Int) (fs : List FindingD) (w : World) : Prop :=
 ∃ (AL : Option Addr) (cL : Nat) (AF : Option Addr) (cF : Nat), Blk w T 45 #[.slice AN n cN, .slice AL ls.length cL, .slice AF fs.length cF] ∧ NpsM w B AN n cN ps ∧ Mine w B 3 1 AL ls.length cL (intCells ls) ∧ Mine w B 41 3 AF fs.length cF (fs.flatMap findingCells) ∧ B ≤ T ∧ Below B w0 w
theorem told_len {ps : List PN} {w : World} {T Sb n c : Nat} {ty : TypeId} {A : Option Addr} {w0 : World} (h : TL ty T Sb A n c w0 (toldS ps) w) : (toldS ps).2.length = n := by
 obtain ⟨_, _, _, _, _, h, _⟩ := h
 exact h
theorem finderOf_no (t : ByteArray) (w : World) (ht : t.size ≤ 1048576) (h : readP t = none) : Calls prog 21 #[.string t] w fun e w' => ∃ T, e = .returned (.pointer (some ⟨T, 0, none⟩)) ∧ FiP w w.heap.size T none 0 0 [] [] [] w' := by
 have HR := hid (implRead_none t w ht h)
 clear h
 go_enter func21, ntmps21
 go_wp2_with fail
 refine HR.out.mono ?_
 rintro e w1 ⟨p, rfl, h1⟩
 have hz1 := h1.size
 have K := Blk.new w1 45 #[.slice none 0 0, .slice none 0 0, .slice none 0 0]
 have HK := hid K
 have HB := hid (h1.alloc hz1 (.cells #[.slice none 0 0, .slice none 0 0, .slice none 0 0] 45))
 clear K h1
 go_wp2
 go_ret
 exact ⟨w1.heap.size, rfl, none, 0, none, 0, HK.out, NpsM.none_ (Mine.mk_nil _ _ _ _), Mine.mk_nil _ _ _ _, Mine.mk_nil _ _ _ _, hz1, HB.out⟩
theorem take_snoc {α : Type} {l : List α} {k : Nat} {x : α} (h : l[k]? = some x) : l.take (k + 1) = l.take k ++ [x] := by
 rw [List.take_add_one, h]; rfl
theorem fe_push {w w1 w3 wr w5 : World} {A AL : Option Addr} {n c k cL : Nat} {xs : List Value} {L : Int} {v' : Value} (hK : Blk wr w1.heap.size 45 #[.slice A n c, .slice AL k cL, .slice none 0 0]) (hm : Mine wr w3.heap.size 3 1 AL k cL xs) (hk : Kr w1.heap.size none w3 none wr) (hb : Below w.heap.size w wr) (hz1 : w.heap.size ≤ w1.heap.size) (hz13 : w1.heap.size < w3.heap.size) (hzr : w3.heap.size ≤ wr.heap.size)
  (hown : w5.ownsRow w3.heap.size 3 1 v' (k + 1) (xs ++ [.int .i64 L])) (hg : (wr.alloc (.cells #[.int .i64 L] 3)).grownBy w5 (Value.slice AL k cL).ownBlock) :
  ∃ (A5 : Option Addr) (c5 : Nat), v' = .slice A5 (k + 1) c5 ∧ (w5.cell? ⟨w1.heap.size, 1, none⟩ = some (.slice AL k cL) ∧ (∀ i, w5.frozen? ⟨w1.heap.size, i, none⟩ = false) ∧ w1.heap.size < w5.heap.size) ∧
   (Blk (w5.setCell ⟨w1.heap.size, 1, none⟩ (.slice A5 (k + 1) c5)) w1.heap.size 45 #[.slice A n c, .slice A5 (k + 1) c5, .slice none 0 0] ∧ Mine (w5.setCell ⟨w1.heap.size, 1, none⟩ (.slice A5 (k + 1) c5)) w3.heap.size 3 1 A5 (k + 1) c5 (xs ++ [.int .i64 L]) ∧ Kr w1.heap.size none w3 none (w5.setCell ⟨w1.heap.size, 1, none⟩ (.slice A5 (k + 1) c5)) ∧ Below w.heap.size w (w5.setCell ⟨w1.heap.size, 1, none⟩ (.slice A5 (k + 1) c5))) := by
 obtain ⟨A5, c5, rfl, m5⟩ := Mine.of hown
 have hrow : ∀ g, (Value.slice AL k cL).ownBlock = some g → w3.heap.size ≤ g := fun g hg => by rw [ownBlk] at hg; exact (Mine.blk hm hg).1
 have hb5 : Blk w5 w1.heap.size 45 #[.slice A n c, .slice AL k cL, .slice none 0 0] := (hK.alloc _).grown hg (fun e => by
  rw [ownBlk] at e
  obtain ⟨cs, hk2⟩ := mine_blk' (Mine.alloc hm (.cells #[.int .i64 L] 3)) e.symm
  exact blk_ne (hK.alloc _) hk2 (by decide) rfl)
 have hal : Below wr.heap.size wr (wr.alloc (.cells #[.int .i64 L] 3)) := (Below.refl _ _).alloc (Nat.le_refl _) _
 have k5 := (hk.below hal).grown hg hrow
 refine ⟨A5, c5, rfl, ⟨hb5.cell 1, hb5.frozen, hb5.lt⟩, hb5.set_ 1 _, mine_set m5 hb5 (by decide) _ _, k5.setT 1 _, ?_⟩
 have b1 := below_next hb hal
 exact (b1.grown hg b1.size (fun g hgg => by have := hrow g hgg; omega)).setCell (show w.heap.size ≤ (⟨w1.heap.size, 1, none⟩ : Addr).block from hz1) _
theorem finderOf_yes (t : ByteArray) (w : World) (ht : t.size ≤ 1048576) (ps : List PN) (h : readP t = some ps) : Calls prog 21 #[.string t] w fun e w' => ∃ (T : Nat) (A : Option Addr) (c : Nat), e = .returned (.pointer (some ⟨T, 0, none⟩)) ∧ FiP w w.heap.size T A ps.length c ps (linesN t ps) [] w' := by
 obtain ⟨i0, hi0, hz0, hz1, hz2⟩ := info_parts infoInt
 have HII := hid (And.intro hi0 (And.intro hz0 (And.intro hz1 hz2)))
 obtain ⟨htr, hl3, hpn⟩ := readP_some h
 have HR := hid (implReadM_some t w ht ps h)
 have HP := hid (fun W => implPlaces_any t W ht)
 have HX := hid (fun (x : Int) W => implPlaceOf_any t x W ht)
 obtain ⟨n, hn⟩ : ∃ n, ps.length = n := ⟨_, rfl⟩
 rw [hn] at HR hl3
 rw [hn]
 have HTE := hid (fun (A : Option Addr) (c : Nat) (W : World) h => implTell_any A n c ps W (by omega) h htr)
 have hplen : (placesP t).length ≤ 3000 := by
  rw [placesP_eq, List.length_map]
  exact leftP_len _ (signsP_len t)
 obtain ⟨P, hP⟩ : ∃ P, placesP t = P := ⟨_, rfl⟩
 rw [hP] at HP hplen
 have H0 := hid (fun (v : Int) h => lineN_no hP (v := v) h)
 have H1 := hid (fun (q : Nat) (x : Int) h => lineN_yes hP (v := q) (x := x) h)
 have HNN := hid (nn_told ps)
 have HLd := hid (show linesN t ps = (toldS ps).2.map (lineN t) from rfl)
 generalize linesN t ps = LS at HLd ⊢
 have HTL := hid (fun (w0 w' : World) (T Sb c : Nat) (ty : TypeId) (A : Option Addr) h => told_len (ps := ps) (w := w') (T := T) (Sb := Sb) (n := n) (c := c) (ty := ty) (A := A) (w0 := w0) h)
 generalize toldS ps = told at HTE HNN HLd HTL
 clear hi0 hz0 hz1 hz2 h htr hP hpn
 go_enter func21, ntmps21
 go_wp2_with fail
 refine HR.out.mono ?_
 rintro e w1 ⟨A, c, rfl, hnm, h1⟩
 have HN1 := hid hnm
 have HB1 := hid h1
 have hz1' := h1.size
 clear h1 hnm HR
 go_wp2_with fail
 have K1 := hid (Blk.new w1 45 #[.slice A n c, .slice none 0 0, .slice none 0 0])
 have HN1a := hid (HN1.out.next ((Below.refl _ _).alloc (Nat.le_refl _) (.cells #[.slice A n c, .slice none 0 0, .slice none 0 0] 45)))
 have HB1a := hid (HB1.out.alloc hz1' (.cells #[.slice A n c, .slice none 0 0, .slice none 0 0] 45))
 refine (HP.out _).mono ?_
 rintro e w2 ⟨AP, cP, rfl, mP, h2⟩
 have HM2 := hid mP
 have K2 := hid (K1.out.next h2)
 have HN2 := hid (HN1a.out.next h2)
 have HB2 := hid (below_next HB1a.out h2)
 clear mP h2 HP K1 HN1a HB1a
 go_wp2_with fail
 refine (HTE.out A c w2 HN2.out.nps).mono ?_
 rintro e w3 ⟨rfl, htl⟩
 have hbw := htl.below
 have hlen := HTL.out _ _ _ _ _ _ _ htl
 obtain ⟨AS, cS, hbk, _, ho, _⟩ := htl
 have HO3 := hid ho
 have HM3 := hid (HM2.out.next hbw)
 have K3 := hid (K2.out.next hbw)
 have HN3 := hid (HN2.out.next hbw)
 have HB3 := hid (below_next HB2.out hbw)
 have hz3 := K3.out.lt
 have t2 := hbk.q2
 have tz := hbk.lt
 clear hbk ho hbw HM2 K2 HN2 HB2 HTE HTL
 have HKr := hid (Kr.refl w1.heap.size none w3)
 have HML := hid (show Mine w3 w3.heap.size 3 1 none 0 0 (intCells (LS.take 0)) from Mine.mk_nil _ _ _ _)
 have HLL := hid (show LS.length = n by rw [HLd.out, List.length_map]; exact hlen)
 go_upto_region 7 with fail
 clear t2 tz
 go_loopw [32] (fun i wr => ∃ (k : Nat) (AL : Option Addr) (cL : Nat), k ≤ n ∧ i = .int .i64 k ∧ Hid (Blk wr w1.heap.size 45 #[.slice A n c, .slice AL k cL, .slice none 0 0]) ∧ Hid (Mine wr w3.heap.size 3 1 AL k cL (intCells (LS.take k))) ∧ Hid (Kr w1.heap.size none w3 none wr) ∧ Hid (Below w.heap.size w wr)) (fun i _ => n - (intOf i).toNat)
 case atStart => exact ⟨0, none, 0, Nat.zero_le _, rfl, K3, HML, HKr, HB3⟩
 case round =>
  clear HML HKr
  obtain ⟨k, AL, cL, hk, rfl, HKb, HML, HKr, HBr⟩ := hrel
  have hzr := HKr.out.size
  by_cases hkn : k < n
  ·obtain ⟨v, hv⟩ : ∃ v, told.2[k]? = some v := ⟨_, gE (by omega)⟩
   obtain ⟨q, rfl⟩ := Int.eq_ofNat_of_zero_le (HNN.out v (List.mem_of_getElem? hv))
   have HOr := hid (own_kr HO3.out K3.out HKr.out (by decide))
   have HMr := hid (mine_kr HM3.out K3.out HKr.out (by decide))
   obtain ⟨b6, off6, e6, hblt6, cq⟩ := int_at (HOr.out.rd (size := 1) (n := n) (by simp [intCells, hlen])) hkn hv
   injection e6 with e6
   injection e6 with e61 e62
   subst e61; subst e62
   simp only [Nat.zero_add] at cq
   have hls : LS[k]? = some (lineN t (q : Int)) := by rw [HLd.out, List.getElem?_map, hv]; rfl
   have HTk := hid (take_snoc hls)
   have hi1 : (k : Int) < (n : Int) := by omega
   have hp3 : P.length ≤ 3000 := hplen
   by_cases hq : q < P.length
   ·obtain ⟨x, hx⟩ : ∃ x, P[q]? = some x := ⟨_, List.getElem?_eq_getElem hq⟩
    obtain ⟨b7, off7, rfl, hblt7, cp⟩ := int_at HMr.out.rd hq hx
    have hq1 : (q : Int) < (P.length : Int) := by omega
    have HEq := hid (H1.out q x hx)
    have HY := hid (HX.out x)
    clear hv hls hx
    generalize lineP t x = L at HY HEq
    go_wp2_with fail
    refine (HY.out _).mono ?_
    rintro e w4 ⟨c4, rfl, rfl⟩
    have kc1 := HKb.out.q1
    have kf := HKb.out.frozen
    have kz := HKb.out.lt
    have HPt := hid (fun (v' : Value) (w5 : World) (hown : w5.ownsRow w3.heap.size 3 1 v' (k + 1) (intCells (LS.take k) ++ [.int .i64 L])) (hg : (wr.alloc (.cells #[.int .i64 L] 3)).grownBy w5 (Value.slice AL k cL).ownBlock) => fe_push (L := L) HKb.out HML.out HKr.out HBr.out hz1' hz3 hzr hown hg)
    go_wp2_with (at_builtin; (refine wpList_append_row _ rfl (.tmp 53) (.tmp 55) _ rfl w3.heap.size 3 i0 (.int .i64 0) 1 8 underlying34 HII.out.1 HII.out.2.1 HII.out.2.2.1 HII.out.2.2.2 rfl (by decide) (.slice AL k cL) k (intCells (LS.take k)) rfl (Mine.alloc HML.out _) ⟨wr.heap.size, 0, none⟩ 1 1 [.int .i64 L] rfl rfl (int_new _ _ _) (int_one _) (by unfold maxLen; omega) (by omega) (by simp; omega) ?_); intro v' w5 hown5 hg5 hwh5; obtain ⟨A5, c5, rfl, ⟨j1, jf, jz⟩, hres⟩ := HPt.out v' w5 hown5 hg5)
    have HRes := hid hres
    clear hown5 hg5 hwh5 hres HPt j1 jf jz
    go_wp2
    go_roundw
    case rel => exact ⟨k + 1, A5, c5, by omega, by go_num, HRes.out.1, (by rw [HTk.out, HEq.out, ints_snoc]; exact HRes.out.2.1), HRes.out.2.2.1, HRes.out.2.2.2⟩
    case measure => simp [intOf]; omega
   ·have hq1 : ¬ (q : Int) < (P.length : Int) := by omega
    have hq2 : decide ((q : Int) < (P.length : Int)) = false := decide_eq_false hq1
    have HEq := hid (H0.out (q : Int) (decide_eq_false (by omega)))
    have kc1 := HKb.out.q1
    have kf := HKb.out.frozen
    have kz := HKb.out.lt
    clear hv hls
    have HPt := hid (fun (v' : Value) (w5 : World) (hown : w5.ownsRow w3.heap.size 3 1 v' (k + 1) (intCells (LS.take k) ++ [.int .i64 0])) (hg : (wr.alloc (.cells #[.int .i64 0] 3)).grownBy w5 (Value.slice AL k cL).ownBlock) => fe_push (L := 0) HKb.out HML.out HKr.out HBr.out hz1' hz3 hzr hown hg)
    go_wp2_with (at_builtin; (refine wpList_append_row _ rfl (.tmp 53) (.tmp 55) _ rfl w3.heap.size 3 i0 (.int .i64 0) 1 8 underlying34 HII.out.1 HII.out.2.1 HII.out.2.2.1 HII.out.2.2.2 rfl (by decide) (.slice AL k cL) k (intCells (LS.take k)) rfl (Mine.alloc HML.out _) ⟨wr.heap.size, 0, none⟩ 1 1 [.int .i64 0] rfl rfl (int_new _ _ _) (int_one _) (by unfold maxLen; omega) (by omega) (by simp; omega) ?_); intro v' w5 hown5 hg5 hwh5; obtain ⟨A5, c5, rfl, ⟨j1, jf, jz⟩, hres⟩ := HPt.out v' w5 hown5 hg5)
    have HRes := hid hres
    clear hown5 hg5 hwh5 hres HPt j1 jf jz
    go_wp2
    go_roundw
    case rel => exact ⟨k + 1, A5, c5, by omega, by go_num, HRes.out.1, (by rw [HTk.out, HEq.out, ints_snoc]; exact HRes.out.2.1), HRes.out.2.2.1, HRes.out.2.2.2⟩
    case measure => simp [intOf]; omega
  ·obtain rfl : k = n := by omega
   have HNr := hid (HN3.out.kr K3.out HKr.out (by decide) (by decide))
   have HFi : Hid (FiP w w.heap.size w1.heap.size A k c ps LS [] wr) := (show FiP w w.heap.size w1.heap.size A k c ps LS [] wr from ⟨AL, cL, none, 0, by rw [HLL.out]; exact HKb.out, HNr.out, (by
    have h := HML.out
    rw [← HLL.out, List.take_length] at h
    exact h.more HB3.out.size), Mine.mk_nil _ _ _ _, hz1', HBr.out⟩)
   go_wp2
   go_ret
   exact ⟨w1.heap.size, A, c, rfl, HFi.out⟩
theorem NpsM.set {w : World} {B n c T : Nat} {ty : TypeId} {cs : Array Value} {A : Option Addr} {ps : List PN} (h : NpsM w B A n c ps) (hT : Blk w T ty cs) (h1 : ty ≠ 36) (h2 : ty ≠ 3) (i : Nat) (u : Value) : NpsM (w.setCell ⟨T, i, none⟩ u) B A n c ps := by
 obtain ⟨l, hm, hl, hk, e⟩ := h
 exact ⟨l, mine_set hm hT (Ne.symm h1) _ _, hl, fun x hx => ⟨(hk x hx).1, mine_set (hk x hx).2 hT (Ne.symm h2) _ _⟩, e⟩
def KpF (T : Nat) (w w' : World) : Prop := ∀ g t cs, Blk w g t cs → g ≠ T → t ≠ 41 → Blk w' g t cs
theorem Mine.kpf {w w' : World} {B s n c T : Nat} {e ty : TypeId} {cs : Array Value} {A : Option Addr} {xs : List Value} (h : Mine w B e s A n c xs) (k : KpF T w w') (hT : Blk w T ty cs) (h1 : e ≠ ty) (h2 : e ≠ 41) : Mine w' B e s A n c xs := by
 have hl2 := h.len
 rcases h.own with ⟨rfl, rfl, rfl⟩ | ⟨g', rfl, hB, hn, hc, rest, hb', hs⟩
 ·exact ⟨by rw [hl2], .inl ⟨rfl, rfl⟩⟩
 ·exact Mine.mk_own ⟨rest, k _ _ _ hb' (blk_ne hb' hT h1) h2, hs⟩ hl2 hB hn hc
theorem fi_push {w0 w w6 : World} {B T : Nat} {AN AL AF : Option Addr} {n cN cL cF : Nat} {ps : List PN} {ls : List Int} {fs : List FindingD} {kd L : Int} {tx : ByteArray} {v' : Value}
  (hK : Blk w T 45 #[.slice AN n cN, .slice AL ls.length cL, .slice AF fs.length cF]) (hN : NpsM w B AN n cN ps) (hL : Mine w B 3 1 AL ls.length cL (intCells ls)) (hF : Mine w B 41 3 AF fs.length cF (fs.flatMap findingCells)) (hBT : B ≤ T) (hB : Below B w0 w) (hB0 : B = w0.heap.size)
  (hown : w6.ownsRow B 41 3 v' (fs.length + 1) (fs.flatMap findingCells ++ [.int .i64 kd, .int .i64 L, .string tx])) (hg : (w.alloc (.cells #[.int .i64 kd, .int .i64 L, .string tx] 41)).grownBy w6 (Value.slice AF fs.length cF).ownBlock) :
  ∃ (A6 : Option Addr) (c6 : Nat), v' = .slice A6 (fs.length + 1) c6 ∧ ((∃ v, w6.cell? ⟨T, 2, none⟩ = some v) ∧ (∀ i, w6.frozen? ⟨T, i, none⟩ = false) ∧ T < w6.heap.size) ∧ FiP w0 B T AN n cN ps ls (fs ++ [(kd, L, tx)]) (w6.setCell ⟨T, 2, none⟩ v') ∧ KpF T w (w6.setCell ⟨T, 2, none⟩ v') := by
 obtain ⟨A6, c6, rfl, m6⟩ := Mine.of hown
 rw [ownBlk] at hg
 have hal : Below w.heap.size w (w.alloc (.cells #[.int .i64 kd, .int .i64 L, .string tx] 41)) := (Below.refl _ _).alloc (Nat.le_refl _) _
 have hFa := hF.next hal
 have hr : ∀ g, AF.map (·.block) = some g → ∃ t cs, Blk (w.alloc (.cells #[.int .i64 kd, .int .i64 L, .string tx] 41)) g t cs ∧ t ≠ 36 ∧ t ≠ 3 := fun g e => by
  obtain ⟨cs, hk⟩ := mine_blk' hFa e
  exact ⟨_, cs, hk, by decide, by decide⟩
 have hb6 : Blk w6 T 45 #[.slice AN n cN, .slice AL ls.length cL, .slice AF fs.length cF] := (hK.next hal).grown hg (fun e => by
  obtain ⟨cs, hk⟩ := mine_blk' hFa e.symm
  exact blk_ne (hK.next hal) hk (by decide) rfl)
 have hN6 := (hN.next hal).grown hg hr
 have hL6 : Mine w6 B 3 1 AL ls.length cL (intCells ls) := Mine.grown (hL.next hal) hg (fun g e => .inr (Mine.apart (hL.next hal) hFa (by decide) e))
 have hB6 : Below B w0 w6 := by
  subst hB0
  exact (below_next hB hal).grown hg (below_next hB hal).size (fun g e => (Mine.blk hFa e).1)
 refine ⟨A6, c6, rfl, ⟨⟨_, hb6.cell 2⟩, hb6.frozen, hb6.lt⟩, ⟨AL, cL, A6, c6, ?_, hN6.set hb6 (by decide) (by decide) _ _, mine_set hL6 hb6 (by decide) _ _, ?_, hBT, hB6.setCell hBT _⟩, fun g t cs hgb h1 h2 => (((hgb.next hal).grown hg (fun e => ?_)).far h1 _)⟩
 ·rw [lA]
  exact hb6.set_ 2 _
 ·rw [snoc_find, lA]
  exact mine_set m6 hb6 (by decide) _ _
 ·obtain ⟨cs', hk⟩ := mine_blk' hFa e.symm
  exact blk_ne (hgb.next hal) hk h2 rfl
theorem find_any (w0 : World) (T : Nat) (AN : Option Addr) (n cN : Nat) (ps : List PN) (ls : List Int) (fs : List FindingD) (kd : Int) (k : Nat) (L : Int) (tx : ByteArray) (w : World) (h : FiP w0 w0.heap.size T AN n cN ps ls fs w) (hx : ls[k]? = some L) (hfl : fs.length ≤ 100000) (hll : ls.length ≤ 100000) :
  Calls prog 23 #[.pointer (some ⟨T, 0, none⟩), .int .i64 kd, .int .i64 k, .string tx] w fun e w' => e = .returned (.tuple #[]) ∧ FiP w0 w0.heap.size T AN n cN ps ls (fs ++ [(kd, L, tx)]) w' ∧ KpF T w w' := by
 obtain ⟨i0, hi, hz0, hz1, hz2⟩ := info_parts infoFindingI
 have HI := hid (And.intro hi (And.intro hz0 (And.intro hz1 hz2)))
 obtain ⟨AL, cL, AF, cF, hK, hN, hL, hF, hBT, hB⟩ := h
 have hkl : k < ls.length := (List.getElem?_eq_some_iff.1 hx).1
 obtain ⟨b, off, rfl, hblt, cl⟩ := int_at hL.rd hkl hx
 have hal : ∀ o, Below w.heap.size w (w.alloc o) := fun o => (Below.refl _ _).alloc (Nat.le_refl _) o
 have c1 := hK.q1
 have c2 := hK.q2
 have cf := hK.frozen
 have cz := hK.lt
 have e1 : ∀ o, (w.alloc o).cell? ⟨T, 1, none⟩ = some (.slice (some ⟨b, off, none⟩) ls.length cL) := fun o => ((bcell (hal o)).1 _ 1 cz).trans c1
 have e2 : ∀ o, (w.alloc o).cell? ⟨T, 2, none⟩ = some (.slice AF fs.length cF) := fun o => ((bcell (hal o)).1 _ 2 cz).trans c2
 have e3 : ∀ o, (w.alloc o).cell? ⟨b, off + k, none⟩ = some (.int .i64 L) := fun o => ((bcell (hal o)).1 _ _ hblt).trans cl
 have hkl' : (k : Int) < (ls.length : Int) := by omega
 have HM := hid (Mine.alloc hF (.cells #[.int .i64 kd, .int .i64 L, .string tx] 41))
 have HPt := hid (fun (v' : Value) (w6 : World) h1 h2 => fi_push (kd := kd) (L := L) (tx := tx) (v' := v') (w6 := w6) hK hN hL hF hBT hB rfl h1 h2)
 have HBZ := hid (show w0.heap.size ≤ (w.alloc (.cells #[.int .i64 kd, .int .i64 L, .string tx] 41)).heap.size by have := hB.size; simp only [World.size_alloc]; omega)
 have hnb := heap_alloc_new w (.cells #[.int .i64 kd, .int .i64 L, .string tx] 41)
 clear hi hz0 hz1 hz2 hK hN hL hF hB hx hal
 go_enter func23, ntmps23
 try go_upto_region 0 with fail
 go_region_law
  (refine step_append_lies _ rfl (.tmp 12) (.tmp 23) 22 rfl w0.heap.size 41 i0 (.agg #[.int .i64 0, .int .i64 0, .string ⟨#[]⟩]) 3 32 underlying22 HI.out.1 HI.out.2.1 HI.out.2.2.1 HI.out.2.2.2 rfl (by decide) (.slice AF fs.length cF) fs.length (fs.flatMap findingCells) (by first | (simp [Act.eval]; done) | (simp [Act.eval, Act.put]; done) | rfl) (by first | exact HM.out.drew | exact HM.out) ⟨w.heap.size, 0, none⟩ 1 1 [.int .i64 kd, .int .i64 L, .string tx] (by first | (simp [Act.eval]; done) | (simp [Act.eval, Act.put]; done) | rfl) (by rfl) (World.news_of_block (cs := #[.int .i64 kd, .int .i64 L, .string tx]) (t := 41) (fr := (0, 0)) hnb) (fun x hx => by simp at hx; rcases hx with rfl | rfl | rfl <;> rfl) (by decide) (by unfold maxLen; omega) (by omega) (by first | exact HBZ.out) (w.heap.size + 1) (by simp) ?_
   intro q cap w6 hown6 hgrow hat hlt6
   have hgrow2 : (w.alloc (.cells #[.int .i64 kd, .int .i64 L, .string tx] 41)).grownBy w6 (Value.slice AF fs.length cF).ownBlock := (by first | exact hgrow | exact grown_undrewP hgrow)
   obtain ⟨A6, c6, ev, ⟨⟨v6, j6⟩, jf, jz⟩, hres⟩ := HPt.out _ _ hown6 hgrow2
   have HW := hid (And.intro ev hres)
   clear hown6 hgrow hat hgrow2 ev hres)
 all_goals
  have HRes := hid HW.out.2
  clear HW
  go_wp2
  go_end0
  exact ⟨rfl, HRes.out.1, fun g t cs hb h1 h2 => HRes.out.2 g t cs hb h1 h2⟩
theorem FiP.next {w0 w w' : World} {B T : Nat} {AN : Option Addr} {n cN : Nat} {ps : List PN} {ls : List Int} {fs : List FindingD} (h : FiP w0 B T AN n cN ps ls fs w) (hB : B = w0.heap.size) (hb : Below w.heap.size w w') : FiP w0 B T AN n cN ps ls fs w' := by
 obtain ⟨AL, cL, AF, cF, hK, hN, hL, hF, hBT, hBw⟩ := h
 subst hB
 exact ⟨AL, cL, AF, cF, hK.next hb, hN.next hb, hL.next hb, hF.next hb, hBT, below_next hBw hb⟩
theorem len_run {g : Nat → TS → TS} (hg : ∀ k s, (g k s).2.length = s.2.length) : ∀ (es : List Ev) (s : TS), (runE g s es).2.length = s.2.length := by
 intro es
 induction es with
 | nil => intro s; rfl
 | cons e es ih =>
  intro s
  rw [runE_cons]
  cases e with
  | sg k t => exact ih _
  | kid j => exact (ih _).trans (hg _ _)
theorem len_tell (ps : List PN) : ∀ (f k : Nat) (s : TS), (tellF ps f k s).2.length = s.2.length := by
 intro f
 induction f with
 | zero => intro k s; rfl
 | succ f ih =>
  intro k s
  unfold tellF
  cases ps[k]? with
  | none => rfl
  | some p => exact (len_run ih _ _).trans (by simp)
theorem len_told (ps : List PN) : (toldS ps).2.length = ps.length := by unfold toldS; rw [len_tell]; simp
theorem lines_len' (t : ByteArray) (ps : List PN) : (linesN t ps).length = ps.length := by unfold linesN; rw [List.length_map, len_told]
theorem lines_at {t : ByteArray} {ps : List PN} (h : treeB ps = true) {k : Nat} (hk : k < ps.length) : (linesN t ps)[k]? = some (lineN t (firstV ps k)) := by
 obtain ⟨v, hv⟩ : ∃ v, (toldS ps).2[k]? = some v := ⟨_, gE (by rw [len_told]; exact hk)⟩
 unfold linesN firstV
 rw [List.getElem?_map, hv, if_pos ⟨h, by omega, by omega⟩, Int.toNat_natCast, List.getD_eq_getElem?_getD, hv]
 rfl
theorem NpsM.kidM {w : World} {B n c k : Nat} {A : Option Addr} {ps : List PN} {p : PN} (h : NpsM w B A n c ps) (hk : k < n) (hd : ps[k]? = some p) :
  ∃ b off A' c', A = some ⟨b, off, none⟩ ∧ b < w.heap.size ∧ w.cell? ⟨b, off + k * 4, none⟩ = some (.int .i64 p.kind) ∧ w.cell? ⟨b, off + k * 4 + 1, none⟩ = some (.string p.text) ∧ w.cell? ⟨b, off + k * 4 + 2, none⟩ = some (.slice A' p.kids.length c') ∧ w.cell? ⟨b, off + k * 4 + 3, none⟩ = some (.bool p.blank) ∧ Mine w B 3 1 A' p.kids.length c' (intCells p.kids) := by
 obtain ⟨l, hm, hl, hki, rfl⟩ := h
 rw [List.getElem?_map] at hd
 obtain ⟨d, hd2, rfl⟩ := Option.map_eq_some_iff.1 hd
 have hn : Nds w A n l := ⟨hl, hm.rd, fun x hx => (hki x hx).2.rd⟩
 obtain ⟨b, off, e, hb, c0, c1, c2, c3⟩ := hn.at_ hk hd2
 have hc := hn.cnt (List.mem_of_getElem? hd2)
 refine ⟨b, off, d.adr, d.cap, e, hb, c0, c1, ?_, c3, ?_⟩
 ·show w.cell? _ = some (.slice d.adr d.kids.length d.cap); rw [hc]; exact c2
 ·show Mine w B 3 1 d.adr d.kids.length d.cap (intCells d.kids); rw [hc]; exact (hki d (List.mem_of_getElem? hd2)).2
theorem Mine.grown' {w w' : World} {B s n c : Nat} {e : TypeId} {A : Option Addr} {xs : List Value} {r : Option Nat} (h : Mine w B e s A n c xs) (hg : w.grownBy w' r) (hr : ∀ g, r = some g → ∃ t cs, Blk w g t cs ∧ t ≠ e) : Mine w' B e s A n c xs := by
 have hl2 := h.len
 rcases h.own with ⟨rfl, rfl, rfl⟩ | ⟨g', rfl, hB, hn, hc, rest, hb', hs⟩
 ·exact ⟨by rw [hl2], .inl ⟨rfl, rfl⟩⟩
 ·refine Mine.mk_own ⟨rest, hb'.grown hg (fun e2 => ?_), hs⟩ hl2 hB hn hc
  obtain ⟨t, cs, hb, hne⟩ := hr g' e2.symm
  exact blk_ne hb' hb (Ne.symm hne) rfl
def SF (w : World) (AN : Option Addr) (n cN : Nat) (ps : List PN) (AI : Option Addr) (cI : Nat) (xs : List Int) (AS : Option Addr) (cS : Nat) (ss : List ByteArray) (AF : Option Addr) (cF : Nat) (fs : List FindingD) (wr : World) : Prop :=
 NpsM wr w.heap.size AN n cN ps ∧ Mine wr w.heap.size 3 1 AI xs.length cI (intCells xs) ∧ Mine wr w.heap.size 9 1 AS ss.length cS (strCells ss) ∧ Mine wr w.heap.size 41 3 AF fs.length cF (fs.flatMap findingCells) ∧ Below w.heap.size w wr
section
variable {w wr w2 w3 : World} {AN : Option Addr} {n cN : Nat} {ps : List PN} {AI : Option Addr} {cI : Nat} {xs : List Int} {AS : Option Addr} {cS : Nat} {ss : List ByteArray} {AF : Option Addr} {cF : Nat} {fs : List FindingD} {v' : Value}
theorem SF.next (h : SF w AN n cN ps AI cI xs AS cS ss AF cF fs wr) (hb : Below wr.heap.size wr w2) : SF w AN n cN ps AI cI xs AS cS ss AF cF fs w2 :=
 ⟨h.1.next hb, h.2.1.next hb, h.2.2.1.next hb, h.2.2.2.1.next hb, below_next h.2.2.2.2 hb⟩
theorem SF.alloc (h : SF w AN n cN ps AI cI xs AS cS ss AF cF fs wr) (o : Obj) : SF w AN n cN ps AI cI xs AS cS ss AF cF fs (wr.alloc o) := h.next ((Below.refl _ _).alloc (Nat.le_refl _) o)
theorem SF.find (h : SF w AN n cN ps AI cI xs AS cS ss AF cF fs wr) {a b : Int} {s : ByteArray} (hown : w3.ownsRow w.heap.size 41 3 v' (fs.length + 1) (fs.flatMap findingCells ++ [.int .i64 a, .int .i64 b, .string s])) (hg : wr.grownBy w3 (Value.slice AF fs.length cF).ownBlock) :
  ∃ A3 c3, v' = .slice A3 (fs.length + 1) c3 ∧ SF w AN n cN ps AI cI xs AS cS ss A3 c3 (fs ++ [(a, b, s)]) w3 := by
 obtain ⟨A3, c3, rfl, m3⟩ := Mine.of hown
 rw [ownBlk] at hg
 have hr : ∀ g, AF.map (·.block) = some g → ∃ cs, Blk wr g 41 cs := fun g e => mine_blk' h.2.2.2.1 e
 refine ⟨A3, c3, rfl, h.1.grown hg (fun g e => ?_), h.2.1.grown' hg (fun g e => ?_), h.2.2.1.grown' hg (fun g e => ?_), by rw [snoc_find, lA]; exact m3, h.2.2.2.2.grown hg h.2.2.2.2.size (fun g e => (Mine.blk h.2.2.2.1 e).1)⟩
 all_goals obtain ⟨cs, hk⟩ := hr g e
 ·exact ⟨_, cs, hk, by decide, by decide⟩
 ·exact ⟨_, cs, hk, by decide⟩
 ·exact ⟨_, cs, hk, by decide⟩
theorem SF.name (h : SF w AN n cN ps AI cI xs AS cS ss AF cF fs wr) {s : ByteArray} (hown : w3.ownsRow w.heap.size 9 1 v' (ss.length + 1) (strCells ss ++ [.string s])) (hg : wr.grownBy w3 (Value.slice AS ss.length cS).ownBlock) :
  ∃ A3 c3, v' = .slice A3 (ss.length + 1) c3 ∧ SF w AN n cN ps AI cI xs A3 c3 (ss ++ [s]) AF cF fs w3 := by
 obtain ⟨A3, c3, rfl, m3⟩ := Mine.of hown
 rw [ownBlk] at hg
 have hr : ∀ g, AS.map (·.block) = some g → ∃ cs, Blk wr g 9 cs := fun g e => mine_blk' h.2.2.1 e
 refine ⟨A3, c3, rfl, h.1.grown hg (fun g e => ?_), h.2.1.grown' hg (fun g e => ?_), by simp only [strCells, lA, List.map_append]; exact m3, h.2.2.2.1.grown' hg (fun g e => ?_), h.2.2.2.2.grown hg h.2.2.2.2.size (fun g e => (Mine.blk h.2.2.1 e).1)⟩
 all_goals obtain ⟨cs, hk⟩ := hr g e
 ·exact ⟨_, cs, hk, by decide, by decide⟩
 ·exact ⟨_, cs, hk, by decide⟩
 ·exact ⟨_, cs, hk, by decide⟩
end
theorem str_yes {x y : ByteArray} (h : x = y) : (x.toList == y.toList) = true := by rw [h]; simp
theorem l22Has_any (A : Option Addr) (n c : Nat) (l : List ByteArray) (x : ByteArray) (w : World) (hn : n ≤ 4194304) (hl : Hid (l.length = n)) (ha : Rd w 1 A n (strCells l)) :
  Calls prog 19 #[.slice A n c, .string x] w fun e w' => e = .returned (.bool (Lib.containsS l x)) ∧ Below w.heap.size w w' := by
 obtain ⟨r, hr⟩ : ∃ r, Lib.containsS l x = r := ⟨_, rfl⟩
 have HY := hid (fun (k : Nat) (h : l[k]? = some x) => show r = true by rw [← hr]; exact (Lib.containsS_iff _ _).2 (List.mem_of_getElem? h))
 have HN := hid (fun (h : ∀ j, j < n → l[j]? ≠ some x) => show r = false by
  rw [← hr, Bool.eq_false_iff]
  intro h2
  obtain ⟨j, hj, e⟩ := List.mem_iff_getElem.1 ((Lib.containsS_iff _ _).1 h2)
  exact h j (by have := hl.out; omega) (by rw [List.getElem?_eq_getElem hj, e]))
 rw [hr]
 have HA := hid ha
 clear ha hr
 go_enter func19, ntmps19
 go_wp2
 go_loopw [5] (fun i wr => ∃ k : Nat, k ≤ n ∧ i = .int .i64 k ∧ Hid (∀ j, j < k → l[j]? ≠ some x) ∧ Below w.heap.size w wr) (fun i _ => n - (intOf i).toNat)
 case atStart => exact ⟨0, Nat.zero_le _, rfl, (show ∀ j, j < 0 → l[j]? ≠ some x from fun j h => absurd h (by omega)), Below.refl _ _⟩
 case round =>
  obtain ⟨k, hk, rfl, HO, hbb⟩ := hrel
  by_cases hkn : k < n
  ·obtain ⟨y, hd⟩ : ∃ d, l[k]? = some d := ⟨_, gE (by have := hl.out; omega)⟩
   obtain ⟨b, off, rfl, hblt, c0⟩ := str_at (HA.out.below hbb) hkn hd
   by_cases hyx : y = x
   ·subst hyx
    have hs := str_yes (rfl : y = y)
    obtain rfl := HY.out k hd
    clear hd
    go_wp2
    go_ret
    exact ⟨rfl, grow_⟩
   ·have hs := str_ne hyx
    have HO2 : Hid (∀ j, j < k + 1 → l[j]? ≠ some x) := (show ∀ j, j < k + 1 → l[j]? ≠ some x from fun j h => by
     rcases Nat.lt_or_ge j k with h2 | h2
     ·exact HO.out j h2
     ·obtain rfl : j = k := by omega
      rw [hd]; intro e; exact hyx (Option.some.inj e))
    clear hd hyx
    go_wp2
    go_roundw
    case rel => exact ⟨k + 1, by omega, by go_num, HO2, grow_⟩
    case measure => simp [intOf]; omega
  ·obtain rfl : k = n := by omega
   obtain rfl := HN.out HO.out
   go_wp2
   go_ret
   exact ⟨rfl, hbb⟩
theorem containsM {w : World} {B : Nat} {A : Option Addr} {n c : Nat} {l : List ByteArray} (x : ByteArray) (h : Mine w B 9 1 A n c (strCells l)) : Calls prog 22 #[.slice A n c, .string x] w fun e w' => e = .returned (.bool (Lib.containsS l x)) ∧ w' = w := by
 have hl : l.length = n := by have := h.len; unfold strCells at this; rw [List.length_map] at this; omega
 rcases h.own with ⟨rfl, rfl, rfl⟩ | ⟨g, rfl, hB, hn, hc, ho⟩
 ·obtain rfl : l = [] := List.eq_nil_of_length_eq_zero hl
  exact (Tryz.slices_Contains_string_empty none 0 x w)
 ·have h2 := h.rd
  have h3 := Tryz.slices_Contains_string g 0 n c l x w (by omega) (by unfold maxLen at hc; omega) (fun j hj => by
   obtain ⟨b', off, e, hb, hcell⟩ := h2.2 (by omega)
   injection e with e; injection e with e1 e2; subst e1; subst e2
   have := hcell j (.string (l.getD j ByteArray.empty)) (by unfold strCells; rw [List.getElem?_map, List.getElem?_eq_getElem hj]; simp [List.getD, List.getElem?_eq_getElem hj])
   simpa using this)
  rw [List.take_of_length_le (by omega)] at h3
  exact h3
theorem FiP.grown {w0 w w' : World} {T : Nat} {AN : Option Addr} {n cN : Nat} {ps : List PN} {ls : List Int} {fs : List FindingD} {row : Option Nat} (h : FiP w0 w0.heap.size T AN n cN ps ls fs w) (hg : w.grownBy w' row) (hr : ∀ g, row = some g → w0.heap.size ≤ g ∧ ∃ cs, Blk w g 9 cs) : FiP w0 w0.heap.size T AN n cN ps ls fs w' := by
 obtain ⟨AL, cL, AF, cF, hK, hN, hL, hF, hBT, hB⟩ := h
 have hs : ∀ g, row = some g → ∃ cs, Blk w g 9 cs := fun g e => (hr g e).2
 refine ⟨AL, cL, AF, cF, hK.grown hg (fun e => ?_), hN.grown hg (fun g e => ?_), hL.grown' hg (fun g e => ?_), hF.grown' hg (fun g e => ?_), hBT, hB.grown hg hB.size (fun g e => (hr g e).1)⟩
 ·obtain ⟨cs, hk⟩ := hs _ e.symm
  exact blk_ne hK hk (by decide) rfl
 all_goals obtain ⟨cs, hk⟩ := hs g e
 ·exact ⟨_, cs, hk, by decide, by decide⟩
 ·exact ⟨_, cs, hk, by decide⟩
 ·exact ⟨_, cs, hk, by decide⟩
def FP (w : World) (T : Nat) (AN : Option Addr) (n cN : Nat) (ps : List PN) (ls : List Int) (AI : Option Addr) (cI : Nat) (xs : List Int) (AS : Option Addr) (cS : Nat) (ss : List ByteArray) (fs : List FindingD) (wr : World) : Prop :=
 FiP w w.heap.size T AN n cN ps ls fs wr ∧ Mine wr w.heap.size 3 1 AI xs.length cI (intCells xs) ∧ Mine wr w.heap.size 9 1 AS ss.length cS (strCells ss)
section
variable {w wr w2 w3 : World} {T : Nat} {AN : Option Addr} {n cN : Nat} {ps : List PN} {ls : List Int} {AI : Option Addr} {cI : Nat} {xs : List Int} {AS : Option Addr} {cS : Nat} {ss : List ByteArray} {fs fs' : List FindingD} {v' : Value}
theorem FP.next (h : FP w T AN n cN ps ls AI cI xs AS cS ss fs wr) (hb : Below wr.heap.size wr w2) : FP w T AN n cN ps ls AI cI xs AS cS ss fs w2 := ⟨h.1.next rfl hb, h.2.1.next hb, h.2.2.next hb⟩
theorem FP.alloc (h : FP w T AN n cN ps ls AI cI xs AS cS ss fs wr) (o : Obj) : FP w T AN n cN ps ls AI cI xs AS cS ss fs (wr.alloc o) := h.next ((Below.refl _ _).alloc (Nat.le_refl _) o)
theorem FP.found (h : FP w T AN n cN ps ls AI cI xs AS cS ss fs wr) (h' : FiP w w.heap.size T AN n cN ps ls fs' w2) (k : KpF T wr w2) : FP w T AN n cN ps ls AI cI xs AS cS ss fs' w2 := by
 obtain ⟨hf, hi, hs⟩ := h
 obtain ⟨AL, cL, AF, cF, hK, _⟩ := hf
 exact ⟨h', hi.kpf k hK (by decide) (by decide), hs.kpf k hK (by decide) (by decide)⟩
theorem FP.name (h : FP w T AN n cN ps ls AI cI xs AS cS ss fs wr) {s : ByteArray} (hown : w3.ownsRow w.heap.size 9 1 v' (ss.length + 1) (strCells ss ++ [.string s])) (hg : wr.grownBy w3 (Value.slice AS ss.length cS).ownBlock) :
  ∃ A3 c3, v' = .slice A3 (ss.length + 1) c3 ∧ FP w T AN n cN ps ls AI cI xs A3 c3 (ss ++ [s]) fs w3 := by
 obtain ⟨A3, c3, rfl, m3⟩ := Mine.of hown
 rw [ownBlk] at hg
 have hr : ∀ g, AS.map (·.block) = some g → w.heap.size ≤ g ∧ ∃ cs, Blk wr g 9 cs := fun g e => ⟨(Mine.blk h.2.2 e).1, mine_blk' h.2.2 e⟩
 refine ⟨A3, c3, rfl, h.1.grown hg hr, h.2.1.grown' hg (fun g e => ?_), by simp only [strCells, lA, List.map_append]; exact m3⟩
 obtain ⟨_, cs, hk⟩ := hr g e
 exact ⟨_, cs, hk, by decide⟩
end
theorem finderOf_src (t : ByteArray) (w : World) (ht : t.size ≤ 1048576) : Calls prog 21 #[.string t] w fun e w' => ∃ (T : Nat) (A : Option Addr) (n c : Nat) (ps : List PN) (ls : List Int), e = .returned (.pointer (some ⟨T, 0, none⟩)) ∧ FiP w w.heap.size T A n c ps ls [] w' ∧ n ≤ 300 ∧ ls.length = n ∧ (∀ k, k < n → ls[k]? = some (lineN t (firstV ps k))) ∧ ((readP t = none ∧ n = 0 ∧ ps = []) ∨ (readP t = some ps ∧ n = ps.length)) := by
 rcases hr : readP t with _ | ps
 ·refine (finderOf_no t w ht hr).mono ?_
  rintro e w' ⟨T, rfl, h⟩
  exact ⟨T, none, 0, 0, [], [], rfl, h, Nat.zero_le _, rfl, fun k hk => absurd hk (by omega), .inl ⟨rfl, rfl, rfl⟩⟩
 ·refine (finderOf_yes t w ht ps hr).mono ?_
  rintro e w' ⟨T, A, c, rfl, h⟩
  obtain ⟨h1, h2, h3⟩ := readP_some hr
  exact ⟨T, A, ps.length, c, ps, linesN t ps, rfl, h, h2, lines_len' t ps, fun k hk => lines_at h1 hk, .inr ⟨rfl, rfl⟩⟩
end Go.Proofs.YtgbikafalcbibaaGreatDoor

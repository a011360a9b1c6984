/-
  Put together by program (shake.py): SpaA, SpaB, SpaC, SpaD, SpaE, SpaF, SpaG.
-/
import Derived.Test.YtgbikafalcbibaaGreatDoorMiM
import Derived.Test.YtgbikafalcbibaaGreatDoorMiK
import Derived.Test.YtgbikafalcbibaaGreatDoorMiL
set_option maxRecDepth 100000
set_option maxHeartbeats 25600000
set_option linter.unusedVariables false
set_option linter.unusedSimpArgs false
open Go.Lib (hid)
open Go.Proofs.Tryz
namespace Go.Proofs.YtgbikafalcbibaaGreatDoor
open Go.RowKit
section
variable {R : RC} {a d : Nat} {b : Bool} {AN : Option Addr} {cN : Nat} {l : List Nd} {st : RdSt} {s : PS} {row : Option Nat} {w : World}
theorem RdC.cs (hi : R.imp = false) (h : RdC R a d b AN cN l w) :
  w.cell? ⟨R.T, 0, none⟩ = some (.slice R.A R.n R.c) ∧ w.cell? ⟨R.T, 1, none⟩ = some (.int .i64 a) ∧ w.cell? ⟨R.T, 2, none⟩ = some (.bool b) ∧ w.cell? ⟨R.T, 3, none⟩ = some (.int .i64 d) ∧ w.cell? ⟨R.T, 4, none⟩ = some (.slice AN l.length cN) ∧ (∀ i, w.frozen? ⟨R.T, i, none⟩ = false) ∧ R.T < w.heap.size := by
 have hb := h.1
 unfold RC.cells at hb
 rw [if_neg (by rw [hi]; decide)] at hb
 exact ⟨hb.cell 0, hb.cell 1, hb.cell 2, hb.cell 3, hb.cell 4, hb.frozen, hb.lt⟩
theorem RdI.sat1 (hi : R.imp = false) (hc : RdC R a d b AN cN l w) (hs : StOk (some s) b a l) (hr : row = AN.map (·.block)) (hlt : s.at_ < R.n) :
  RdI R d (skipS (some s)) row (w.setCell ⟨R.T, 1, none⟩ (.int .i64 ((a : Int) + 1))) ∧ Kr R.T row w row (w.setCell ⟨R.T, 1, none⟩ (.int .i64 ((a : Int) + 1))) := by
 obtain ⟨h1, h2, h3⟩ := hs
 have := hc.set (i := 1) (u := .int .i64 ((a : Int) + 1)) (a' := a + 1) (d' := d) (b' := b) (by unfold RC.cells; rw [if_neg (by rw [hi]; decide), if_neg (by rw [hi]; decide)]; simp) (by omega)
 rw [hr]
 exact ⟨⟨a + 1, b, AN, cN, l, this.1, ⟨h1, (show s.at_ + 1 = a + 1 by rw [h2]), h3⟩, rfl⟩, this.2⟩
theorem RdI.sbad1 (hi : R.imp = false) (hc : RdC R a d b AN cN l w) (hr : row = AN.map (·.block)) :
  RdI R d none row (w.setCell ⟨R.T, 2, none⟩ (.bool true)) ∧ Kr R.T row w row (w.setCell ⟨R.T, 2, none⟩ (.bool true)) := by
 have := hc.set (i := 2) (u := .bool true) (a' := a) (d' := d) (b' := true) (by unfold RC.cells; rw [if_neg (by rw [hi]; decide), if_neg (by rw [hi]; decide)]; simp) hc.2.2.2.2.1
 rw [hr]
 exact ⟨⟨a, true, AN, cN, l, this.1, rfl, rfl⟩, this.2⟩
theorem RdI.snest1 (hi : R.imp = false) (hc : RdC R a d b AN cN l w) (hs : StOk st b a l) (hr : row = AN.map (·.block)) {u : Int} {d' : Nat} (hu : u = (d' : Int)) :
  RdI R d' st row (w.setCell ⟨R.T, 3, none⟩ (.int .i64 u)) ∧ Kr R.T row w row (w.setCell ⟨R.T, 3, none⟩ (.int .i64 u)) := by
 subst hu
 have := hc.set (i := 3) (u := .int .i64 (d' : Int)) (a' := a) (d' := d') (b' := b) (by unfold RC.cells; rw [if_neg (by rw [hi]; decide), if_neg (by rw [hi]; decide)]; simp) hc.2.2.2.2.1
 rw [hr]
 exact ⟨⟨a, b, AN, cN, l, this.1, hs, rfl⟩, this.2⟩
end
def isKm (sg : List SgP) (st : RdSt) (k : Int) (m : ByteArray) : Bool := ((sgAt sg st 0).1 == k) && ((sgAt sg st 0).2.1.toList == m.toList)
theorem isKm_none {sg : List SgP} {k : Int} (hk : k ≠ 0) (m : ByteArray) : isKm sg none k m = false := by
 unfold isKm
 rw [show ((sgAt sg none 0).1 == k) = false by rw [beq_eq_false_iff_ne]; exact fun e => hk e.symm, Bool.false_and]
theorem RdI.see {R : RC} {d : Nat} {st : RdSt} {row : Option Nat} {w : World} (hi : R.imp = false) (h : RdI R d st row w) :
  (st = none ∧ w.cell? ⟨R.T, 2, none⟩ = some (.bool true) ∧ sgAt R.sg st 0 = sgZero ∧ R.T < w.heap.size ∧ ∀ i, w.frozen? ⟨R.T, i, none⟩ = false) ∨
  (∃ s a, st = some s ∧ s.at_ = a ∧ R.n ≤ a ∧ a ≤ 3000 ∧ w.cell? ⟨R.T, 0, none⟩ = some (.slice R.A R.n R.c) ∧ w.cell? ⟨R.T, 1, none⟩ = some (.int .i64 a) ∧ w.cell? ⟨R.T, 2, none⟩ = some (.bool false) ∧ sgAt R.sg st 0 = sgZero ∧ R.T < w.heap.size ∧ ∀ i, w.frozen? ⟨R.T, i, none⟩ = false) ∨
  (∃ s a b off x, st = some s ∧ s.at_ = a ∧ a < R.n ∧ a ≤ 3000 ∧ w.cell? ⟨R.T, 0, none⟩ = some (.slice (some ⟨b, off, none⟩) R.n R.c) ∧ w.cell? ⟨R.T, 1, none⟩ = some (.int .i64 a) ∧ w.cell? ⟨R.T, 2, none⟩ = some (.bool false) ∧ R.sg[a]? = some x ∧ sgAt R.sg st 0 = x ∧ R.T < w.heap.size ∧ (∀ i, w.frozen? ⟨R.T, i, none⟩ = false) ∧ b < w.heap.size ∧ b ≠ R.T ∧
   w.cell? ⟨b, off + a * 4, none⟩ = some (.int .i64 x.1) ∧ w.cell? ⟨b, off + a * 4 + 1, none⟩ = some (.string x.2.1) ∧ w.cell? ⟨b, off + a * 4 + 2, none⟩ = some (.int .i64 x.2.2.1) ∧ w.cell? ⟨b, off + a * 4 + 3, none⟩ = some (.bool x.2.2.2)) := by
 obtain ⟨a, b, AN, cN, l, hc, hst, hrow⟩ := h
 obtain ⟨c0, c1, c2, c3, c4, cf, cz⟩ := hc.cs hi
 have hok := hc.2.2.2.2.2.2
 have han := hc.2.2.2.2.1
 have hmo := hok.most
 have hlen := hok.len
 cases st with
 | none =>
  obtain rfl : b = true := hst
  exact .inl ⟨rfl, c2, rfl, cz, cf⟩
 | some s =>
  obtain ⟨rfl, ha, _⟩ := hst
  rcases Nat.lt_or_ge a R.n with hlt | hge
  ·right; right
   obtain ⟨x, hx⟩ : ∃ x, R.sg[a]? = some x := ⟨_, gE (by omega)⟩
   obtain ⟨b1, off, hA, hblt, e0, e1, e2, e3⟩ := sgn_at (hok.rd.below hc.2.2.2.2.2.1) hlt hx
   have hlow := hok.low
   have hbr : b1 ≠ R.T := by
    obtain ⟨b2, off2, e, hb2, _⟩ := hok.rd.at_ (show 0 < R.n by omega)
    rw [hA] at e
    injection e with e
    injection e with e _
    omega
   refine ⟨s, a, b1, off, x, rfl, ha, hlt, by omega, by rw [← hA]; exact c0, c1, c2, hx, sgAt_in (by rw [ha]; exact hx), cz, cf, hblt, hbr, e0, e1, e2, e3⟩
  ·right; left
   exact ⟨s, a, rfl, ha, hge, by omega, c0, c1, c2, sgAt_out (by rw [ha]; omega), cz, cf⟩
theorem sis_any (R : RC) (hi : R.imp = false) (d : Nat) (st : RdSt) (row : Option Nat) (k : Int) (hk : k ≠ 0) (m : ByteArray) (w : World) (hI : RdI R d st row w) :
  Calls prog 104 #[.pointer (some ⟨R.T, 0, none⟩), .int .i64 k, .string m] w fun e w' => e = .returned (.bool (isKm R.sg st k m)) ∧ Below w.heap.size w w' := by
 have hz : isKm R.sg none k m = false := isKm_none hk m
 have hz2 : ∀ st, sgAt R.sg st 0 = sgZero → isKm R.sg st k m = false := fun st e => by
  unfold isKm
  rw [e, show (sgZero.1 == k) = false by rw [beq_eq_false_iff_ne]; exact fun e => hk e.symm, Bool.false_and]
 rcases hI.see hi with ⟨rfl, c2, _, cz, cf⟩ | ⟨s, a, rfl, ha, hge, ha3, c0, c1, c2, hs, cz, cf⟩ | ⟨s, a, b1, off, x, rfl, ha, hlt, ha3, c0, c1, c2, hx, hs, cz, cf, hblt, hbr, e0, e1, e2, e3⟩
 ·rw [hz]
  clear hI hz hz2
  go_enter func104, ntmps104
  go_wp2
  go_quiet (fail)
  go_wp2
  go_ret
  exact ⟨rfl, grow_⟩
 ·rw [hz2 _ hs]
  have hge' : ¬ (a : Int) < R.n := by omega
  have hge2 : ¬ a < R.n := by omega
  have hge3 : decide ((a : Int) < (R.n : Int)) = false := by rw [decide_eq_false_iff_not]; omega
  have hge4 : (R.n : Int) ≤ a := by omega
  clear hI hz hz2 hs
  go_enter func104, ntmps104
  go_wp2
  go_quiet (fail)
  go_wp2
  go_ret
  exact ⟨rfl, grow_⟩
 ·have hv : isKm R.sg (some s) k m = ((x.1 == k) && (x.2.1.toList == m.toList)) := by unfold isKm; rw [hs]
  rw [hv]
  obtain ⟨kd, xt, xp, xz⟩ := x
  dsimp only at e0 e1 e2 e3 ⊢
  have hlt' : (a : Int) < R.n := by omega
  clear hI hz hz2 hs hx hv
  rcases bft (kd == k) with h1 | h1
  ·obtain rfl : kd = k := eq_of_beq h1
   rw [show (kd == kd) = true from h1, Bool.true_and]
   clear h1
   go_enter func104, ntmps104
   go_wp2
   go_quiet (fail)
   go_wp2
   go_ret
   exact ⟨rfl, grow_⟩
  ·rw [h1, Bool.false_and]
   go_enter func104, ntmps104
   go_wp2
   go_quiet (fail)
   go_wp2
   go_ret
   exact ⟨rfl, grow_⟩
theorem isKm_lt {sg : List SgP} {st : RdSt} {k : Int} {m : ByteArray} (hk : k ≠ 0) (h : isKm sg st k m = true) : ∃ s, st = some s ∧ s.at_ < sg.length := by
 cases st with
 | none => exact absurd h (by rw [isKm_none hk]; decide)
 | some s =>
  refine ⟨s, rfl, ?_⟩
  rcases Nat.lt_or_ge s.at_ sg.length with hl | hl
  ·exact hl
  ·unfold isKm at h
   rw [sgAt_out (i := 0) hl, show (sgZero.1 == k) = false by rw [beq_eq_false_iff_ne]; exact fun e => hk e.symm, Bool.false_and] at h
   exact absurd h (by decide)
theorem isM_isKm (sg : List SgP) (st : RdSt) (m : ByteArray) : isKm sg st 4 m = isM sg st m := rfl
theorem isW_isKm (sg : List SgP) (st : RdSt) (m : ByteArray) : isKm sg st 1 m = isW sg st m := rfl
def skipWIf (sg : List SgP) (st : RdSt) (m : ByteArray) : RdSt := if isW sg st m = true then skipS st else st
theorem skipWIf_yes {sg : List SgP} {st : RdSt} {m : ByteArray} (h : isW sg st m = true) : skipWIf sg st m = skipS st := if_pos h
theorem skipWIf_no {sg : List SgP} {st : RdSt} {m : ByteArray} (h : isW sg st m = false) : skipWIf sg st m = st := if_neg (by rw [h]; decide)
theorem mark_any (R : RC) (hi : R.imp = false) (d : Nat) (st : RdSt) (row : Option Nat) (m : ByteArray) (w : World) (hI : RdI R d st row w) :
  Calls prog 76 #[.pointer (some ⟨R.T, 0, none⟩), .string m] w (Does R d row w (.bool (isM R.sg st m)) (skipIf R.sg st m)) := by
 have HN := hid (sis_any R hi d st row 4 (by decide) m w hI)
 rw [isM_isKm] at HN
 have HI := hid hI
 unfold Does
 clear hI
 rcases bft (isM R.sg st m) with hM | hM
 ·rw [skipIf_yes hM]
  rw [hM] at HN
  obtain ⟨s, rfl, hlt⟩ := isM_lt hM
  rw [hM]
  clear hM
  go_enter func76, ntmps76
  go_wp2_with fail
  refine HN.out.mono ?_
  rintro e w1 ⟨rfl, g1⟩
  obtain ⟨a, b, AN, cN, l, hc, hst, hrow⟩ := HI.out.next g1
  obtain ⟨c0, c1, c2, c3, c4, cf, cz⟩ := hc.cs hi
  have HF := hid (RdI.sat1 hi hc hst hrow (by rw [← hc.2.2.2.2.2.2.len]; exact hlt))
  have hal := hc.2.2.2.2.1
  have hmo := hc.2.2.2.2.2.2.most
  clear hc hst hrow c0 c2 c3 c4
  go_wp2
  go_ret
  exact ⟨rfl, row, HF.out.1, (Kr.of_below g1).trans HF.out.2⟩
 ·rw [skipIf_no hM]
  rw [hM] at HN
  rw [hM]
  clear hM
  go_enter func76, ntmps76
  go_wp2_with fail
  refine HN.out.mono ?_
  rintro e w1 ⟨rfl, g1⟩
  go_wp2
  go_ret
  exact ⟨rfl, row, HI.out.next g1, Kr.of_below g1⟩
theorem isWs_lt {sg : List SgP} {st : RdSt} {m : ByteArray} (h : isW sg st m = true) : ∃ s, st = some s ∧ s.at_ < sg.length := isKm_lt (k := 1) (by decide) h
theorem word_any (R : RC) (hi : R.imp = false) (d : Nat) (st : RdSt) (row : Option Nat) (m : ByteArray) (w : World) (hI : RdI R d st row w) :
  Calls prog 73 #[.pointer (some ⟨R.T, 0, none⟩), .string m] w (Does R d row w (.bool (isW R.sg st m)) (skipWIf R.sg st m)) := by
 have HN := hid (sis_any R hi d st row 1 (by decide) m w hI)
 rw [isW_isKm] at HN
 have HI := hid hI
 unfold Does
 clear hI
 rcases bft (isW R.sg st m) with hM | hM
 ·rw [skipWIf_yes hM]
  rw [hM] at HN
  obtain ⟨s, rfl, hlt⟩ := isWs_lt hM
  rw [hM]
  clear hM
  go_enter func73, ntmps73
  go_wp2_with fail
  refine HN.out.mono ?_
  rintro e w1 ⟨rfl, g1⟩
  obtain ⟨a, b, AN, cN, l, hc, hst, hrow⟩ := HI.out.next g1
  obtain ⟨c0, c1, c2, c3, c4, cf, cz⟩ := hc.cs hi
  have HF := hid (RdI.sat1 hi hc hst hrow (by rw [← hc.2.2.2.2.2.2.len]; exact hlt))
  have hal := hc.2.2.2.2.1
  have hmo := hc.2.2.2.2.2.2.most
  clear hc hst hrow c0 c2 c3 c4
  go_wp2
  go_ret
  exact ⟨rfl, row, HF.out.1, (Kr.of_below g1).trans HF.out.2⟩
 ·rw [skipWIf_no hM]
  rw [hM] at HN
  rw [hM]
  clear hM
  go_enter func73, ntmps73
  go_wp2_with fail
  refine HN.out.mono ?_
  rintro e w1 ⟨rfl, g1⟩
  go_wp2
  go_ret
  exact ⟨rfl, row, HI.out.next g1, Kr.of_below g1⟩
theorem wants_any (R : RC) (hi : R.imp = false) (d : Nat) (st : RdSt) (row : Option Nat) (m : ByteArray) (w : World) (hI : RdI R d st row w) :
  Calls prog 75 #[.pointer (some ⟨R.T, 0, none⟩), .string m] w (Does R d row w (.tuple #[]) (takeS R.sg st m)) := by
 have HN := hid (mark_any R hi d st row m w hI)
 unfold Does at HN ⊢
 clear hI
 rcases bft (isM R.sg st m) with hM | hM
 ·rw [take_yes hM]
  rw [hM, skipIf_yes hM] at HN
  clear hM
  go_enter func75, ntmps75
  go_wp2_with fail
  refine HN.out.mono ?_
  rintro e w1 ⟨rfl, row1, hI1, k1⟩
  go_wp2
  go_end0
  exact ⟨rfl, row1, hI1, k1⟩
 ·rw [take_no hM]
  rw [hM, skipIf_no hM] at HN
  clear hM
  go_enter func75, ntmps75
  go_wp2_with fail
  refine HN.out.mono ?_
  rintro e w1 ⟨rfl, row1, hI1, k1⟩
  obtain ⟨a, b, AN, cN, l, hc, hst, hrow⟩ := hI1
  obtain ⟨c0, c1, c2, c3, c4, cf, cz⟩ := hc.cs hi
  have HF := hid (RdI.sbad1 hi hc hrow)
  clear hc hst hrow c0 c1 c3 c4
  go_wp2
  go_end0
  exact ⟨rfl, row1, HF.out.1, k1.trans HF.out.2⟩
theorem kindK_any (R : RC) (hi : R.imp = false) (d : Nat) (st : RdSt) (row : Option Nat) (k : Int) (hk : k ≠ 0) (hk1 : k ≠ 1) (w : World) (hI : RdI R d st row w) :
  Calls prog 71 #[.pointer (some ⟨R.T, 0, none⟩), .int .i64 k] w fun e w' => e = .returned (.bool ((sgAt R.sg st 0).1 == k)) ∧ Below w.heap.size w w' := by
 have hz : (sgZero.1 == k) = false := by rw [beq_eq_false_iff_ne]; exact fun e => hk e.symm
 have hk1' : (k == 1) = false := beq_eq_false_iff_ne.2 hk1
 rcases hI.see hi with ⟨rfl, c2, hs, cz, cf⟩ | ⟨s, a, rfl, ha, hge, ha3, c0, c1, c2, hs, cz, cf⟩ | ⟨s, a, b1, off, x, rfl, ha, hlt, ha3, c0, c1, c2, hx, hs, cz, cf, hblt, hbr, e0, e1, e2, e3⟩
 ·rw [hs, hz]
  clear hI hz
  go_enter func71, ntmps71
  go_wp2
  go_quiet (fail)
  go_wp2
  go_ret
  exact ⟨rfl, grow_⟩
 ·rw [hs, hz]
  have hge3 : decide ((a : Int) < (R.n : Int)) = false := by rw [decide_eq_false_iff_not]; omega
  have hge' : ¬ (a : Int) < R.n := by omega
  have hge2 : ¬ a < R.n := by omega
  have hge4 : (R.n : Int) ≤ a := by omega
  clear hI hz hs
  go_enter func71, ntmps71
  go_wp2
  go_quiet (fail)
  go_wp2
  go_ret
  exact ⟨rfl, grow_⟩
 ·rw [hs]
  obtain ⟨kd, xt, xp, xz⟩ := x
  dsimp only at e0 e1 e2 e3 ⊢
  have hlt' : (a : Int) < R.n := by omega
  clear hI hz hs hx
  rcases bft (kd == k) with h1 | h1
  ·obtain rfl : kd = k := eq_of_beq h1
   rw [show (kd == kd) = true from h1]
   clear h1
   go_enter func71, ntmps71
   go_wp2
   go_quiet (fail)
   go_wp2
   go_ret
   exact ⟨rfl, grow_⟩
  ·rw [h1]
   go_enter func71, ntmps71
   go_wp2
   go_quiet (fail)
   go_wp2
   go_ret
   exact ⟨rfl, grow_⟩
theorem kindN_any (R : RC) (hi : R.imp = false) (d : Nat) (st : RdSt) (row : Option Nat) (w : World) (hI : RdI R d st row w) :
  Calls prog 71 #[.pointer (some ⟨R.T, 0, none⟩), .int .i64 1] w fun e w' => e = .returned (.bool (nameS R.sg st 0)) ∧ Below w.heap.size w w' := by
 unfold nameS
 rcases hI.see hi with ⟨rfl, c2, hs, cz, cf⟩ | ⟨s, a, rfl, ha, hge, ha3, c0, c1, c2, hs, cz, cf⟩ | ⟨s, a, b1, off, x, rfl, ha, hlt, ha3, c0, c1, c2, hx, hs, cz, cf, hblt, hbr, e0, e1, e2, e3⟩
 ·rw [hs, show ((sgZero.1 == 1) && !keyB sgZero.2.1) = false from rfl]
  clear hI
  go_enter func71, ntmps71
  go_wp2
  go_quiet (fail)
  go_wp2
  go_ret
  exact ⟨rfl, grow_⟩
 ·rw [hs, show ((sgZero.1 == 1) && !keyB sgZero.2.1) = false from rfl]
  have hge3 : decide ((a : Int) < (R.n : Int)) = false := by rw [decide_eq_false_iff_not]; omega
  have hge' : ¬ (a : Int) < R.n := by omega
  have hge2 : ¬ a < R.n := by omega
  have hge4 : (R.n : Int) ≤ a := by omega
  clear hI hs
  go_enter func71, ntmps71
  go_wp2
  go_quiet (fail)
  go_wp2
  go_ret
  exact ⟨rfl, grow_⟩
 ·rw [hs]
  obtain ⟨kd, xt, xp, xz⟩ := x
  dsimp only at e0 e1 e2 e3 ⊢
  have hlt' : (a : Int) < R.n := by omega
  clear hI hs hx
  rcases bft (kd == 1) with h1 | h1
  ·obtain rfl : kd = 1 := eq_of_beq h1
   rw [show ((1 : Int) == 1) = true from h1, Bool.true_and]
   clear h1
   have HK := hid (fun W => specKey_any xt W)
   generalize keyB xt = kb at HK ⊢
   go_enter func71, ntmps71
   go_wp2
   go_quiet ((go_at_call 103; exact Calls.quiet_of_same ((HK.out _).mono fun _ _ h => ⟨h.1, h.2.symm⟩)))
   go_wp2
   go_ret
   exact ⟨rfl, grow_⟩
  ·rw [h1, Bool.false_and]
   go_enter func71, ntmps71
   go_wp2
   go_quiet (fail)
   go_wp2
   go_ret
   exact ⟨rfl, grow_⟩
section
/-- text, once it is known what kind says. -/
theorem text_yes (R : RC) (hi : R.imp = false) (d : Nat) (st : RdSt) (row : Option Nat) (k : Int) (w : World) (hI : RdI R d st row w) (hlt : ∃ s, st = some s ∧ s.at_ < R.sg.length)
    (HN : Hid (Calls prog 71 #[.pointer (some ⟨R.T, 0, none⟩), .int .i64 k] w fun e w' => e = .returned (.bool true) ∧ Below w.heap.size w w')) :
    Calls prog 72 #[.pointer (some ⟨R.T, 0, none⟩), .int .i64 k] w (Does R d row w (.string (sgAt R.sg st 0).2.1) (skipS st)) := by
  have HI := hid hI
  unfold Does
  clear hI
  obtain ⟨s, rfl, hlt⟩ := hlt
  obtain ⟨x, hx⟩ : ∃ x, R.sg[s.at_]? = some x := ⟨_, List.getElem?_eq_getElem hlt⟩
  rw [show sgAt R.sg (some s) 0 = x from sgAt_in hx]
  go_enter func72, ntmps72
  go_wp2_with fail
  refine HN.out.mono ?_
  rintro e w1 ⟨rfl, g1⟩
  have hI1 := HI.out.next g1
  have hold := hI1.old
  have hok := hI1.ok
  obtain ⟨a, b, AN, cN, l, hc, hst, hrow⟩ := hI1
  obtain ⟨c0, c1, c2, c3, c4, cf, cz⟩ := hc.cs hi
  have hlen := hok.len
  rw [hst.2.1] at hx
  obtain ⟨b1, off, hA, hblt, e0, e1, e2, e3⟩ := sgn_at (hok.rd.below hold) (show a < R.n by have := hst.2.1; omega) hx
  rw [hA] at c0
  have hF := RdI.sat1 hi hc hst hrow (by have := hst.2.1; omega)
  have hal := hc.2.2.2.2.1
  have hmo := hok.most
  have hlow := hok.low
  have han : a < R.n := by have := hst.2.1; omega
  have hbr : b1 ≠ R.T := by
    obtain ⟨b2, off2, e, hb2, _⟩ := hok.rd.at_ (show 0 < R.n by omega)
    rw [hA] at e
    injection e with e
    injection e with e _
    omega
  clear hc hst hrow hx hlen hok hold e0 e2 e3 hlt
  have hw1 : IntKind.i64.wrap ((a : Int) + 1) = (a : Int) + 1 := IntWalk.i64_in _ (by omega)
  have HK := hid ((Kr.of_below g1).trans hF.2)
  have HF := hid hF.1
  clear hF g1
  go_upto_region 5 with fail
  have q0 : (w1.setCell ⟨R.T, 1, none⟩ (.int .i64 ((a : Int) + 1))).cell? ⟨R.T, 0, none⟩ = some (.slice (some ⟨b1, off, none⟩) R.n R.c) := by go_simp
  have q2 : (w1.setCell ⟨R.T, 1, none⟩ (.int .i64 ((a : Int) + 1))).cell? ⟨R.T, 1, none⟩ = some (.int .i64 ((a : Int) + 1)) := by go_simp
  have q1 : (w1.setCell ⟨R.T, 1, none⟩ (.int .i64 ((a : Int) + 1))).cell? ⟨b1, off + a * 4 + 1, none⟩ = some (.string x.2.1) := by go_simp
  have hw2 : IntKind.i64.wrap (a : Int) = (a : Int) := IntWalk.i64_in _ (by omega)
  clear e1 c0 c1 c2 c3 c4 cf
  generalize w1.setCell ⟨R.T, 1, none⟩ (.int .i64 ((a : Int) + 1)) = W at q0 q1 q2 HK HF ⊢
  go_quiet (fail)
  go_wp2
  go_ret
  exact ⟨rfl, row, HF.out.next (below_drewN (Below.refl _ _) _), HK.out.below (below_drewN (Below.refl _ _) _)⟩
theorem text_no (R : RC) (hi : R.imp = false) (d : Nat) (st : RdSt) (row : Option Nat) (k : Int) (w : World) (hI : RdI R d st row w)
  (HN : Hid (Calls prog 71 #[.pointer (some ⟨R.T, 0, none⟩), .int .i64 k] w fun e w' => e = .returned (.bool false) ∧ Below w.heap.size w w')) :
  Calls prog 72 #[.pointer (some ⟨R.T, 0, none⟩), .int .i64 k] w (Does R d row w (.string noT) none) := by
 have HI := hid hI
 unfold Does
 clear hI
 go_enter func72, ntmps72
 go_wp2_with fail
 refine HN.out.mono ?_
 rintro e w1 ⟨rfl, g1⟩
 obtain ⟨a, b, AN, cN, l, hc, hst, hrow⟩ := HI.out.next g1
 obtain ⟨c0, c1, c2, c3, c4, cf, cz⟩ := hc.cs hi
 have HF := hid (RdI.sbad1 hi hc hrow)
 clear hc hst hrow c0 c1 c3 c4
 go_wp2
 go_ret
 exact ⟨rfl, row, HF.out.1, (Kr.of_below g1).trans HF.out.2⟩
theorem textN_any (R : RC) (hi : R.imp = false) (d : Nat) (st : RdSt) (row : Option Nat) (w : World) (hI : RdI R d st row w) :
  Calls prog 72 #[.pointer (some ⟨R.T, 0, none⟩), .int .i64 1] w (Does R d row w (.string (nmT R.sg st)) (nmS R.sg st)) := by
 have HN := kindN_any R hi d st row w hI
 unfold nmT nmS
 rcases bft (nameS R.sg st 0) with hM | hM
 ·rw [hM] at HN
  rw [if_pos hM, if_pos hM]
  obtain ⟨s, e, h⟩ := nameS_lt hM
  exact text_yes R hi d st row 1 w hI ⟨s, e, h⟩ HN
 ·rw [hM] at HN
  rw [if_neg (by rw [hM]; decide), if_neg (by rw [hM]; decide)]
  exact text_no R hi d st row 1 w hI HN
theorem textK_any (R : RC) (hi : R.imp = false) (d : Nat) (st : RdSt) (row : Option Nat) (k : Int) (hk : k ≠ 0) (hk1 : k ≠ 1) (w : World) (hI : RdI R d st row w) (h : (sgAt R.sg st 0).1 = k) :
  Calls prog 72 #[.pointer (some ⟨R.T, 0, none⟩), .int .i64 k] w (Does R d row w (.string (sgAt R.sg st 0).2.1) (skipS st)) := by
 have HN := kindK_any R hi d st row k hk hk1 w hI
 rw [h, show (k == k) = true from beq_self_eq_true k] at HN
 refine text_yes R hi d st row k w hI ?_ HN
 cases st with
 | none => exact absurd h.symm hk
 | some s =>
  refine ⟨s, rfl, ?_⟩
  rcases Nat.lt_or_ge s.at_ R.sg.length with hl | hl
  ·exact hl
  ·rw [sgAt_out (i := 0) hl] at h
   exact absurd h.symm hk
end
theorem RdC.sblk3 {R : RC} {a d : Nat} {b : Bool} {AN : Option Addr} {cN : Nat} {l : List Nd} {w w1 w3 : World} (hi : R.imp = false) (h : RdC R a d b AN cN l w) (hw1 : Below w.heap.size w w1) (hg : w1.grownBy w3 (Value.slice AN l.length cN).ownBlock) :
  (∃ v, w3.cell? ⟨R.T, 4, none⟩ = some v) ∧ (∀ i, w3.frozen? ⟨R.T, i, none⟩ = false) ∧ R.T < w3.heap.size := by
 have h2 := h.next hw1
 rw [ownBlk] at hg
 have hb3 : Blk w3 R.T R.ty (R.cells a d b (.slice AN l.length cN)) := h2.1.grown hg (fun e => by
  obtain ⟨cs', hk'⟩ := mine_blk' h2.2.1 e.symm
  exact blk_ne h2.1 hk' R.ty_node rfl)
 have hb4 := hb3
 unfold RC.cells at hb3
 rw [if_neg (by rw [hi]; decide)] at hb3
 exact ⟨⟨_, hb3.cell 4⟩, hb4.frozen, hb4.lt⟩
theorem RC.scells_nodes {R : RC} (hi : R.imp = false) (a d : Nat) (b : Bool) (u v : Value) : (R.cells a d b u).setIfInBounds 4 v = R.cells a d b v := by
 unfold RC.cells; rw [if_neg (by rw [hi]; decide), if_neg (by rw [hi]; decide)]; simp
theorem put_any (R : RC) (hi : R.imp = false) (d : Nat) (st : RdSt) (row : Option Nat) (x : Nd) (w : World) (hI : RdI R d st row w) (hx : KidsIn w R.w0.heap.size R.U x) (hbk : x.blank = false) :
  Calls prog 46 #[.pointer (some ⟨R.T, 0, none⟩), .int .i64 x.kind, .string x.text, .slice x.adr x.cnt x.cap] w (Does R d row w (.int .i64 (addS st x.pn).1) (addS st x.pn).2) := by
 obtain ⟨a, b, AN, cN, l, hc, hst, hrow⟩ := id hI
 obtain ⟨c0, c1, c2, c3, c4, cf, cz⟩ := hc.cs hi
 clear c0 c1 c3 hI
 unfold Does
 cases st with
 | none =>
  obtain rfl : b = true := hst
  rw [addS_none]
  have HF := hid (RdI.sbad1 hi hc hrow)
  clear hc hx
  go_enter func46, ntmps46
  go_wp2
  go_ret
  exact ⟨rfl, row, HF.out.1, HF.out.2⟩
 | some s =>
  obtain ⟨rfl, ha, hns⟩ := hst
  have hsl : s.nodes.length = l.length := by rw [hns, List.length_map]
  by_cases hfull : l.length = 300
  ·rw [add_full (hsl.trans hfull)]
   have HF := hid (RdI.sbad1 hi hc hrow)
   rw [hfull] at c4
   clear hc hx hfull hsl hns
   go_enter func46, ntmps46
   go_wp2
   go_ret
   exact ⟨rfl, row, HF.out.1, HF.out.2⟩
  ·rw [add_some (by omega), hsl]
   have hll := hc.2.2.2.1
   have hlt : l.length < 300 := by omega
   obtain ⟨i0, hi0, hz0, hz1, hz2⟩ := info_parts infoNd
   have HI := hid (And.intro hi0 (And.intro hz0 (And.intro hz1 hz2)))
   have hnf : decide ((300 : Int) ≤ (l.length : Int)) = false := by rw [decide_eq_false_iff_not]; omega
   have hnf2 : ¬ (300 : Int) ≤ (l.length : Int) := by omega
   have hnf3 : (l.length : Int) < 300 := by omega
   have hnf4 : ¬ 300 ≤ l.length := by omega
   have HX := hid hx
   have HC := hid hc
   have HP := hid (fun (v' : Value) (w3 : World) h1 h2 h3 => hc.push x hx hlt (w1 := w.alloc (.cells #[.int .i64 x.kind, .string x.text, .slice x.adr x.cnt x.cap, .bool false] 36)) ((Below.refl _ _).alloc (Nat.le_refl _) _) (i := 4) (v' := v') (w3 := w3) h1 h2 h3 (RC.scells_nodes hi _ _ _ _ _))
   have H3 := hid (fun (w3 : World) h => hc.sblk3 hi (w1 := w.alloc (.cells #[.int .i64 x.kind, .string x.text, .slice x.adr x.cnt x.cap, .bool false] 36)) (w3 := w3) ((Below.refl _ _).alloc (Nat.le_refl _) _) h)
   have HM := hid (Mine.alloc hc.2.1 (.cells #[.int .i64 x.kind, .string x.text, .slice x.adr x.cnt x.cap, .bool false] 36))
   have HBZ := hid (show R.w0.heap.size ≤ (w.alloc (.cells #[.int .i64 x.kind, .string x.text, .slice x.adr x.cnt x.cap, .bool false] 36)).heap.size by
    have := hc.2.2.2.2.2.1.size; simp only [World.size_alloc]; omega)
   have HH := hid (show s.at_ = a ∧ s.nodes = l.map Nd.pn from ⟨ha, hns⟩)
   have HR := hid hrow
   have HNB := hid (heap_alloc_new w (.cells #[.int .i64 x.kind, .string x.text, .slice x.adr x.cnt x.cap, .bool false] 36))
   have HNC := hid (show nodeCells x = [.int .i64 x.kind, .string x.text, .slice x.adr x.cnt x.cap, .bool false] by unfold nodeCells; rw [hbk])
   have hcn := nd_new w x 36
   rw [hbk] at hcn
   have HCN := hid hcn
   clear hi0 hz0 hz1 hz2 hc hx ha hns hrow hbk hcn
   go_enter func46, ntmps46
   go_wp2_with (at_builtin; (refine wpList_append_row _ rfl (.tmp 28) (.tmp 33) _ rfl R.w0.heap.size 36 i0 (.agg #[.int .i64 0, .string ⟨#[]⟩, .slice none 0 0, .bool false]) 4 56 underlying31 HI.out.1 HI.out.2.1 HI.out.2.2.1 HI.out.2.2.2 rfl (by decide) (.slice AN l.length cN) l.length (l.flatMap nodeCells) rfl HM.out ⟨w.heap.size, 0, none⟩ 1 1 (nodeCells x) rfl rfl HCN.out (nd_one _) (by unfold maxLen; omega) (by omega) HBZ.out ?_); intro v' w6 hown6 hgrow hwh; obtain ⟨⟨v5, j5⟩, jf, jz⟩ := H3.out _ hgrow; obtain ⟨A3, c3, rfl, hC3, hK3⟩ := HP.out _ _ hown6 hgrow hwh)
   have HC3 := hid hC3
   have HK3 := hid hK3
   clear hC3 hK3 hown6 hgrow hwh
   go_wp2
   go_ret
   refine ⟨rfl, _, ⟨a, false, _, _, _, HC3.out, ⟨rfl, HH.out.1, ?_⟩, rfl⟩, ?_⟩
   ·rw [HH.out.2, List.map_append]; rfl
   ·rw [HR.out]; exact HK3.out
section
variable {R : RC} (U : Nat → Prop) (hi : R.imp = false) (d : Nat) (st : RdSt) (row : Option Nat)
include hi
theorem RdC.csu {a : Nat} {b : Bool} {AN : Option Addr} {cN : Nat} {l : List Nd} {w : World} (h : RdC { R with U := U } a d b AN cN l w) :
  w.cell? ⟨R.T, 1, none⟩ = some (.int .i64 a) ∧ w.cell? ⟨R.T, 2, none⟩ = some (.bool b) ∧ w.cell? ⟨R.T, 3, none⟩ = some (.int .i64 d) ∧ (∀ i, w.frozen? ⟨R.T, i, none⟩ = false) ∧ R.T < w.heap.size := by
 obtain ⟨c0, c1, c2, c3, c4, cf, cz⟩ := RdC.cs (R := { R with U := U }) hi h
 exact ⟨c1, c2, c3, cf, cz⟩
theorem sis_u (k : Int) (hk : k ≠ 0) (m : ByteArray) (w : World) (hI : RdI { R with U := U } d st row w) :
 Calls prog 104 #[.pointer (some ⟨R.T, 0, none⟩), .int .i64 k, .string m] w fun e w' => e = .returned (.bool (isKm R.sg st k m)) ∧ Below w.heap.size w w' := sis_any { R with U := U } hi d st row k hk m w hI
theorem mark_u (m : ByteArray) (w : World) (hI : RdI { R with U := U } d st row w) :
 Calls prog 76 #[.pointer (some ⟨R.T, 0, none⟩), .string m] w fun e w' => e = .returned (.bool (isM R.sg st m)) ∧ ∃ row', RdI { R with U := U } d (skipIf R.sg st m) row' w' ∧ Kr R.T row w row' w' := mark_any { R with U := U } hi d st row m w hI
theorem word_u (m : ByteArray) (w : World) (hI : RdI { R with U := U } d st row w) :
 Calls prog 73 #[.pointer (some ⟨R.T, 0, none⟩), .string m] w fun e w' => e = .returned (.bool (isW R.sg st m)) ∧ ∃ row', RdI { R with U := U } d (skipWIf R.sg st m) row' w' ∧ Kr R.T row w row' w' := word_any { R with U := U } hi d st row m w hI
theorem wants_u (m : ByteArray) (w : World) (hI : RdI { R with U := U } d st row w) :
 Calls prog 75 #[.pointer (some ⟨R.T, 0, none⟩), .string m] w fun e w' => e = .returned (.tuple #[]) ∧ ∃ row', RdI { R with U := U } d (takeS R.sg st m) row' w' ∧ Kr R.T row w row' w' := wants_any { R with U := U } hi d st row m w hI
theorem textN_u (w : World) (hI : RdI { R with U := U } d st row w) :
 Calls prog 72 #[.pointer (some ⟨R.T, 0, none⟩), .int .i64 1] w fun e w' => e = .returned (.string (nmT R.sg st)) ∧ ∃ row', RdI { R with U := U } d (nmS R.sg st) row' w' ∧ Kr R.T row w row' w' := textN_any { R with U := U } hi d st row w hI
theorem putK (k : Int) (t : ByteArray) (A : Option Addr) (n c : Nat) (ks : List Int) (B : Nat) (w : World) (hI : RdI { R with U := U } d st row w) (hm : Mine w B 3 1 A n c (intCells ks)) (hB : ({ R with U := U } : RC).Lo B) :
  Calls prog 46 #[.pointer (some ⟨R.T, 0, none⟩), .int .i64 k, .string t, .slice A n c] w fun e w' => e = .returned (.int .i64 (addS st ⟨k, t, ks, false⟩).1) ∧ ∃ row', RdI { R with U := U } d (addS st ⟨k, t, ks, false⟩).2 row' w' ∧ Kr R.T row w row' w' :=
 put_any { R with U := U } hi d st row ⟨k, t, A, n, c, ks, false⟩ w hI ⟨⟨mine_cap hm, fun g hg hu => by have := (Mine.blk hm hg).1; have := hB.2 g hu; omega⟩, hm.more hB.1⟩ rfl
end
def OneSp (R : RC) (F : FuncId) (d lo : Nat) (one : RdSt → PR) : Prop :=
 ∀ (U : Nat → Prop) (st : RdSt) (row : Option Nat) (w : World), RdI { R with U := U } d st row w → (∀ s, st = some s → lo ≤ s.at_) → Calls prog F #[.pointer (some ⟨R.T, 0, none⟩)] w fun e w' => e = .returned (.int .i64 (one st).1) ∧ ∃ row', RdI { R with U := U } d (one st).2 row' w' ∧ Kr R.T row w row' w'
def measP (R : RC) (w : World) : Nat := match w.cell? ⟨R.T, 2, none⟩, w.cell? ⟨R.T, 1, none⟩ with | some (.bool false), some (.int _ a) => R.n + 1 - a.toNat | _, _ => 0
theorem measp_some {R : RC} {U : Nat → Prop} {d : Nat} {s : PS} {row : Option Nat} {w : World} (hi : R.imp = false) (h : RdI { R with U := U } d (some s) row w) : measP R w = R.n + 1 - s.at_ ∧ s.at_ ≤ R.n := by
 obtain ⟨a, b, AN, cN, l, hc, ⟨rfl, rfl, _⟩, _⟩ := h
 obtain ⟨c1, c2, c3, cf, cz⟩ := hc.csu _ hi
 have : s.at_ ≤ R.n := hc.2.2.2.2.1
 unfold measP
 rw [c2, c1]
 exact ⟨rfl, this⟩
theorem measp_none {R : RC} {U : Nat → Prop} {d : Nat} {row : Option Nat} {w : World} (hi : R.imp = false) (h : RdI { R with U := U } d none row w) : measP R w = 0 := by
 obtain ⟨a, b, AN, cN, l, hc, hb, _⟩ := h
 obtain rfl : b = true := hb
 obtain ⟨c1, c2, c3, cf, cz⟩ := hc.csu _ hi
 unfold measP
 rw [c2]
theorem measp_u {R : RC} {U U' : Nat → Prop} {d d' : Nat} {s : PS} {row row' : Option Nat} {w w' : World} (hi : R.imp = false) (h : RdI { R with U := U } d (some s) row w) {st' : RdSt} (h' : RdI { R with U := U' } d' st' row' w') {i j : Nat} (k : Adv (i + 1) j (some s) st') : measP R w' < measP R w := by
 obtain ⟨e1, e2⟩ := measp_some hi h
 cases st' with
 | none => have := measp_none hi h'; omega
 | some t =>
  have e4 := measp_some hi h'
  obtain ⟨s', e5, h1, _⟩ := k t rfl
  obtain rfl := Option.some.inj e5
  omega
theorem take_none' (sg : List SgP) (m : ByteArray) : takeS sg none m = none := takeS_none
theorem values_any (R : RC) (hi : R.imp = false) (d lo : Nat) (one : RdSt → PR) (HO : Hid (OneSp R 105 d lo one)) (h1 : ∀ st, Adv 1 1 st (one st).2) (m : ByteArray) (N : Nat) (st : RdSt) (row row0 : Option Nat) (w w0 : World) (ks0 : List Int) (A0 : Option Addr) (c0 : Nat)
  (hI : RdI (R.res A0) d st row w) (hm : Mine w w0.heap.size 3 1 A0 ks0.length c0 (intCells ks0)) (hk : Kr R.T row0 w0 row w) (hB : R.w0.heap.size ≤ w0.heap.size) (h0 : ks0.length ≤ 1) (hlo : LoB lo st) (hN : Enough R.n N st) :
  Calls prog 134 #[.pointer (some ⟨R.T, 0, none⟩), .string m, .slice A0 ks0.length c0] w fun e w' => ∃ (A : Option Addr) (n c : Nat), e = .returned (.slice A n c) ∧ n = ks0.length + (listF R.sg one m N [] st).1.length ∧ Mine w' w0.heap.size 3 1 A n c (intCells (ks0 ++ (listF R.sg one m N [] st).1)) ∧ (listF R.sg one m N [] st).1.length ≤ 301 ∧ ∃ row', RdI (R.res A) d (takeS R.sg (listF R.sg one m N [] st).2 m) row' w' ∧ Kr R.T row0 w0 row' w' := by
 obtain ⟨i0, hi0, hz0, hz1, hz2⟩ := info_parts infoInt
 have HII := hid (And.intro hi0 (And.intro hz0 (And.intro hz1 hz2)))
 clear hi0 hz0 hz1 hz2
 have HI := hid hI
 have HM := hid hm
 have HK := hid hk
 have HLO := hid hlo
 have HN := hid hN
 have HA := hid h1
 obtain ⟨Q, hQ⟩ : ∃ Q, listF R.sg one m N [] st = Q := ⟨_, rfl⟩
 rw [hQ]
 have HQ := hid hQ
 obtain ⟨T, hT⟩ : ∃ T, takeS R.sg Q.2 m = T := ⟨_, rfl⟩
 rw [hT]
 have HT := hid hT
 clear hT
 clear hQ
 clear hI hlo hN h1 hm hk
 go_enter func134, ntmps134
 go_wp2
 go_loopw [2] (fun v wr => ∃ (M : Nat) (ks : List Int) (st' : RdSt) (row' : Option Nat) (A : Option Addr) (n c : Nat), v = .slice A n c ∧ Hid (n = ks0.length + ks.length) ∧ Hid (listF R.sg one m M ks st' = Q) ∧ Hid (LoB lo st') ∧ Hid (Enough R.n M st') ∧ Hid (KidB ks st') ∧ Hid (Mine wr w0.heap.size 3 1 A n c (intCells (ks0 ++ ks))) ∧ Hid (RdI (R.res A) d st' row' wr) ∧ Hid (Kr R.T row0 w0 row' wr)) (fun _ wr => measP R wr)
 case atStart => exact ⟨N, [], st, row, A0, ks0.length, c0, rfl, (show ks0.length = ks0.length + 0 from rfl), HQ, HLO, HN, ⟨by simp, fun s _ => by simp⟩, by rw [List.append_nil]; exact HM, HI, HK⟩
 case round =>
  clear HQ HLO HN HI HM HK
  obtain ⟨M, ks, st', row', A, n, c, rfl, HL, HQ, HLO, HN, HKB, HM, HI, HK⟩ := hrel
  cases st' with
  | none =>
   obtain ⟨a, b, AN, cN, l, hc, hb, hrow⟩ := HI.out
   obtain ⟨c1, c2, c3, cf, cz⟩ := hc.csu _ hi
   obtain rfl : b = true := hb
   have hq := HQ.out
   rw [listF_none] at hq
   subst hq
   have ht := HT.out
   rw [take_none'] at ht
   subst ht
   clear hc c1 c3 hrow HQ HT
   go_wp2
   go_ret
   exact ⟨A, n, c, rfl, HL.out, HM.out, HKB.out.1, row', HI.out, HK.out⟩
  | some s =>
   obtain ⟨M, rfl⟩ : ∃ M', M = M' + 1 := ⟨M - 1, by
    have h1 := HN.out s rfl
    have h2 := (HI.out.le rfl).1
    have : (R.res A).n = R.n := rfl
    omega⟩
   obtain ⟨a, b, AN, cN, l, hc, hb, hrow⟩ := HI.out
   obtain ⟨c1, c2, c3, cf, cz⟩ := hc.csu _ hi
   obtain ⟨rfl, _, _⟩ := hb
   have HIs := hid (mark_u _ hi d (some s) row' m wr HI.out)
   have hq := HQ.out
   unfold listF at hq
   rw [if_neg (show ¬ (some s).isNone = true by simp)] at hq
   clear hc c1 c3 hrow HQ
   rcases bft (isM R.sg (some s) m) with hM | hM
   ·rw [if_pos hM] at hq
    subst hq
    rw [hM, skipIf_yes hM] at HIs
    have ht := HT.out
    rw [show takeS R.sg (ks, some s).2 m = skipS (some s) from take_yes hM] at ht
    subst ht
    clear hM HT
    go_wp2_with fail
    refine HIs.out.mono ?_
    rintro e w2 ⟨rfl, row2, h2, k2⟩
    have HM2 := hid (HI.out.keepI k2 HM.out)
    have HK2 := hid (HK.out.trans k2)
    clear c2 cf cz
    go_wp2
    go_ret
    exact ⟨A, n, c, rfl, HL.out, HM2.out, HKB.out.1, row2, h2, HK2.out⟩
   ·rw [if_neg (by rw [hM]; decide)] at hq
    rw [hM, skipIf_no hM] at HIs
    have HQ := hid hq
    clear hM hq
    go_wp2_with fail
    refine HIs.out.mono ?_
    rintro e w2 ⟨rfl, row2, h2, k2⟩
    have HM2 := hid (HI.out.keepI k2 HM.out)
    have HK2 := hid (HK.out.trans k2)
    have HI2 := hid h2
    have hz2 := HK2.out.size
    clear c2 cf cz h2 k2 HIs HM HK
    have HC := hid (HO.out _ (some s) row2 w2 HI2.out HLO.out)
    have hkb1 := HKB.out.2 s rfl
    have hnb := (HI2.out.le rfl).2
    have hadv := HA.out (some s)
    have HAL : Hid (LoB lo (one (some s)).2) := HLO.out.adv hadv
    have HAN : Hid (Enough R.n M (one (some s)).2) := HN.out.adv hadv
    have HAK : Hid (KidB (ks ++ [(one (some s)).1]) (one (some s)).2) := (show KidB _ _ from ⟨by rw [lA]; simp; omega, fun t e => by
     obtain ⟨s', e2, _, h3⟩ := hadv t e
     obtain rfl := Option.some.inj e2
     rw [lA]
     simp
     omega⟩)
    have HAD := hid hadv
    generalize one (some s) = r at HC HQ HAL HAN HAK HAD
    obtain ⟨k, st2⟩ := r
    dsimp only at HC HQ HAL HAN HAK HAD
    go_wp2_with fail
    refine HC.out.mono ?_
    rintro e w3 ⟨rfl, row3, h3, k3⟩
    have HM3 := hid (HI2.out.keepI k3 HM2.out)
    have HI3 := hid h3
    have HK3 := hid (HK2.out.trans k3)
    have hz3 := HK3.out.size
    have hlo := HI3.out.lo.1
    have HL2 : Hid (n + 1 = ks0.length + (ks ++ [k]).length) := (show _ = _ by rw [lA, HL.out]; simp; omega)
    have hlk2 : n ≤ 302 := by have := HKB.out.1; have := HL.out; omega
    clear h3 k3 HI2 HM2 HK2 HC
    have HB0 : Hid (R.w0.heap.size ≤ w0.heap.size) := (show R.w0.heap.size ≤ w0.heap.size from hB)
    go_wp2_with (at_builtin; (refine wpList_append_row _ rfl (.tmp 18) (.tmp 21) _ rfl w0.heap.size 3 i0 (.int .i64 0) 1 8 underlying34 HII.out.1 HII.out.2.1 HII.out.2.2.1 HII.out.2.2.2 rfl (by decide) (.slice A n c) n (intCells (ks0 ++ ks)) rfl (Mine.alloc HM3.out _) ⟨w3.heap.size, 0, none⟩ 1 1 [.int .i64 k] rfl rfl (int_new _ k _) (int_one _) (by unfold maxLen; omega) (by omega) (by simp; omega) ?_); intro v' w4 hown4 hg4 hwh4; obtain ⟨A4, c4', rfl, h4, m4⟩ := RdI.appended HI3.out HM3.out HB0.out ((Below.refl _ _).alloc (Nat.le_refl _) _) hown4 hg4 hwh4)
    have HK4 := hid ((HK3.out.below ((Below.refl _ _).alloc (Nat.le_refl _) _)).grown hg4 (fun g hg => by rw [ownBlk] at hg; exact (Mine.blk HM3.out hg).1))
    rw [← ints_snoc, List.append_assoc] at m4
    have HI4 := hid h4
    have HM4 := hid m4
    clear hown4 hg4 hwh4 h4 m4 HI3 HM3 HK3
    have HS := hid (mark_u _ hi d st2 row3 ⟨#[44]⟩ w4 HI4.out)
    rcases bft (isM R.sg st2 ⟨#[44]⟩) with hM | hM
    ·rw [hM, skipIf_yes hM] at HS
     have hq := HQ.out
     rw [if_pos hM] at hq
     have HQ2 := hid hq
     clear hq HQ hM
     go_wp2_with fail
     refine HS.out.mono ?_
     rintro e w5 ⟨rfl, row5, h5, k5⟩
     have HM5 := hid (HI4.out.keepI k5 HM4.out)
     have HI5 := hid h5
     have HK5 := hid (HK4.out.trans k5)
     clear h5 k5 HI4 HM4 HK4
     go_wp2
     go_roundw
     case rel => exact ⟨M, ks ++ [k], skipS st2, row5, A4, n + 1, c4', rfl, HL2, HQ2, HAL.out.adv (adv_skip _), HAN.out.mono (adv_skip _), HAK.out.mono (adv_skip _), HM5, HI5, HK5⟩
     case measure => exact measp_u hi HI.out HI5.out ((HAD.out.trans (adv_skip st2)).weak (i' := 1) (j' := 0) (by omega) (by omega))
    ·rw [hM, skipIf_no hM] at HS
     have hq := HQ.out
     rw [if_neg (by rw [hM]; decide)] at hq
     subst hq
     have ht := HT.out
     subst ht
     clear HQ hM HT
     go_wp2_with fail
     refine HS.out.mono ?_
     rintro e w5 ⟨rfl, row5, h5, k5⟩
     have HM5 := hid (HI4.out.keepI k5 HM4.out)
     have HI5 := hid h5
     have HK5 := hid (HK4.out.trans k5)
     clear h5 k5 HI4 HM4 HK4
     go_wp2_with fail
     refine (wants_u _ hi d st2 row5 m w5 HI5.out).mono ?_
     rintro e w6 ⟨rfl, row6, h6, k6⟩
     have HM6 := hid (HI5.out.keepI k6 HM5.out)
     have HI6 := hid h6
     have HK6 := hid (HK5.out.trans k6)
     clear h6 k6 HI5 HM5 HK5
     go_wp2
     go_ret
     exact ⟨A4, n + 1, c4', rfl, by have := HL2.out; simp at this; omega, HM6.out, by have := HAK.out.1; simp at this; omega, row6, HI6.out, HK6.out⟩
theorem kid0 (w : World) : Mine (w.alloc (.cells #[] 3)) w.heap.size 3 1 (some ⟨w.heap.size, 0, none⟩) 0 0 (intCells []) := row_new w [] (by simp)
theorem names_any (R : RC) (hi : R.imp = false) (d : Nat) (N : Nat) (st : RdSt) (row : Option Nat) (w : World) (hI : RdI R d st row w) (hN : R.n < N) :
  Calls prog 77 #[.pointer (some ⟨R.T, 0, none⟩)] w fun e w' => ∃ (A : Option Addr) (n c : Nat), e = .returned (.slice A n c) ∧ n = (listF R.sg (nameNodeS R.sg) ⟨#[41]⟩ N [] (takeS R.sg st ⟨#[40]⟩)).1.length ∧ Mine w' w.heap.size 3 1 A n c (intCells (listF R.sg (nameNodeS R.sg) ⟨#[41]⟩ N [] (takeS R.sg st ⟨#[40]⟩)).1) ∧ (listF R.sg (nameNodeS R.sg) ⟨#[41]⟩ N [] (takeS R.sg st ⟨#[40]⟩)).1.length ≤ 301 ∧ ∃ row', RdI (R.res A) d (takeS R.sg (listF R.sg (nameNodeS R.sg) ⟨#[41]⟩ N [] (takeS R.sg st ⟨#[40]⟩)).2 ⟨#[41]⟩) row' w' ∧ Kr R.T row w row' w' := by
 obtain ⟨i0, hi0, hz0, hz1, hz2⟩ := info_parts infoInt
 have HII := hid (And.intro hi0 (And.intro hz0 (And.intro hz1 hz2)))
 clear hi0 hz0 hz1 hz2
 have HI0 := hid hI
 have hlo0 := hI.lo.1
 have HA := hid (fun st => adv_nameNode (sg := R.sg) st)
 obtain ⟨Q, hQ⟩ : ∃ Q, listF R.sg (nameNodeS R.sg) ⟨#[41]⟩ N [] (takeS R.sg st ⟨#[40]⟩) = Q := ⟨_, rfl⟩
 rw [hQ]
 have HQ := hid hQ
 obtain ⟨T, hT⟩ : ∃ T, takeS R.sg Q.2 ⟨#[41]⟩ = T := ⟨_, rfl⟩
 rw [hT]
 have HT := hid hT
 clear hT hQ hI
 go_enter func77, ntmps77
 go_wp2_with fail
 have HR0 := hid (kid0 w)
 have HIr := hid (HI0.out.res_new (A := some ⟨w.heap.size, 0, none⟩) ((Below.refl _ _).alloc (Nat.le_refl _) (.cells #[] 3)) (fun g hg => by simp at hg; subst hg; simp))
 refine (wants_u _ hi d st row ⟨#[40]⟩ _ HIr.out).mono ?_
 rintro e w1 ⟨rfl, row1, h1, k1⟩
 have HM1 := hid (HIr.out.keepI k1 HR0.out)
 have HI1 := hid h1
 have HK1 := hid ((Kr.of_below (T := R.T) (row := row) ((Below.refl w.heap.size w).alloc (Nat.le_refl _) (.cells #[] 3))).trans k1)
 have HQ1 := HQ
 clear h1 k1 HI0 HIr HR0
 go_wp2
 go_loopw [3] (fun v wr => ∃ (M : Nat) (ks : List Int) (st' : RdSt) (row' : Option Nat) (A : Option Addr) (n c : Nat), v = .slice A n c ∧ Hid (n = ks.length) ∧ Hid (listF R.sg (nameNodeS R.sg) ⟨#[41]⟩ M ks st' = Q) ∧ Hid (Enough R.n M st') ∧ Hid (KidB ks st') ∧ Hid (Mine wr w.heap.size 3 1 A n c (intCells ks)) ∧ Hid (RdI (R.res A) d st' row' wr) ∧ Hid (Kr R.T row w row' wr)) (fun _ wr => measP R wr)
 case atStart => exact ⟨N, [], takeS R.sg st ⟨#[40]⟩, row1, _, 0, 0, rfl, (show 0 = 0 from rfl), HQ1, (show Enough _ _ _ from enough_of hN _), ⟨by simp, fun s _ => by simp⟩, HM1, HI1, HK1⟩
 case round =>
  clear HQ HQ1 HI1 HM1 HK1
  obtain ⟨M, ks, st', row', A, n, c, rfl, HL, HQ, HN, HKB, HM, HI, HK⟩ := hrel
  cases st' with
  | none =>
   obtain ⟨a, b, AN, cN, l, hc, hb, hrow⟩ := HI.out
   obtain ⟨c1, c2, c3, cf, cz⟩ := hc.csu _ hi
   obtain rfl : b = true := hb
   have hq := HQ.out
   rw [listF_none] at hq
   subst hq
   have ht := HT.out
   rw [take_none'] at ht
   subst ht
   clear hc c1 c3 hrow HQ HT
   go_wp2
   go_ret
   exact ⟨A, n, c, rfl, HL.out, HM.out, HKB.out.1, row', HI.out, HK.out⟩
  | some s =>
   obtain ⟨M, rfl⟩ : ∃ M', M = M' + 1 := ⟨M - 1, by
    have h1 := HN.out s rfl
    have h2 := (HI.out.le rfl).1
    have : (R.res A).n = R.n := rfl
    omega⟩
   obtain ⟨a, b, AN, cN, l, hc, hb, hrow⟩ := HI.out
   obtain ⟨c1, c2, c3, cf, cz⟩ := hc.csu _ hi
   obtain ⟨rfl, _, _⟩ := hb
   have HIs := hid (mark_u _ hi d (some s) row' ⟨#[41]⟩ wr HI.out)
   have hq := HQ.out
   unfold listF at hq
   rw [if_neg (show ¬ (some s).isNone = true by simp)] at hq
   clear hc c1 c3 hrow HQ
   rcases bft (isM R.sg (some s) ⟨#[41]⟩) with hM | hM
   ·rw [if_pos hM] at hq
    subst hq
    rw [hM, skipIf_yes hM] at HIs
    have ht := HT.out
    rw [show takeS R.sg (ks, some s).2 ⟨#[41]⟩ = skipS (some s) from take_yes hM] at ht
    subst ht
    clear hM HT
    go_wp2_with fail
    refine HIs.out.mono ?_
    rintro e w2 ⟨rfl, row2, h2, k2⟩
    have HM2 := hid (HI.out.keepI k2 HM.out)
    have HK2 := hid (HK.out.trans k2)
    clear c2 cf cz
    go_wp2
    go_ret
    exact ⟨A, n, c, rfl, HL.out, HM2.out, HKB.out.1, row2, h2, HK2.out⟩
   ·rw [if_neg (by rw [hM]; decide)] at hq
    rw [hM, skipIf_no hM] at HIs
    have HQ := hid hq
    clear hM hq
    go_wp2_with fail
    refine HIs.out.mono ?_
    rintro e w2 ⟨rfl, row2, h2, k2⟩
    have HM2 := hid (HI.out.keepI k2 HM.out)
    have HK2 := hid (HK.out.trans k2)
    have HI2 := hid h2
    have hz2 := HK2.out.size
    clear c2 cf cz h2 k2 HIs HM HK
    have HC := hid (textN_u _ hi d (some s) row2 w2 HI2.out)
    have hkb1 := HKB.out.2 s rfl
    have hnb := (HI2.out.le rfl).2
    have hadv := HA.out (some s)
    have HAN : Hid (Enough R.n M (nameNodeS R.sg (some s)).2) := HN.out.adv hadv
    have HAK : Hid (KidB (ks ++ [(nameNodeS R.sg (some s)).1]) (nameNodeS R.sg (some s)).2) := (show KidB _ _ from ⟨by rw [lA]; simp; omega, fun t e => by
     obtain ⟨s', e2, _, h3⟩ := hadv t e
     obtain rfl := Option.some.inj e2
     rw [lA]
     simp
     omega⟩)
    have HAD := hid hadv
    have HE := hid (nameNode_eq (sg := R.sg) (some s))
    generalize nameNodeS R.sg (some s) = r at HQ HAN HAK HAD HE
    obtain ⟨k, st2⟩ := r
    dsimp only at HQ HAN HAK HAD
    generalize nmT R.sg (some s) = tx at HC HE
    generalize nmS R.sg (some s) = stx at HC HE
    go_wp2_with fail
    refine HC.out.mono ?_
    rintro e w3 ⟨rfl, row3, h3, k3⟩
    have HM3 := hid (HI2.out.keepI k3 HM2.out)
    have HI3 := hid h3
    have HK3 := hid (HK2.out.trans k3)
    have HLo3 := hid HI3.out.lo
    clear h3 k3 HI2 HM2 HK2 HC
    have HP := hid (putK _ hi d stx row3 1 tx _ 0 0 [] w3.heap.size (w3.alloc (.cells #[] 3)) (HI3.out.next ((Below.refl _ _).alloc (Nat.le_refl _) _)) (kid0 w3) HLo3.out)
    rw [HE.out] at HP
    dsimp only at HP
    clear HE
    go_wp2_with fail
    refine HP.out.mono ?_
    rintro e w4 ⟨rfl, row4, h4, k4⟩
    have HM4 := keep_row HI3 k4 HM3
    have HK4 := keep_kr HK3 k4
    have HI4 := hid h4
    have hz4 := HK4.out.size
    have hlo := HI4.out.lo.1
    have HL2 : Hid (n + 1 = (ks ++ [k]).length) := (show _ = _ by rw [lA, HL.out]; simp)
    have hlk2 : n ≤ 302 := by have := HKB.out.1; have := HL.out; omega
    clear h4 k4 HI3 HM3 HK3 HP
    have HB0 : Hid (R.w0.heap.size ≤ w.heap.size) := (show R.w0.heap.size ≤ w.heap.size from hlo0)
    go_wp2_with (at_builtin; (refine wpList_append_row _ rfl (.tmp 17) (.tmp 23) _ rfl w.heap.size 3 i0 (.int .i64 0) 1 8 underlying34 HII.out.1 HII.out.2.1 HII.out.2.2.1 HII.out.2.2.2 rfl (by decide) (.slice A n c) n (intCells ks) rfl (Mine.alloc HM4.out _) ⟨w4.heap.size, 0, none⟩ 1 1 [.int .i64 k] rfl rfl (int_new _ k _) (int_one _) (by unfold maxLen; omega) (by omega) (by simp; omega) ?_); intro v' w5 hown4 hg4 hwh4; obtain ⟨A4, c4', rfl, h4, m4⟩ := RdI.appended HI4.out HM4.out HB0.out ((Below.refl _ _).alloc (Nat.le_refl _) _) hown4 hg4 hwh4)
    have HK5 := hid ((HK4.out.below ((Below.refl _ _).alloc (Nat.le_refl _) _)).grown hg4 (fun g hg => by rw [ownBlk] at hg; exact (Mine.blk HM4.out hg).1))
    rw [← ints_snoc] at m4
    have HI5 := hid h4
    have HM5 := hid m4
    clear hown4 hg4 hwh4 h4 m4 HI4 HM4 HK4
    have HS := hid (mark_u _ hi d st2 row4 ⟨#[44]⟩ w5 HI5.out)
    rcases bft (isM R.sg st2 ⟨#[44]⟩) with hM | hM
    ·rw [hM, skipIf_yes hM] at HS
     have hq := HQ.out
     rw [if_pos hM] at hq
     have HQ2 := hid hq
     clear hq HQ hM
     go_wp2_with fail
     refine HS.out.mono ?_
     rintro e w6 ⟨rfl, row6, h6, k6⟩
     have HM6 := hid (HI5.out.keepI k6 HM5.out)
     have HI6 := hid h6
     have HK6 := hid (HK5.out.trans k6)
     clear h6 k6 HI5 HM5 HK5
     go_wp2
     go_roundw
     case rel => exact ⟨M, ks ++ [k], skipS st2, row6, A4, n + 1, c4', rfl, HL2, HQ2, HAN.out.mono (adv_skip _), HAK.out.mono (adv_skip _), HM6, HI6, HK6⟩
     case measure => exact measp_u hi HI.out HI6.out ((HAD.out.trans (adv_skip st2)).weak (i' := 1) (j' := 0) (by omega) (by omega))
    ·rw [hM, skipIf_no hM] at HS
     have hq := HQ.out
     rw [if_neg (by rw [hM]; decide)] at hq
     subst hq
     have ht := HT.out
     subst ht
     clear HQ hM HT
     go_wp2_with fail
     refine HS.out.mono ?_
     rintro e w6 ⟨rfl, row6, h6, k6⟩
     have HM6 := hid (HI5.out.keepI k6 HM5.out)
     have HI6 := hid h6
     have HK6 := hid (HK5.out.trans k6)
     clear h6 k6 HI5 HM5 HK5
     go_wp2_with fail
     refine (wants_u _ hi d st2 row6 ⟨#[41]⟩ w6 HI6.out).mono ?_
     rintro e w7 ⟨rfl, row7, h7, k7⟩
     have HM7 := hid (HI6.out.keepI k7 HM6.out)
     have HK7 := hid (HK6.out.trans k7)
     go_wp2
     go_ret
     exact ⟨A4, n + 1, c4', rfl, by have := HL2.out; simp at this; omega, HM7.out, by have := HAK.out.1; simp at this; omega, row7, h7, HK7.out⟩
theorem arrFin_at {sg : List SgP} {j : Nat} {x y : SgP} (hx : sg[j]? = some x) (hy : sg[j + 1]? = some y) : arrFin sg j = ((x.2.1.toList == [41]) && (x.1 == 4) && (y.2.1.toList == [61, 62]) && (y.1 == 4)) := by
 have h : j + 1 < sg.length := (List.getElem?_eq_some_iff.1 hy).1
 unfold arrFin
 rw [hx, hy, decide_eq_true h, Bool.true_and]
 rfl
theorem arrFin_out {sg : List SgP} {j : Nat} (h : ¬ j + 1 < sg.length) : arrFin sg j = false := by
 unfold arrFin
 rw [decide_eq_false h]
 rfl
theorem arrT_out {sg : List SgP} {f j : Nat} (h : ¬ j + 1 < sg.length) : arrT sg f j = false := by
 cases f with
 | zero => exact arrFin_out h
 | succ f => unfold arrT; rw [if_neg (fun e => h e.1)]; exact arrFin_out h
theorem arrB_yes {sg : List SgP} {s : PS} (h : isM sg (some s) ⟨#[40]⟩ = true) : arrB sg (some s) = arrT sg (sg.length + 1) (s.at_ + 1) := by
 unfold arrB
 rw [h, Bool.true_and]
theorem arrB_no {sg : List SgP} {st : RdSt} (h : isM sg st ⟨#[40]⟩ = false) : arrB sg st = false := by
 unfold arrB
 rw [h, Bool.false_and]
theorem arrow_any (R : RC) (hi : R.imp = false) (d : Nat) (st : RdSt) (row : Option Nat) (w : World) (hI : RdI R d st row w) :
  Calls prog 243 #[.pointer (some ⟨R.T, 0, none⟩)] w fun e w' => e = .returned (.bool (arrB R.sg st)) ∧ Below w.heap.size w w' := by
 have HN := hid (sis_any R hi d st row 4 (by decide) ⟨#[40]⟩ w hI)
 rw [isM_isKm] at HN
 obtain ⟨a, b, AN, cN, l, hc, hst, hrow⟩ := id hI
 obtain ⟨c0, c1, c2, c3, c4, cf, cz⟩ := hc.cs hi
 have HI := hid hI
 rcases bft (isM R.sg st ⟨#[40]⟩) with hM | hM
 ·rw [hM] at HN
  obtain ⟨s, rfl, hlt⟩ := isM_lt hM
  rw [arrB_yes hM]
  have hsa : s.at_ = a := hst.2.1
  have hok := hI.ok
  have hlen := hok.len
  have hmo := hok.most
  rw [hsa]
  rw [hlen]
  obtain ⟨Q, hQ⟩ : ∃ Q, arrT R.sg (R.n + 1) (a + 1) = Q := ⟨_, rfl⟩
  rw [hQ]
  have HQ := hid hQ
  clear hQ hM hst hc hI hrow c0 c2 c3 c4
  have hla : a < R.n := by omega
  go_enter func243, ntmps243
  go_wp2_with fail
  refine HN.out.mono ?_
  rintro e w1 ⟨rfl, g1⟩
  go_wp2
  go_loopw [3] (fun v wr => ∃ (f j : Nat), v = .int .i64 j ∧ Hid (arrT R.sg f j = Q) ∧ Hid (R.n < f + j) ∧ j ≤ R.n + 1 ∧ Below w.heap.size w wr) (fun v wr => R.n + 2 - (intOf v).toNat)
  case atStart => exact ⟨R.n + 1, a + 1, by go_num, HQ, (show R.n < R.n + 1 + (a + 1) by omega), by omega, g1⟩
  case round =>
   clear HQ g1 c1 cz
   obtain ⟨f, j, rfl, HQ, HF, hj, hb⟩ := hrel
   have hI1 := HI.out.next hb
   have hold := hI1.old
   have hok1 := hI1.ok
   obtain ⟨a1, b1, AN1, cN1, l1, hc1, hst1, hrow1⟩ := hI1
   obtain ⟨c0, c1, c2, c3, c4, cf, cz⟩ := hc1.cs hi
   have hw1 : IntKind.i64.wrap ((j : Int) + 1) = (j : Int) + 1 := IntWalk.i64_in _ (by omega)
   clear c1 c2 c3 c4 hc1 hst1 hrow1
   rcases Nat.lt_or_ge (j + 1) R.n with hlt | hge
   ·obtain ⟨x, hx⟩ : ∃ x, R.sg[j]? = some x := ⟨_, gE (by omega)⟩
    obtain ⟨y, hy⟩ : ∃ y, R.sg[j + 1]? = some y := ⟨_, gE (by omega)⟩
    obtain ⟨b2, off, hA, hblt, e0, e1, e2, e3⟩ := sgn_at (hok1.rd.below hold) (show j < R.n by omega) hx
    obtain ⟨b3, off3, hA3, hblt3, g0, g1, g2, g3⟩ := sgn_at (hok1.rd.below hold) (show j + 1 < R.n by omega) hy
    rw [hA] at hA3
    simp only [Option.some.injEq, Addr.mk.injEq, and_true] at hA3
    obtain ⟨rfl, rfl⟩ := hA3
    rw [hA] at c0
    have hl1 : (j : Int) + 1 < (R.n : Int) := by omega
    have hl0 : (j : Int) < (R.n : Int) := by omega
    have ht : ((j : Int) + 1).toNat = j + 1 := by omega
    have hfa := arrFin_at hx hy
    obtain ⟨f, rfl⟩ : ∃ f', f = f' + 1 := ⟨f - 1, by have := HF.out; omega⟩
    have hq := HQ.out
    unfold arrT at hq
    rw [hx, hy] at hq
    simp only [Option.getD_some] at hq
    obtain ⟨xk, xt, xp, xz⟩ := x
    obtain ⟨yk, yt, yp, yz⟩ := y
    dsimp only at e0 e1 g0 g1 hq hfa
    clear e2 e3 g2 g3 HQ hok1
    rcases bft (xk == 1) with h1 | h1
    ·obtain rfl : xk = 1 := eq_of_beq h1
     rw [if_pos ⟨by omega, rfl⟩] at hq
     rcases bft (yt.toList == [44]) with h2 | h2
     ·rw [if_pos h2] at hq
      have h2' : (yt.toList != [44]) = false := by rw [bne, h2]; rfl
      have HQ2 := hid hq
      have HF2 : Hid (R.n < f + (j + 2)) := (show R.n < f + (j + 2) by have := HF.out; omega)
      have hw2 : IntKind.i64.wrap ((j : Int) + 1 + 1) = (j : Int) + 1 + 1 := IntWalk.i64_in _ (by omega)
      clear hq hfa hx hy hold hA
      go_wp2
      go_roundw
      case rel => exact ⟨f, j + 2, by go_num, HQ2, HF2, by omega, hb⟩
      case measure => simp [intOf]; omega
     ·have h2' : (yt.toList != [44]) = true := by rw [bne, h2]; rfl
      rw [if_neg (by rw [h2]; decide)] at hq
      have hw2 : IntKind.i64.wrap ((j : Int) + 1 + 1) = (j : Int) + 1 + 1 := IntWalk.i64_in _ (by omega)
      rcases Nat.lt_or_ge (j + 2) R.n with hlt2 | hge2
      ·obtain ⟨z, hz⟩ : ∃ z, R.sg[j + 1 + 1]? = some z := ⟨_, gE (by omega)⟩
       obtain ⟨b4, off4, hA4, hblt4, u0, u1, u2, u3⟩ := sgn_at (HI.out.ok.rd.below hold) (show j + 1 + 1 < R.n by omega) hz
       rw [hA] at hA4
       simp only [Option.some.injEq, Addr.mk.injEq, and_true] at hA4
       obtain ⟨rfl, rfl⟩ := hA4
       rw [arrFin_at hy hz] at hq
       obtain ⟨zk, zt, zp, zz⟩ := z
       dsimp only at u0 u1 hq
       have hl2 : (j : Int) + 1 + 1 < (R.n : Int) := by omega
       have ht2 : ((j : Int) + 1 + 1).toNat = j + 1 + 1 := by omega
       clear hfa hx hy hold hA hz u2 u3 hblt3 hblt4 HF
       rcases bft (yt.toList == [41]) with h3 | h3
       ·rcases bft (yk == 4) with h4 | h4
        ·rcases bft (zt.toList == [61, 62]) with h5 | h5
         ·simp only [h3, h4, h5, Bool.true_and, Bool.and_true, Bool.false_and, Bool.and_false] at hq
          subst hq
          go_wp2
          go_ret
          exact ⟨rfl, hb⟩
         ·simp only [h3, h4, h5, Bool.true_and, Bool.and_true, Bool.false_and, Bool.and_false] at hq
          subst hq
          go_wp2
          go_ret
          exact ⟨rfl, hb⟩
        ·simp only [h3, h4, Bool.true_and, Bool.and_true, Bool.false_and, Bool.and_false] at hq
         subst hq
         go_wp2
         go_ret
         exact ⟨rfl, hb⟩
       ·simp only [h3, Bool.true_and, Bool.and_true, Bool.false_and, Bool.and_false] at hq
        subst hq
        go_wp2
        go_ret
        exact ⟨rfl, hb⟩
      ·rw [arrFin_out (by omega)] at hq
       subst hq
       have hg1 : ¬ (j : Int) + 1 + 1 < (R.n : Int) := by omega
       have hg2 : decide ((j : Int) + 1 + 1 < (R.n : Int)) = false := decide_eq_false hg1
       clear hfa hx hy hold hA HF hblt3
       go_wp2
       go_ret
       exact ⟨rfl, hb⟩
    ·rw [if_neg (fun e => by rw [e.2] at h1; exact absurd h1 (by decide)), hfa] at hq
     clear hfa hx hy hold hA HF hblt3
     rcases bft (xt.toList == [41]) with h3 | h3
     ·rcases bft (xk == 4) with h4 | h4
      ·rcases bft (yt.toList == [61, 62]) with h5 | h5
       ·simp only [h3, h4, h5, Bool.true_and, Bool.and_true, Bool.false_and, Bool.and_false] at hq
        subst hq
        go_wp2
        go_ret
        exact ⟨rfl, hb⟩
       ·simp only [h3, h4, h5, Bool.true_and, Bool.and_true, Bool.false_and, Bool.and_false] at hq
        subst hq
        go_wp2
        go_ret
        exact ⟨rfl, hb⟩
      ·simp only [h3, h4, Bool.true_and, Bool.and_true, Bool.false_and, Bool.and_false] at hq
       subst hq
       go_wp2
       go_ret
       exact ⟨rfl, hb⟩
     ·simp only [h3, Bool.true_and, Bool.and_true, Bool.false_and, Bool.and_false] at hq
      subst hq
      go_wp2
      go_ret
      exact ⟨rfl, hb⟩
   ·have hq := HQ.out
    rw [arrT_out (by omega)] at hq
    subst hq
    have hg1 : ¬ (j : Int) + 1 < (R.n : Int) := by omega
    have hg2 : decide ((j : Int) + 1 < (R.n : Int)) = false := decide_eq_false hg1
    clear HQ HF hold hok1
    go_wp2
    go_ret
    exact ⟨rfl, hb⟩
 ·rw [hM] at HN
  rw [arrB_no hM]
  clear hM hst hc hI hrow c0 c2 c3 c4
  go_enter func243, ntmps243
  go_wp2_with fail
  refine HN.out.mono ?_
  rintro e w1 ⟨rfl, g1⟩
  go_wp2
  go_ret
  exact ⟨rfl, g1⟩
end Go.Proofs.YtgbikafalcbibaaGreatDoor

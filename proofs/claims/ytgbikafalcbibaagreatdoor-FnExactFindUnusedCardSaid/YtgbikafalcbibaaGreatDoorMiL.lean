/-
  Put together by program (shake.py): ParE, ParF, ParG, ParH.
-/
import Derived.Test.YtgbikafalcbibaaGreatDoorMiK
import Derived.Laws.AppendOwnNone
set_option maxRecDepth 100000
set_option maxHeartbeats 25600000
set_option linter.unusedVariables false
set_option linter.unusedSimpArgs false
open Go.Lib (hid)
open Go.Proofs.Tryz
namespace Go.Proofs.YtgbikafalcbibaaGreatDoor
open Go.RowKit
theorem mine_cap {w : World} {B : Nat} {e : TypeId} {s : Nat} {A : Option Addr} {n c : Nat} {xs : List Value} (h : Mine w B e s A n c xs) : n ≤ c := by
 rcases h.own with ⟨_, rfl, rfl⟩ | ⟨g, _, _, h, _⟩
 ·exact Nat.le_refl _
 ·exact h
theorem add_at {st : RdSt} {x : PN} {s s' : PS} (h : st = some s) (h2 : (addS st x).2 = some s') : s'.at_ = s.at_ := by
 subst h
 unfold addS at h2
 simp only at h2
 split at h2
 ·cases h2
 ·rw [← Option.some.inj h2]
section
variable (R : RC) (hi : R.imp = true) (d : Nat) (st : RdSt) (row : Option Nat)
include hi
theorem addK (k : Int) (t : ByteArray) (A : Option Addr) (n c : Nat) (ks : List Int) (b : Bool) (B : Nat) (w : World) (hI : RdI R d st row w) (hm : Mine w B 3 1 A n c (intCells ks)) (hB : R.Lo B) :
  Calls prog 139 #[.pointer (some ⟨R.T, 0, none⟩), .agg #[.int .i64 k, .string t, .slice A n c, .bool b]] w (Does R d row w (.int .i64 (addS st ⟨k, t, ks, b⟩).1) (addS st ⟨k, t, ks, b⟩).2) :=
 add_any R hi d st row ⟨k, t, A, n, c, ks, b⟩ w hI ⟨⟨mine_cap hm, fun g hg hu => by have := (Mine.blk hm hg).1; have := hB.2 g hu; omega⟩, hm.more hB.1⟩
theorem add0 (k : Int) (t : ByteArray) (b : Bool) (w : World) (hI : RdI R d st row w) :
  Calls prog 139 #[.pointer (some ⟨R.T, 0, none⟩), .agg #[.int .i64 k, .string t, .slice none 0 0, .bool b]] w (Does R d row w (.int .i64 (addS st ⟨k, t, [], b⟩).1) (addS st ⟨k, t, [], b⟩).2) :=
 addK R hi d st row k t none 0 0 [] b w.heap.size w hI (Mine.mk_nil _ _ _ _) hI.lo
end
theorem RdI.lt_n {R : RC} {d : Nat} {st : RdSt} {row : Option Nat} {w : World} (h : RdI R d st row w) {i : Nat} {s : PS} (hs : st = some s) (hl : s.at_ + i < R.sg.length) : s.at_ + i < R.n := by rw [← h.ok.len]; exact hl
theorem addLeaf_any (R : RC) (hi : R.imp = true) (d : Nat) (st : RdSt) (row : Option Nat) (k : Int) (w : World) (hI : RdI R d st row w) (hlt : ∀ s, st = some s → s.at_ < R.n) :
  Calls prog 220 #[.pointer (some ⟨R.T, 0, none⟩), .int .i64 k] w (Does R d row w (.int .i64 (leafS R.sg k st).1) (leafS R.sg k st).2) := by
 unfold leafS
 have HN := hid (next_any R hi d st row w hI)
 have HI := hid hI
 generalize sgAt R.sg st 0 = x at HN ⊢
 obtain ⟨q, t, p, z⟩ := x
 dsimp only at HN ⊢
 have HL := hid (fun (s' : PS) (h : (addS st ⟨k, t, [], false⟩).2 = some s') => show s'.at_ < R.n by
  cases hst : st with
  | none => rw [hst] at h; cases h
  | some s => rw [add_at hst h]; exact hlt s hst)
 have hF1 := fld1
 clear hI hlt
 unfold Does
 go_enter func220, ntmps220
 go_wp2_with fail
 refine HN.out.mono ?_
 rintro e w1 ⟨rfl, h1⟩
 have HI1 := hid (HI.out.next h1)
 have HK1 := hid (Kr.of_below (T := R.T) (row := row) h1)
 clear h1
 go_wp2_with fail
 refine (add0 R hi d st row k t false _ HI1.out).mono ?_
 rintro e w2 ⟨rfl, row2, h2, k2⟩
 have HK2 := hid (HK1.out.trans k2)
 clear k2
 go_wp2_with fail
 refine (pass_any R hi d _ row2 _ h2 HL.out).mono ?_
 rintro e w3 ⟨rfl, row3, h3, k3⟩
 go_wp2
 go_ret
 exact ⟨rfl, row3, h3, HK2.out.trans k3⟩
theorem note_any (R : RC) (hi : R.imp = true) (d : Nat) (st : RdSt) (row : Option Nat) (b : Bool) (w : World) (hI : RdI R d st row w) (hlt : ∀ s, st = some s → s.at_ < R.n) :
  Calls prog 173 #[.pointer (some ⟨R.T, 0, none⟩), .bool b] w (Does R d row w (.int .i64 (noteS R.sg b st).1) (noteS R.sg b st).2) := by
 unfold noteS
 have HN := hid (next_any R hi d st row w hI)
 have HI := hid hI
 generalize sgAt R.sg st 0 = x at HN ⊢
 obtain ⟨q, t, p, z⟩ := x
 dsimp only at HN ⊢
 have HL := hid (fun (s' : PS) (h : (addS st ⟨19, t, [], b⟩).2 = some s') => show s'.at_ < R.n by
  cases hst : st with
  | none => rw [hst] at h; cases h
  | some s => rw [add_at hst h]; exact hlt s hst)
 have hF1 := fld1
 clear hI hlt
 unfold Does
 go_enter func173, ntmps173
 go_wp2_with fail
 refine HN.out.mono ?_
 rintro e w1 ⟨rfl, h1⟩
 have HI1 := hid (HI.out.next h1)
 have HK1 := hid (Kr.of_below (T := R.T) (row := row) h1)
 clear h1
 go_wp2_with fail
 refine (add0 R hi d st row 19 t b _ HI1.out).mono ?_
 rintro e w2 ⟨rfl, row2, h2, k2⟩
 have HK2 := hid (HK1.out.trans k2)
 clear k2
 go_wp2_with fail
 refine (pass_any R hi d _ row2 _ h2 HL.out).mono ?_
 rintro e w3 ⟨rfl, row3, h3, k3⟩
 go_wp2
 go_ret
 exact ⟨rfl, row3, h3, HK2.out.trans k3⟩
theorem nameNode_any (R : RC) (hi : R.imp = true) (d : Nat) (st : RdSt) (row : Option Nat) (w : World) (hI : RdI R d st row w) :
  Calls prog 180 #[.pointer (some ⟨R.T, 0, none⟩)] w (Does R d row w (.int .i64 (nameNodeS R.sg st).1) (nameNodeS R.sg st).2) := by
 have HN := hid (namesNext_any R hi d st row 0 w hI (by omega))
 have HI := hid hI
 unfold Does nameNodeS
 clear hI
 cases hM : nameS R.sg st 0 with
 | false =>
  rw [if_neg (by decide)]
  rw [hM] at HN
  clear hM
  go_enter func180, ntmps180
  go_wp2_with fail
  refine HN.out.mono ?_
  rintro e w1 ⟨rfl, g1⟩
  obtain ⟨a, b, AN, cN, l, hc, hst, hrow⟩ := HI.out.next g1
  obtain ⟨c0, c2, c3, c4, c5, cf, cz⟩ := hc.ci hi
  have HF := hid (RdI.bad1 hi hc hrow)
  clear hc hst hrow c0 c2 c3 c5
  go_wp2
  go_ret
  exact ⟨rfl, row, HF.out.1, (Kr.of_below g1).trans HF.out.2⟩
 | true =>
  rw [if_pos rfl]
  rw [hM] at HN
  have HL := hid (fun (s : PS) (hs : st = some s) => show s.at_ < R.n by
   obtain ⟨s', e, hl⟩ := nameS_lt hM
   rw [hs] at e
   obtain rfl := Option.some.inj e
   exact HI.out.lt_n (i := 0) hs hl)
  clear hM
  go_enter func180, ntmps180
  go_wp2_with fail
  refine HN.out.mono ?_
  rintro e w1 ⟨rfl, g1⟩
  have HI1 := hid (HI.out.next g1)
  have HK1 := hid (Kr.of_below (T := R.T) (row := row) g1)
  clear g1
  go_wp2_with fail
  refine (addLeaf_any R hi d st row 1 _ HI1.out HL.out).mono ?_
  rintro e w2 ⟨rfl, row2, h2, k2⟩
  go_wp2
  go_ret
  exact ⟨rfl, row2, h2, HK1.out.trans k2⟩
theorem close_any (R : RC) (hi : R.imp = true) (d : Nat) (st : RdSt) (row : Option Nat) (m : ByteArray) (k : Int) (t : ByteArray) (A : Option Addr) (n c : Nat) (ks : List Int) (b : Bool) (B : Nat) (w : World) (hI : RdI R d st row w) (hm : Mine w B 3 1 A n c (intCells ks)) (hB : R.Lo B) :
  Calls prog 217 #[.pointer (some ⟨R.T, 0, none⟩), .string m, .agg #[.int .i64 k, .string t, .slice A n c, .bool b]] w (Does R d row w (.int .i64 (addS (takeS R.sg st m) ⟨k, t, ks, b⟩).1) (addS (takeS R.sg st m) ⟨k, t, ks, b⟩).2) := by
 have hbx : Below w.heap.size w (w.alloc (.cells #[.int .i64 k, .string t, .slice A n c, .bool b] 36)) := grow_
 have HN := hid (is_any R hi d st row m _ (hI.next hbx))
 have HI := hid (hI.next hbx)
 have HM := hid (hm.next hbx)
 have HK0 := hid (Kr.of_below (T := R.T) (row := row) hbx)
 have K := Blk.new w 36 #[.int .i64 k, .string t, .slice A n c, .bool b]
 unfold Does
 cases hM : isM R.sg st m with
 | false =>
  rw [take_no hM, addS_none]
  rw [hM] at HN
  clear hM hI hm K
  go_enter func217, ntmps217
  go_wp2_with fail
  refine HN.out.mono ?_
  rintro e w1 ⟨rfl, g1⟩
  obtain ⟨a, b, AN, cN, l, hc, hst, hrow⟩ := HI.out.next g1
  obtain ⟨c0, c2, c3, c4, c5, cf, cz⟩ := hc.ci hi
  have HF := hid (RdI.bad1 hi hc hrow)
  clear hc hst hrow c0 c2 c3 c5
  go_wp2
  go_ret
  exact ⟨rfl, row, HF.out.1, (HK0.out.below g1).trans HF.out.2⟩
 | true =>
  rw [take_yes hM, add_skip]
  rw [hM] at HN
  have HL := hid (fun (s' : PS) (h : (addS st ⟨k, t, ks, b⟩).2 = some s') => show s'.at_ < R.n by
   obtain ⟨s, e, hl⟩ := isM_lt hM
   rw [add_at e h]
   exact HI.out.lt_n (i := 0) e hl)
  clear hM hI hm
  go_enter func217, ntmps217
  go_wp2_with fail
  refine HN.out.mono ?_
  rintro e w1 ⟨rfl, g1⟩
  have HI1 := hid (HI.out.next g1)
  have HM1 := hid (HM.out.next g1)
  have HK1 := hid (HK0.out.below g1)
  have K1 := K.next g1
  have k0 := K1.q0
  have k1 := K1.q1
  have k2 := K1.q2
  have k3 := K1.q3
  clear g1 K K1
  go_wp2_with fail
  refine (addK R hi d st row k t A n c ks b B _ HI1.out HM1.out hB).mono ?_
  rintro e w2 ⟨rfl, row2, h2, k2'⟩
  have HK2 := hid (HK1.out.trans k2')
  clear k2' k0 k1 k2 k3
  go_wp2_with fail
  refine (pass_any R hi d _ row2 _ h2 HL.out).mono ?_
  rintro e w3 ⟨rfl, row3, h3, k3⟩
  go_wp2
  go_ret
  exact ⟨rfl, row3, h3, HK2.out.trans k3⟩
section
variable {R : RC} (U : Nat → Prop) (hi : R.imp = true) (d : Nat) (st : RdSt) (row : Option Nat)
include hi
theorem RdC.cu {a : Nat} {b : Bool} {AN : Option Addr} {cN : Nat} {l : List Nd} {w : World} (h : RdC { R with U := U } a d b AN cN l w) :
  w.cell? ⟨R.T, 2, none⟩ = some (.int .i64 a) ∧ w.cell? ⟨R.T, 3, none⟩ = some (.int .i64 d) ∧ w.cell? ⟨R.T, 4, none⟩ = some (.bool b) ∧ (∀ i, w.frozen? ⟨R.T, i, none⟩ = false) ∧ R.T < w.heap.size := by
 obtain ⟨c0, c2, c3, c4, c5, cf, cz⟩ := RdC.ci (R := { R with U := U }) hi h
 exact ⟨c2, c3, c4, cf, cz⟩
theorem is_u (m : ByteArray) (w : World) (hI : RdI { R with U := U } d st row w) :
 Calls prog 218 #[.pointer (some ⟨R.T, 0, none⟩), .string m] w fun e w' => e = .returned (.bool (isM R.sg st m)) ∧ Below w.heap.size w w' := is_any { R with U := U } hi d st row m w hI
theorem skip_u (m : ByteArray) (w : World) (hI : RdI { R with U := U } d st row w) :
 Calls prog 215 #[.pointer (some ⟨R.T, 0, none⟩), .string m] w fun e w' => e = .returned (.bool (isM R.sg st m)) ∧ ∃ row', RdI { R with U := U } d (skipIf R.sg st m) row' w' ∧ Kr R.T row w row' w' := skip_any { R with U := U } hi d st row m w hI
theorem take_u (m : ByteArray) (w : World) (hI : RdI { R with U := U } d st row w) :
 Calls prog 178 #[.pointer (some ⟨R.T, 0, none⟩), .string m] w fun e w' => e = .returned (.tuple #[]) ∧ ∃ row', RdI { R with U := U } d (takeS R.sg st m) row' w' ∧ Kr R.T row w row' w' := take_any { R with U := U } hi d st row m w hI
theorem nameNode_u (w : World) (hI : RdI { R with U := U } d st row w) :
 Calls prog 180 #[.pointer (some ⟨R.T, 0, none⟩)] w fun e w' => e = .returned (.int .i64 (nameNodeS R.sg st).1) ∧ ∃ row', RdI { R with U := U } d (nameNodeS R.sg st).2 row' w' ∧ Kr R.T row w row' w' := nameNode_any { R with U := U } hi d st row w hI
end
def OneC (R : RC) (F : FuncId) (d lo : Nat) (one : RdSt → PR) : Prop :=
 ∀ (U : Nat → Prop) (st : RdSt) (row : Option Nat) (w : World), RdI { R with U := U } d st row w → (∀ s, st = some s → lo ≤ s.at_) → Calls prog F #[.pointer (some ⟨R.T, 0, none⟩)] w (Does { R with U := U } d row w (.int .i64 (one st).1) (one st).2)
def LoB (lo : Nat) (st : RdSt) : Prop := ∀ s, st = some s → lo ≤ s.at_
def Enough (n N : Nat) (st : RdSt) : Prop := ∀ s, st = some s → n < N + s.at_
def KidB (ks : List Int) (st : RdSt) : Prop := ks.length ≤ 301 ∧ ∀ s, st = some s → ks.length ≤ s.nodes.length
section
variable {lo n N i j : Nat} {st st' : RdSt} {ks : List Int}
theorem LoB.adv (h : LoB lo st) (k : Adv i j st st') : LoB lo st' := fun t e => by
 obtain ⟨s, e2, h1, _⟩ := k t e
 have := h s e2
 omega
theorem Enough.adv (h : Enough n (N + 1) st) (k : Adv (i + 1) j st st') : Enough n N st' := fun t e => by
 obtain ⟨s, e2, h1, _⟩ := k t e
 have := h s e2
 omega
end
theorem Enough.mono {n N i j : Nat} {st st' : RdSt} (h : Enough n N st) (k : Adv i j st st') : Enough n N st' := fun t e => by
 obtain ⟨s, e2, h1, _⟩ := k t e
 have := h s e2
 omega
theorem KidB.mono {i j : Nat} {st st' : RdSt} {ks : List Int} (h : KidB ks st) (k : Adv i j st st') : KidB ks st' := ⟨h.1, fun t e => by
 obtain ⟨s, e2, _, h1⟩ := k t e
 have := h.2 s e2
 omega⟩
def measI (R : RC) (w : World) : Nat := match w.cell? ⟨R.T, 4, none⟩, w.cell? ⟨R.T, 2, none⟩ with | some (.bool false), some (.int _ a) => R.n + 1 - a.toNat | _, _ => 0
section
variable {R : RC} {d : Nat} {st : RdSt} {s : PS} {row : Option Nat} {w w' : World}
theorem meas_some (hi : R.imp = true) (h : RdI R d (some s) row w) : measI R w = R.n + 1 - s.at_ ∧ s.at_ ≤ R.n := by
 obtain ⟨a, b, AN, cN, l, hc, ⟨rfl, rfl, _⟩, _⟩ := h
 obtain ⟨c0, c2, c3, c4, c5, cf, cz⟩ := hc.ci hi
 have := hc.2.2.2.2.1
 unfold measI
 rw [c4, c2]
 exact ⟨rfl, this⟩
theorem meas_none (hi : R.imp = true) (h : RdI R d none row w) : measI R w = 0 := by
 obtain ⟨a, b, AN, cN, l, hc, hb, _⟩ := h
 obtain rfl : b = true := hb
 obtain ⟨c0, c2, c3, c4, c5, cf, cz⟩ := hc.ci hi
 unfold measI
 rw [c4]
theorem meas_less (hi : R.imp = true) (h : RdI R d (some s) row w) {st' : RdSt} {d' : Nat} {row' : Option Nat} (h' : RdI R d' st' row' w') {i j : Nat} (k : Adv (i + 1) j (some s) st') : measI R w' < measI R w := by
 obtain ⟨e1, e2⟩ := meas_some hi h
 cases st' with
 | none => rw [meas_none hi h']; omega
 | some t =>
  obtain ⟨e3, e4⟩ := meas_some hi h'
  obtain ⟨s', e5, h1, _⟩ := k t rfl
  obtain rfl := Option.some.inj e5
  omega
end
theorem meas_u {R : RC} {U U' : Nat → Prop} {d d' : Nat} {s : PS} {row row' : Option Nat} {w w' : World} (hi : R.imp = true) (h : RdI { R with U := U } d (some s) row w) {st' : RdSt} (h' : RdI { R with U := U' } d' st' row' w') {i j : Nat} (k : Adv (i + 1) j (some s) st') : measI R w' < measI R w := by
 have e1 := meas_some (R := { R with U := U }) hi h
 have e2 : measI { R with U := U } w = measI R w := rfl
 have e3 : ∀ W, measI { R with U := U' } W = measI R W := fun _ => rfl
 have hn : ({ R with U := U } : RC).n = R.n := rfl
 cases st' with
 | none => have := meas_none (R := { R with U := U' }) hi h'; rw [e3] at this; omega
 | some t =>
  have e4 := meas_some (R := { R with U := U' }) hi h'
  obtain ⟨s', e5, h1, _⟩ := k t rfl
  obtain rfl := Option.some.inj e5
  have e6 : ({ R with U := U' } : RC).n = R.n := rfl
  rw [e3] at e4
  omega
theorem int_new (w : World) (x : Int) (t : TypeId) : ∀ j v, [Value.int .i64 x][j]? = some v → (w.alloc (.cells #[.int .i64 x] t)).cell? ((⟨w.heap.size, 0, none⟩ : Addr).add j) = some v := by
 intro j v hj
 have hb := Blk.new w t #[.int .i64 x]
 match j, hj with
 | 0, hj => obtain rfl := Option.some.inj hj; exact hb.cell 0
 | j + 1, hj => simp at hj
theorem int_one (x : Int) : ∀ u ∈ [Value.int .i64 x], u.oneCell' = true := by
 intro u hu
 simp at hu
 subst hu; rfl
theorem ints_snoc (l : List Int) (x : Int) : intCells (l ++ [x]) = intCells l ++ [.int .i64 x] := by simp [intCells]
def ListR (R : RC) (d : Nat) (row : Option Nat) (w : World) (q : List Int × RdSt) (e : Ending) (w' : World) : Prop :=
 ∃ (A : Option Addr) (c : Nat), e = .returned (.slice A q.1.length c) ∧ Mine w' w.heap.size 3 1 A q.1.length c (intCells q.1) ∧ q.1.length ≤ 301 ∧ ∃ row', RdI (R.res A) d q.2 row' w' ∧ Kr R.T row w row' w'
theorem listTo_value (R : RC) (hi : R.imp = true) (d lo : Nat) (one : RdSt → PR) (HO : Hid (OneC R 216 d lo one)) (h1 : ∀ st, Adv 1 1 st (one st).2) (m : ByteArray) (N : Nat) (st : RdSt) (row : Option Nat) (w : World) (hI : RdI R d st row w) (hlo : LoB lo st) (hN : Enough R.n N st) :
  Calls prog 179 #[.pointer (some ⟨R.T, 0, none⟩), .string m, .func (.func 216) #[.pointer (some ⟨R.T, 0, none⟩)] #[]] w (ListR R d row w (listF R.sg one m N [] st)) := by
 obtain ⟨i0, hi0, hz0, hz1, hz2⟩ := info_parts infoInt
 have HII := hid (And.intro hi0 (And.intro hz0 (And.intro hz1 hz2)))
 clear hi0 hz0 hz1 hz2
 have HI := hid hI
 have hlo0 := hI.lo.1
 have HLO := hid hlo
 have HN := hid hN
 have HA := hid h1
 obtain ⟨Q, hQ⟩ : ∃ Q, listF R.sg one m N [] st = Q := ⟨_, rfl⟩
 rw [hQ]
 have HQ := hid hQ
 clear hQ
 clear hI hlo hN h1
 unfold ListR
 go_enter func179, ntmps179
 go_wp2
 go_loopw [7] (fun v wr => ∃ (M : Nat) (ks : List Int) (st' : RdSt) (row' : Option Nat) (A : Option Addr) (c : Nat), v = .slice A ks.length c ∧ Hid (listF R.sg one m M ks st' = Q) ∧ Hid (LoB lo st') ∧ Hid (Enough R.n M st') ∧ Hid (KidB ks st') ∧ Hid (Mine wr w.heap.size 3 1 A ks.length c (intCells ks)) ∧ Hid (RdI (R.res A) d st' row' wr) ∧ Hid (Kr R.T row w row' wr)) (fun _ wr => measI R wr)
 case atStart => exact ⟨N, [], st, row, none, 0, rfl, HQ, HLO, HN, ⟨by simp, fun s _ => by simp⟩, Mine.mk_nil _ _ _ _, HI.out.res_new (Below.refl _ _) (fun g hg => by cases hg), Kr.refl _ _ _⟩
 case round =>
  clear HQ HLO HN HI
  obtain ⟨M, ks, st', row', A, c, rfl, HQ, HLO, HN, HKB, HM, HI, HK⟩ := hrel
  have hiA : (R.res A).imp = true := hi
  cases st' with
  | none =>
   obtain ⟨a, b, AN, cN, l, hc, hb, hrow⟩ := HI.out
   obtain ⟨c2, c3, c4, cf, cz⟩ := hc.cu _ hi
   obtain rfl : b = true := hb
   have hq := HQ.out
   rw [listF_none] at hq
   subst hq
   clear hc c2 c3 hrow HQ
   go_wp2
   go_ret
   exact ⟨A, c, rfl, HM.out, HKB.out.1, row', HI.out, HK.out⟩
  | some s =>
   obtain ⟨M, rfl⟩ : ∃ M', M = M' + 1 := ⟨M - 1, by
    have h1 := HN.out s rfl
    have h2 := (HI.out.le rfl).1
    have : (R.res A).n = R.n := rfl
    omega⟩
   obtain ⟨a, b, AN, cN, l, hc, hb, hrow⟩ := HI.out
   obtain ⟨c2, c3, c4, cf, cz⟩ := hc.cu _ hi
   obtain ⟨rfl, _, _⟩ := hb
   have HIs := hid (is_u _ hi d (some s) row' m wr HI.out)
   have hq := HQ.out
   unfold listF at hq
   rw [if_neg (show ¬ (some s).isNone = true by simp)] at hq
   clear hc c2 c3 hrow HQ
   cases hM : isM R.sg (some s) m with
   | true =>
    rw [hM, if_pos rfl] at hq
    subst hq
    rw [hM] at HIs
    clear hM
    go_wp2_with fail
    refine HIs.out.mono ?_
    rintro e w2 ⟨rfl, g2⟩
    clear c4 cf cz
    go_wp2
    go_ret
    exact ⟨A, c, rfl, HM.out.next g2, HKB.out.1, row', HI.out.next g2, HK.out.below g2⟩
   | false =>
    rw [hM, if_neg (by decide)] at hq
    rw [hM] at HIs
    have HQ := hid hq
    clear hM hq
    go_wp2_with fail
    refine HIs.out.mono ?_
    rintro e w2 ⟨rfl, g2⟩
    have HI2 := hid (HI.out.next g2)
    have HM2 := hid (HM.out.next g2)
    have HK2 := hid (HK.out.below g2)
    have hz2 := HK2.out.size
    clear c4 cf cz g2 HIs HM HK
    have HC := hid (HO.out _ (some s) row' w2 HI2.out HLO.out)
    unfold Does at HC
    have hkb1 := HKB.out.2 s rfl
    have hnb := (HI2.out.le rfl).2
    have hadv := HA.out (some s)
    have HAL : Hid (LoB lo (one (some s)).2) := HLO.out.adv hadv
    have HAN : Hid (Enough R.n M (one (some s)).2) := HN.out.adv hadv
    have HAK : Hid (KidB (ks ++ [(one (some s)).1]) (one (some s)).2) := (show KidB _ _ from ⟨by rw [lA]; simp; omega, fun t e => by
     obtain ⟨s', e2, _, h3⟩ := hadv t e
     obtain rfl := Option.some.inj e2
     rw [lA]
     simp
     omega⟩)
    have HAD := hid hadv
    generalize one (some s) = r at HC HQ HAL HAN HAK HAD
    obtain ⟨k, st2⟩ := r
    dsimp only at HC HQ HAL HAN HAK HAD
    go_wp2_with fail
    refine HC.out.mono ?_
    rintro e w3 ⟨rfl, row3, h3, k3⟩
    have HM3 := hid (HI2.out.keepI k3 HM2.out)
    have HI3 := hid h3
    have HK3 := hid (HK2.out.trans k3)
    have hz3 := HK3.out.size
    have hlo := HI3.out.lo.1
    have hlk : (ks ++ [k]).length = ks.length + 1 := by simp
    clear h3 k3 HI2 HM2 HK2 HC
    have hkb := HKB.out.1
    have HB0 : Hid (R.w0.heap.size ≤ w.heap.size) := (show R.w0.heap.size ≤ w.heap.size from hlo0)
    go_wp2_with (at_builtin; (refine wpList_append_row _ rfl (.tmp 22) (.tmp 24) _ rfl w.heap.size 3 i0 (.int .i64 0) 1 8 underlying34 HII.out.1 HII.out.2.1 HII.out.2.2.1 HII.out.2.2.2 rfl (by decide) (.slice A ks.length c) ks.length (intCells ks) rfl (Mine.alloc HM3.out _) ⟨w3.heap.size, 0, none⟩ 1 1 [.int .i64 k] rfl rfl (int_new _ k _) (int_one _) (by unfold maxLen; omega) (by omega) (by simp; omega) ?_); intro v' w4 hown4 hg4 hwh4)
    obtain ⟨A4, c4', rfl, h4, m4⟩ := RdI.appended HI3.out HM3.out HB0.out ((Below.refl _ _).alloc (Nat.le_refl _) _) hown4 hg4 hwh4
    have HK4 := hid ((HK3.out.below ((Below.refl _ _).alloc (Nat.le_refl _) _)).grown hg4 (fun g hg => by rw [ownBlk] at hg; exact (Mine.blk HM3.out hg).1))
    rw [← ints_snoc] at m4
    have HI4 := hid h4
    have HM4 := hid m4
    clear hown4 hg4 hwh4 h4 m4 HI3 HM3 HK3
    have HS := hid (skip_u _ hi d st2 row3 ⟨#[44]⟩ w4 HI4.out)
    cases hM : isM R.sg st2 ⟨#[44]⟩ with
    | true =>
     rw [hM, skipIf_yes hM] at HS
     have hq := HQ.out
     rw [hM, if_pos rfl] at hq
     have HQ2 := hid hq
     clear hq HQ hM
     go_wp2_with fail
     refine HS.out.mono ?_
     rintro e w5 ⟨rfl, row5, h5, k5⟩
     have HM5 := hid (HI4.out.keepI k5 HM4.out)
     have HI5 := hid h5
     have HK5 := hid (HK4.out.trans k5)
     clear h5 k5 HI4 HM4 HK4
     go_wp2
     go_roundw
     case rel => exact ⟨M, ks ++ [k], skipS st2, row5, A4, c4', by rw [hlk], HQ2, HAL.out.adv (adv_skip _), HAN.out.mono (adv_skip _), HAK.out.mono (adv_skip _), by rw [hlk]; exact HM5, HI5, HK5⟩
     case measure => exact meas_u hi HI.out HI5.out ((HAD.out.trans (adv_skip st2)).weak (i' := 1) (j' := 0) (by omega) (by omega))
    | false =>
     rw [hM, skipIf_no hM] at HS
     have hq := HQ.out
     rw [hM, if_neg (by decide)] at hq
     subst hq
     clear HQ hM
     go_wp2_with fail
     refine HS.out.mono ?_
     rintro e w5 ⟨rfl, row5, h5, k5⟩
     have HM5 := hid (HI4.out.keepI k5 HM4.out)
     have HI5 := hid h5
     have HK5 := hid (HK4.out.trans k5)
     clear h5 k5 HI4 HM4 HK4
     go_wp2
     go_ret
     exact ⟨A4, c4', rfl, HM5.out, (by have := HAK.out.1; rw [hlk] at this; omega), row5, HI5.out, HK5.out⟩
theorem listTo_name (R : RC) (hi : R.imp = true) (d lo : Nat) (one : RdSt → PR) (HO : Hid (OneC R 180 d lo one)) (h1 : ∀ st, Adv 1 1 st (one st).2) (m : ByteArray) (N : Nat) (st : RdSt) (row : Option Nat) (w : World) (hI : RdI R d st row w) (hlo : LoB lo st) (hN : Enough R.n N st) :
  Calls prog 179 #[.pointer (some ⟨R.T, 0, none⟩), .string m, .func (.func 180) #[.pointer (some ⟨R.T, 0, none⟩)] #[]] w (ListR R d row w (listF R.sg one m N [] st)) := by
 obtain ⟨i0, hi0, hz0, hz1, hz2⟩ := info_parts infoInt
 have HII := hid (And.intro hi0 (And.intro hz0 (And.intro hz1 hz2)))
 clear hi0 hz0 hz1 hz2
 have HI := hid hI
 have hlo0 := hI.lo.1
 have HLO := hid hlo
 have HN := hid hN
 have HA := hid h1
 obtain ⟨Q, hQ⟩ : ∃ Q, listF R.sg one m N [] st = Q := ⟨_, rfl⟩
 rw [hQ]
 have HQ := hid hQ
 clear hQ
 clear hI hlo hN h1
 unfold ListR
 go_enter func179, ntmps179
 go_wp2
 go_loopw [7] (fun v wr => ∃ (M : Nat) (ks : List Int) (st' : RdSt) (row' : Option Nat) (A : Option Addr) (c : Nat), v = .slice A ks.length c ∧ Hid (listF R.sg one m M ks st' = Q) ∧ Hid (LoB lo st') ∧ Hid (Enough R.n M st') ∧ Hid (KidB ks st') ∧ Hid (Mine wr w.heap.size 3 1 A ks.length c (intCells ks)) ∧ Hid (RdI (R.res A) d st' row' wr) ∧ Hid (Kr R.T row w row' wr)) (fun _ wr => measI R wr)
 case atStart => exact ⟨N, [], st, row, none, 0, rfl, HQ, HLO, HN, ⟨by simp, fun s _ => by simp⟩, Mine.mk_nil _ _ _ _, HI.out.res_new (Below.refl _ _) (fun g hg => by cases hg), Kr.refl _ _ _⟩
 case round =>
  clear HQ HLO HN HI
  obtain ⟨M, ks, st', row', A, c, rfl, HQ, HLO, HN, HKB, HM, HI, HK⟩ := hrel
  have hiA : (R.res A).imp = true := hi
  cases st' with
  | none =>
   obtain ⟨a, b, AN, cN, l, hc, hb, hrow⟩ := HI.out
   obtain ⟨c2, c3, c4, cf, cz⟩ := hc.cu _ hi
   obtain rfl : b = true := hb
   have hq := HQ.out
   rw [listF_none] at hq
   subst hq
   clear hc c2 c3 hrow HQ
   go_wp2
   go_ret
   exact ⟨A, c, rfl, HM.out, HKB.out.1, row', HI.out, HK.out⟩
  | some s =>
   obtain ⟨M, rfl⟩ : ∃ M', M = M' + 1 := ⟨M - 1, by
    have h1 := HN.out s rfl
    have h2 := (HI.out.le rfl).1
    have : (R.res A).n = R.n := rfl
    omega⟩
   obtain ⟨a, b, AN, cN, l, hc, hb, hrow⟩ := HI.out
   obtain ⟨c2, c3, c4, cf, cz⟩ := hc.cu _ hi
   obtain ⟨rfl, _, _⟩ := hb
   have HIs := hid (is_u _ hi d (some s) row' m wr HI.out)
   have hq := HQ.out
   unfold listF at hq
   rw [if_neg (show ¬ (some s).isNone = true by simp)] at hq
   clear hc c2 c3 hrow HQ
   cases hM : isM R.sg (some s) m with
   | true =>
    rw [hM, if_pos rfl] at hq
    subst hq
    rw [hM] at HIs
    clear hM
    go_wp2_with fail
    refine HIs.out.mono ?_
    rintro e w2 ⟨rfl, g2⟩
    clear c4 cf cz
    go_wp2
    go_ret
    exact ⟨A, c, rfl, HM.out.next g2, HKB.out.1, row', HI.out.next g2, HK.out.below g2⟩
   | false =>
    rw [hM, if_neg (by decide)] at hq
    rw [hM] at HIs
    have HQ := hid hq
    clear hM hq
    go_wp2_with fail
    refine HIs.out.mono ?_
    rintro e w2 ⟨rfl, g2⟩
    have HI2 := hid (HI.out.next g2)
    have HM2 := hid (HM.out.next g2)
    have HK2 := hid (HK.out.below g2)
    have hz2 := HK2.out.size
    clear c4 cf cz g2 HIs HM HK
    have HC := hid (HO.out _ (some s) row' w2 HI2.out HLO.out)
    unfold Does at HC
    have hkb1 := HKB.out.2 s rfl
    have hnb := (HI2.out.le rfl).2
    have hadv := HA.out (some s)
    have HAL : Hid (LoB lo (one (some s)).2) := HLO.out.adv hadv
    have HAN : Hid (Enough R.n M (one (some s)).2) := HN.out.adv hadv
    have HAK : Hid (KidB (ks ++ [(one (some s)).1]) (one (some s)).2) := (show KidB _ _ from ⟨by rw [lA]; simp; omega, fun t e => by
     obtain ⟨s', e2, _, h3⟩ := hadv t e
     obtain rfl := Option.some.inj e2
     rw [lA]
     simp
     omega⟩)
    have HAD := hid hadv
    generalize one (some s) = r at HC HQ HAL HAN HAK HAD
    obtain ⟨k, st2⟩ := r
    dsimp only at HC HQ HAL HAN HAK HAD
    go_wp2_with fail
    refine HC.out.mono ?_
    rintro e w3 ⟨rfl, row3, h3, k3⟩
    have HM3 := hid (HI2.out.keepI k3 HM2.out)
    have HI3 := hid h3
    have HK3 := hid (HK2.out.trans k3)
    have hz3 := HK3.out.size
    have hlo := HI3.out.lo.1
    have hlk : (ks ++ [k]).length = ks.length + 1 := by simp
    clear h3 k3 HI2 HM2 HK2 HC
    have hkb := HKB.out.1
    have HB0 : Hid (R.w0.heap.size ≤ w.heap.size) := (show R.w0.heap.size ≤ w.heap.size from hlo0)
    go_wp2_with (at_builtin; (refine wpList_append_row _ rfl (.tmp 22) (.tmp 24) _ rfl w.heap.size 3 i0 (.int .i64 0) 1 8 underlying34 HII.out.1 HII.out.2.1 HII.out.2.2.1 HII.out.2.2.2 rfl (by decide) (.slice A ks.length c) ks.length (intCells ks) rfl (Mine.alloc HM3.out _) ⟨w3.heap.size, 0, none⟩ 1 1 [.int .i64 k] rfl rfl (int_new _ k _) (int_one _) (by unfold maxLen; omega) (by omega) (by simp; omega) ?_); intro v' w4 hown4 hg4 hwh4)
    obtain ⟨A4, c4', rfl, h4, m4⟩ := RdI.appended HI3.out HM3.out HB0.out ((Below.refl _ _).alloc (Nat.le_refl _) _) hown4 hg4 hwh4
    have HK4 := hid ((HK3.out.below ((Below.refl _ _).alloc (Nat.le_refl _) _)).grown hg4 (fun g hg => by rw [ownBlk] at hg; exact (Mine.blk HM3.out hg).1))
    rw [← ints_snoc] at m4
    have HI4 := hid h4
    have HM4 := hid m4
    clear hown4 hg4 hwh4 h4 m4 HI3 HM3 HK3
    have HS := hid (skip_u _ hi d st2 row3 ⟨#[44]⟩ w4 HI4.out)
    cases hM : isM R.sg st2 ⟨#[44]⟩ with
    | true =>
     rw [hM, skipIf_yes hM] at HS
     have hq := HQ.out
     rw [hM, if_pos rfl] at hq
     have HQ2 := hid hq
     clear hq HQ hM
     go_wp2_with fail
     refine HS.out.mono ?_
     rintro e w5 ⟨rfl, row5, h5, k5⟩
     have HM5 := hid (HI4.out.keepI k5 HM4.out)
     have HI5 := hid h5
     have HK5 := hid (HK4.out.trans k5)
     clear h5 k5 HI4 HM4 HK4
     go_wp2
     go_roundw
     case rel => exact ⟨M, ks ++ [k], skipS st2, row5, A4, c4', by rw [hlk], HQ2, HAL.out.adv (adv_skip _), HAN.out.mono (adv_skip _), HAK.out.mono (adv_skip _), by rw [hlk]; exact HM5, HI5, HK5⟩
     case measure => exact meas_u hi HI.out HI5.out ((HAD.out.trans (adv_skip st2)).weak (i' := 1) (j' := 0) (by omega) (by omega))
    | false =>
     rw [hM, skipIf_no hM] at HS
     have hq := HQ.out
     rw [hM, if_neg (by decide)] at hq
     subst hq
     clear HQ hM
     go_wp2_with fail
     refine HS.out.mono ?_
     rintro e w5 ⟨rfl, row5, h5, k5⟩
     have HM5 := hid (HI4.out.keepI k5 HM4.out)
     have HI5 := hid h5
     have HK5 := hid (HK4.out.trans k5)
     clear h5 k5 HI4 HM4 HK4
     go_wp2
     go_ret
     exact ⟨A4, c4', rfl, HM5.out, (by have := HAK.out.1; rw [hlk] at this; omega), row5, HI5.out, HK5.out⟩
theorem keep_row {R : RC} {d : Nat} {st : RdSt} {row row' : Option Nat} {w w1 w2 : World} {B : Nat} {A : Option Addr} {n c : Nat} {xs : List Value} (h : Hid (RdI R d st row w)) (k : Kr R.T row w1 row' w2) (m : Hid (Mine w B 3 1 A n c xs))
  (hb : Below w.heap.size w w1 := by repeat' (first | (with_reducible exact Below.refl _ _) | (with_reducible refine Below.alloc ?_ ?_ _) | go_size)) : Hid (Mine w2 B 3 1 A n c xs) :=
 (show Mine w2 B 3 1 A n c xs from (h.out.next hb).keepI k (m.out.next hb))
theorem keep_kr {T : Nat} {row0 row row' : Option Nat} {w0 w w1 w2 : World} (h : Hid (Kr T row0 w0 row w)) (k : Kr T row w1 row' w2)
  (hb : Below w.heap.size w w1 := by repeat' (first | (with_reducible exact Below.refl _ _) | (with_reducible refine Below.alloc ?_ ?_ _) | go_size)) : Hid (Kr T row0 w0 row' w2) :=
 (show Kr T row0 w0 row' w2 from (h.out.below hb).trans k)
theorem pst {F : FuncId} {a : Array Value} {W w w0 : World} {I : Option Nat → World → Prop} {T : Nat} {row0 row : Option Nat} {v : Value} {G : Ending → World → Prop} (hc : Calls prog F a W (fun e w' => e = .returned v ∧ ∃ row', I row' w' ∧ Kr T row W row' w')) (HK : Hid (Kr T row0 w0 row w)) (k : ∀ w' row', Hid (I row' w') → Hid (Kr T row0 w0 row' w') → G (.returned v) w')
  (hb : Below w.heap.size w W := by repeat' (first | (with_reducible exact Below.refl _ _) | (with_reducible refine Below.alloc ?_ ?_ _) | go_size)) : Calls prog F a W G :=
 hc.mono (by rintro e w' ⟨rfl, row', h, hk⟩; exact k w' row' h (keep_kr HK hk hb))
theorem rst {F : FuncId} {a : Array Value} {w w0 : World} {R : RC} {d : Nat} {st : RdSt} {T : Nat} {row0 row : Option Nat} {v : Value} {G : Ending → World → Prop} (hc : Calls prog F a w (fun e w' => e = .returned v ∧ Below w.heap.size w w')) (HI : Hid (RdI R d st row w)) (HK : Hid (Kr T row0 w0 row w)) (k : ∀ w', Hid (RdI R d st row w') → Hid (Kr T row0 w0 row w') → G (.returned v) w') : Calls prog F a w G :=
 hc.mono (by rintro e w' ⟨rfl, h⟩; exact k w' (HI.out.next h) (HK.out.below h))
theorem app_int {ops : Array Oper} {rest : List Oper} {o : Oper} {a : Act} {Q : Exit → Act → World → Prop} (s x : Operand) {R : RC} {d : Nat} {st : RdSt} {T : Nat} {row0 row : Option Nat} {w w1 : World} {A : Option Addr} {ln c : Nat} {ks : List Int} {k : Int}
  (HI : Hid (RdI (R.res A) d st row w1)) (HK : Hid (Kr T row0 w row w1)) (HM : Hid (Mine w1 w.heap.size 3 1 A ln c (intCells ks))) (HB : Hid (R.w0.heap.size ≤ w.heap.size)) (hgd : o.guard = none) (ho : o.op = .call { callee := .builtin .append, args := #[s, x], argTypes := #[34, 34] }) (hs : a.eval s = .slice A ln c) (hx : a.eval x = .slice (some ⟨w1.heap.size, 0, none⟩) 1 1) (hln : ln ≤ 100000)
  (h : ∀ A' c' w', Hid (RdI (R.res A') d st row w') → Hid (Kr T row0 w row w') → Hid (Mine w' w.heap.size 3 1 A' (ln + 1) c' (intCells (ks ++ [k]))) → wpList prog ops Q rest (a.put o.dst (.slice A' (ln + 1) c')) w') : wpList prog ops Q (o :: rest) a (w1.alloc (.cells #[.int .i64 k] 3)) := by
 obtain ⟨i0, hi, hz0, hz1, hz2⟩ := info_parts infoInt
 have hz := HK.out.size
 refine wpList_append_row _ hgd s x _ ho w.heap.size 3 i0 (.int .i64 0) 1 8 underlying34 hi hz0 hz1 hz2 rfl (by decide) (.slice A ln c) ln (intCells ks) hs (Mine.alloc HM.out _) ⟨w1.heap.size, 0, none⟩ 1 1 [.int .i64 k] hx rfl (int_new _ k _) (int_one _) (by unfold maxLen; omega) (by omega) (by simp; omega) ?_
 intro v' w5 hown hg hwh
 obtain ⟨A5, c5, rfl, h5, m5⟩ := RdI.appended HI.out HM.out HB.out ((Below.refl _ _).alloc (Nat.le_refl _) _) hown hg hwh
 have HK5 := hid ((HK.out.below ((Below.refl _ _).alloc (Nat.le_refl _) _)).grown hg (fun g hg => by rw [ownBlk] at hg; exact (Mine.blk HM.out hg).1))
 rw [← ints_snoc] at m5
 exact h A5 c5 w5 h5 HK5 m5
theorem row_new (w : World) (ks : List Int) (h : ks.length ≤ 100000) : Mine (w.alloc (.cells (intCells ks).toArray 3)) w.heap.size 3 1 (some ⟨w.heap.size, 0, none⟩) ks.length ks.length (intCells ks) :=
 Mine.mk_own ⟨[], by simpa using Blk.new w 3 (intCells ks).toArray, by simp [intCells]⟩ (by simp [intCells]) (Nat.le_refl _) (Nat.le_refl _) (by unfold maxLen; omega)
theorem kid1 (w : World) (k : Int) : Mine (w.alloc (.cells #[.int .i64 k] 3)) w.heap.size 3 1 (some ⟨w.heap.size, 0, none⟩) 1 1 (intCells [k]) := row_new w [k] (by simp)
theorem kid3 (w : World) (k l m : Int) : Mine (w.alloc (.cells #[.int .i64 k, .int .i64 l, .int .i64 m] 3)) w.heap.size 3 1 (some ⟨w.heap.size, 0, none⟩) 3 3 (intCells [k, l, m]) := row_new w [k, l, m] (by simp)
theorem enough_of {n N : Nat} (h : n < N) (st : RdSt) : Enough n N st := fun s _ => by omega
section
variable {R : RC} (U : Nat → Prop) (hi : R.imp = true) (d : Nat) (st : RdSt) (row : Option Nat)
include hi
theorem listTo_vu (lo : Nat) (one : RdSt → PR) (HO : Hid (OneC R 216 d lo one)) (h1 : ∀ st, Adv 1 1 st (one st).2) (m : ByteArray) (N : Nat) (w : World) (hI : RdI { R with U := U } d st row w) (hlo : LoB lo st) (hN : Enough R.n N st) :
  Calls prog 179 #[.pointer (some ⟨R.T, 0, none⟩), .string m, .func (.func 216) #[.pointer (some ⟨R.T, 0, none⟩)] #[]] w fun e w' => ∃ (A : Option Addr) (c : Nat), e = .returned (.slice A (listF R.sg one m N [] st).1.length c) ∧ Mine w' w.heap.size 3 1 A (listF R.sg one m N [] st).1.length c (intCells (listF R.sg one m N [] st).1) ∧ (listF R.sg one m N [] st).1.length ≤ 301 ∧ ∃ row', RdI (({ R with U := U } : RC).res A) d (listF R.sg one m N [] st).2 row' w' ∧ Kr R.T row w row' w' :=
 listTo_value { R with U := U } hi d lo one HO h1 m N st row w hI hlo hN
end
theorem call_any (R : RC) (hi : R.imp = true) (d lo : Nat) (one : RdSt → PR) (HO : Hid (OneC R 216 d lo one)) (h1 : ∀ st, Adv 1 1 st (one st).2) (N : Nat) (k : Int) (st : RdSt) (row : Option Nat) (w : World) (hI : RdI R d st row w) (hlo : LoB lo st) (hN : R.n < N) :
  Calls prog 236 #[.pointer (some ⟨R.T, 0, none⟩), .int .i64 k] w (Does R d row w (.int .i64 (callS R.sg one N k st).1) (callS R.sg one N k st).2) := by
 obtain ⟨i0, hi0, hz0, hz1, hz2⟩ := info_parts infoInt
 have HII := hid (And.intro hi0 (And.intro hz0 (And.intro hz1 hz2)))
 clear hi0 hz0 hz1 hz2
 have HI0 := hid hI
 have HK0 := hid (Kr.refl R.T row w)
 have HLO := hid hlo
 have HA := hid h1
 have HLo := hid hI.lo
 unfold Does callS
 clear hI hlo h1
 go_enter func236, ntmps236
 go_wp2_with fail
 refine pst (take_any R hi d st row ⟨#[40]⟩ w HI0.out) HK0 ?_
 intro w1 row1 HI1 HK1
 have HL1 : Hid (LoB lo (takeS R.sg st ⟨#[40]⟩)) := HLO.out.adv (adv_take _ _)
 have HI1' := hid (HI1.out.res_new (A := some ⟨w1.heap.size, 0, none⟩) ((Below.refl _ _).alloc (Nat.le_refl _) (.cells #[.int .i64 k] 3)) (fun g hg => by simp at hg; subst hg; simp))
 have HR1 := hid (kid1 w1 k)
 have HLo1 := hid HI1.out.lo
 go_wp2_with fail
 refine (listTo_vu _ hi d _ row1 lo one HO HA.out ⟨#[41]⟩ N _ HI1'.out HL1.out (enough_of hN _)).mono ?_
 rintro e w2 ⟨A, c, rfl, m2, hle, row2, h2, k2⟩
 have HR2 := keep_row HI1' k2 HR1
 have HK2 := keep_kr HK1 k2
 have HI2 := hid h2.unres
 have HM2 := hid m2
 have hz2 := k2.size
 clear h2 k2 m2 HI1' HR1
 have hb2 : w1.heap.size ≤ w2.heap.size := by simp at hz2; omega
 have hlo2 : R.w0.heap.size ≤ w1.heap.size := HLo1.out.1
 have HKC : Hid (intCells [k] ++ intCells (listF R.sg one ⟨#[41]⟩ N [] (takeS R.sg st ⟨#[40]⟩)).1 = intCells (k :: (listF R.sg one ⟨#[41]⟩ N [] (takeS R.sg st ⟨#[40]⟩)).1)) := (show _ = _ by simp [intCells])
 rcases HM2.out.own with ⟨eA, h0, hc0⟩ | ⟨g, eA, hBg, hlc, hcm, hown⟩
 ·have hnil : Hid ((listF R.sg one ⟨#[41]⟩ N [] (takeS R.sg st ⟨#[40]⟩)).1 = []) := List.eq_nil_of_length_eq_zero h0
  have hfin := hid (fun (w' : World) (hI : RdI (R.res (some ⟨w1.heap.size, 0, none⟩)) d (listF R.sg one ⟨#[41]⟩ N [] (takeS R.sg st ⟨#[40]⟩)).2 row2 w') (hm : Mine w' w1.heap.size 3 1 (some ⟨w1.heap.size, 0, none⟩) 1 1 (intCells [k])) => close_any R hi d _ row2 ⟨#[41]⟩ 5 noT (some ⟨w1.heap.size, 0, none⟩) 1 1 (k :: (listF R.sg one ⟨#[41]⟩ N [] (takeS R.sg st ⟨#[40]⟩)).1) false w1.heap.size w' hI.unres (by rw [hnil.out]; exact hm) HLo1.out)
  unfold Does at hfin
  subst eA; subst hc0
  rw [h0]
  clear h0 hz2
  go_wp2_with (at_builtin; (refine wpList_append_own_none rfl (.tmp 9) (.tmp 13) _ rfl w1.heap.size 3 i0 1 underlying34 HII.out.1 (.slice (some ⟨w1.heap.size, 0, none⟩) 1 1) 1 (intCells [k]) rfl HR2.out rfl ?_))
  go_wp2_with fail
  refine (hfin.out w2 HI2.out HR2.out).mono ?_
  rintro e w3 ⟨rfl, row3, h3, k3⟩
  go_wp2
  go_ret
  exact ⟨rfl, row3, h3, HK2.out.trans k3⟩
 ·subst eA
  have hadd : ∀ j u, (intCells (listF R.sg one ⟨#[41]⟩ N [] (takeS R.sg st ⟨#[40]⟩)).1)[j]? = some u → w2.cell? ((⟨g, 0, none⟩ : Addr).add j) = some u := fun j u hj => by
   obtain ⟨rest, hb, _⟩ := hown
   rw [Addr.add_lit, hb.cell, Nat.zero_add]
   have hlt : j < (intCells (listF R.sg one ⟨#[41]⟩ N [] (takeS R.sg st ⟨#[40]⟩)).1).length := (List.getElem?_eq_some_iff.1 hj).1
   simpa [List.getElem?_append_left hlt] using hj
  have HADD := hid hadd
  have HOne : Hid (∀ u ∈ intCells (listF R.sg one ⟨#[41]⟩ N [] (takeS R.sg st ⟨#[40]⟩)).1, u.oneCell' = true) := (show ∀ u ∈ _, _ from fun u hu => by
   simp only [intCells, List.mem_map] at hu
   obtain ⟨x, _, rfl⟩ := hu
   rfl)
  have HLen : Hid ((intCells (listF R.sg one ⟨#[41]⟩ N [] (takeS R.sg st ⟨#[40]⟩)).1).length = (listF R.sg one ⟨#[41]⟩ N [] (takeS R.sg st ⟨#[40]⟩)).1.length * 1) := (show _ = _ by simp [intCells])
  clear hown hadd hz2
  go_wp2_with (at_builtin; (refine wpList_append_row _ rfl (.tmp 9) (.tmp 13) _ rfl w1.heap.size 3 i0 (.int .i64 0) 1 8 underlying34 HII.out.1 HII.out.2.1 HII.out.2.2.1 HII.out.2.2.2 rfl (by decide) (.slice (some ⟨w1.heap.size, 0, none⟩) 1 1) 1 (intCells [k]) rfl HR2.out ⟨g, 0, none⟩ _ c _ rfl HLen.out HADD.out HOne.out (by unfold maxLen; omega) (by omega) (by omega) ?_); intro v' w4 hown4 hg4 hwh4; obtain ⟨A4, c4', rfl, h4, m4⟩ := RdI.appended HI2.out HR2.out HLo1.out.1 (Below.refl _ _) hown4 hg4 hwh4)
  have HK4 := hid (HK2.out.grown hg4 (fun q hq => by rw [ownBlk] at hq; have := (Mine.blk HR2.out hq).1; have := HK1.out.size; omega))
  rw [HKC.out] at m4
  have HI4 := hid h4.unres
  have HM4 := hid m4
  clear hown4 hg4 hwh4 h4 m4
  have hfin := hid (close_any R hi d _ row2 ⟨#[41]⟩ 5 noT A4 _ c4' (k :: (listF R.sg one ⟨#[41]⟩ N [] (takeS R.sg st ⟨#[40]⟩)).1) false w1.heap.size w4 HI4.out HM4.out HLo1.out)
  unfold Does at hfin
  go_wp2_with fail
  refine hfin.out.mono ?_
  rintro e w5 ⟨rfl, row5, h5, k5⟩
  go_wp2
  go_ret
  exact ⟨rfl, row5, h5, HK4.out.trans k5⟩
theorem lvl_world (w : World) : ∃ W, W = (((((((w.alloc (.cells #[.string ⟨#[124, 124]⟩] 9)).alloc (.cells #[.string ⟨#[38, 38]⟩] 9)).alloc (.cells #[.string ⟨#[61, 61]⟩] 9)).alloc (.cells #[.string ⟨#[60]⟩] 9)).alloc (.cells #[.string ⟨#[43]⟩, .string ⟨#[45]⟩] 9)).alloc (.cells #[.string ⟨#[42]⟩] 9)).alloc (.cells #[.slice (some ⟨w.heap.size, 0, none⟩) 1 1, .slice (some ⟨w.heap.size + 1, 0, none⟩) 1 1, .slice (some ⟨w.heap.size + 1 + 1, 0, none⟩) 1 1, .slice (some ⟨w.heap.size + 1 + 1 + 1, 0, none⟩) 1 1, .slice (some ⟨w.heap.size + 1 + 1 + 1 + 1, 0, none⟩) 2 2, .slice (some ⟨w.heap.size + 1 + 1 + 1 + 1 + 1, 0, none⟩) 1 1] 37)) ∧ Below w.heap.size w W ∧ Blk W (w.heap.size) 9 #[.string ⟨#[124, 124]⟩] ∧ Blk W (w.heap.size + 1) 9 #[.string ⟨#[38, 38]⟩] ∧ Blk W (w.heap.size + 1 + 1) 9 #[.string ⟨#[61, 61]⟩] ∧ Blk W (w.heap.size + 1 + 1 + 1) 9 #[.string ⟨#[60]⟩] ∧ Blk W (w.heap.size + 1 + 1 + 1 + 1) 9 #[.string ⟨#[43]⟩, .string ⟨#[45]⟩] ∧ Blk W (w.heap.size + 1 + 1 + 1 + 1 + 1) 9 #[.string ⟨#[42]⟩] := by
 refine ⟨_, rfl, grow_, ?_, ?_, ?_, ?_, ?_, ?_⟩
 ·have h := Blk.new w 9 #[.string ⟨#[124, 124]⟩]
  exact ((((((h.alloc _).alloc _).alloc _).alloc _).alloc _).alloc _)
 ·have h := Blk.new (w.alloc (.cells #[.string ⟨#[124, 124]⟩] 9)) 9 #[.string ⟨#[38, 38]⟩]
  simp only [World.size_alloc] at h
  exact (((((h.alloc _).alloc _).alloc _).alloc _).alloc _)
 ·have h := Blk.new ((w.alloc (.cells #[.string ⟨#[124, 124]⟩] 9)).alloc (.cells #[.string ⟨#[38, 38]⟩] 9)) 9 #[.string ⟨#[61, 61]⟩]
  simp only [World.size_alloc] at h
  exact ((((h.alloc _).alloc _).alloc _).alloc _)
 ·have h := Blk.new (((w.alloc (.cells #[.string ⟨#[124, 124]⟩] 9)).alloc (.cells #[.string ⟨#[38, 38]⟩] 9)).alloc (.cells #[.string ⟨#[61, 61]⟩] 9)) 9 #[.string ⟨#[60]⟩]
  simp only [World.size_alloc] at h
  exact (((h.alloc _).alloc _).alloc _)
 ·have h := Blk.new ((((w.alloc (.cells #[.string ⟨#[124, 124]⟩] 9)).alloc (.cells #[.string ⟨#[38, 38]⟩] 9)).alloc (.cells #[.string ⟨#[61, 61]⟩] 9)).alloc (.cells #[.string ⟨#[60]⟩] 9)) 9 #[.string ⟨#[43]⟩, .string ⟨#[45]⟩]
  simp only [World.size_alloc] at h
  exact ((h.alloc _).alloc _)
 ·have h := Blk.new (((((w.alloc (.cells #[.string ⟨#[124, 124]⟩] 9)).alloc (.cells #[.string ⟨#[38, 38]⟩] 9)).alloc (.cells #[.string ⟨#[61, 61]⟩] 9)).alloc (.cells #[.string ⟨#[60]⟩] 9)).alloc (.cells #[.string ⟨#[43]⟩, .string ⟨#[45]⟩] 9)) 9 #[.string ⟨#[42]⟩]
  simp only [World.size_alloc] at h
  exact (h.alloc _)
def OffM (b : Bool) (j : Nat) : Prop := 0 < j → b = false
theorem chainMark_one (R : RC) (hi : R.imp = true) (d : Nat) (st : RdSt) (row : Option Nat) (w : World) (hI : RdI R d st row w) (l : Int) (t : ByteArray) (hl : (l = 0 ∧ t = ⟨#[124, 124]⟩) ∨ (l = 1 ∧ t = ⟨#[38, 38]⟩) ∨ (l = 2 ∧ t = ⟨#[61, 61]⟩) ∨ (l = 3 ∧ t = ⟨#[60]⟩) ∨ (l = 5 ∧ t = ⟨#[42]⟩)) :
  Calls prog 248 #[.pointer (some ⟨R.T, 0, none⟩), .int .i64 l] w fun e w' => e = .returned (.string (if isM R.sg st t = true then t else noT)) ∧ Below w.heap.size w w' := by
 have HS0 := hid (fun W (hW : Below w.heap.size w W) => is_any R hi d st row t W (hI.next hW))
 obtain ⟨W, hW, hbW, B0, B1, B2, B3, B4, B5⟩ := lvl_world w
 replace hW := hid hW
 generalize isM R.sg st t = M at HS0 ⊢
 generalize hm0 : (if M = true then t else noT) = mk
 have HM := hid hm0.symm
 clear hm0
 clear hI
 rcases hl with ⟨rfl, rfl⟩ | ⟨rfl, rfl⟩ | ⟨rfl, rfl⟩ | ⟨rfl, rfl⟩ | ⟨rfl, rfl⟩
 have K0 := B0
 rotate_left
 have K0 := B1
 rotate_left
 have K0 := B2
 rotate_left
 have K0 := B3
 rotate_left
 have K0 := B5
 all_goals
  clear B0 B1 B2 B3 B4 B5
  go_enter func248, ntmps248
  go_upto_region 3 with fail
  rw [← hW.out]
  clear hW
  go_loopw [20] (fun i wr => ∃ j : Nat, j ≤ 1 ∧ i = .int .i64 j ∧ OffM M j ∧ Below W.heap.size W wr) (fun i _ => 1 - (intOf i).toNat)
  case atStart => exact ⟨0, by omega, rfl, (fun h => by omega), Below.refl _ _⟩
  case round =>
   obtain ⟨j, hj, rfl, HNO, hb⟩ := hrel
   have KB := K0.next hb
   have kz := KB.lt
   have k0 := KB.q0
   have hbw := below_next hbW hb
   clear KB
   rcases (show j = 0 ∨ j = 1 by omega) with rfl | rfl
   ·have HS := hid (HS0.out _ hbw)
    rcases Bool.eq_false_or_eq_true M with hM | hM
    ·rw [hM] at HS
     obtain rfl := HM.out.trans (if_pos hM)
     clear HM hM
     go_wp2_with fail
     refine HS.out.mono ?_
     rintro e w2 ⟨rfl, g2⟩
     go_wp2
     go_ret
     exact ⟨rfl, below_next hbw g2⟩
    ·rw [hM] at HS
     have HNO2 : OffM M 1 := fun _ => hM
     clear hM
     go_wp2_with fail
     refine HS.out.mono ?_
     rintro e w2 ⟨rfl, g2⟩
     have hb2 := below_next hb g2
     clear k0
     go_wp2
     go_roundw
     case rel => exact ⟨1, by omega, by go_num, HNO2, hb2⟩
     case measure => simp [intOf]
   ·obtain rfl : mk = noT := by rw [HM.out, HNO (by omega), if_neg (by decide)]
    clear HM
    go_wp2
    go_ret
    exact ⟨rfl, hbw⟩
theorem markS_4 (sg : List SgP) (st : RdSt) : markS sg st 4 = if isM sg st ⟨#[43]⟩ = true then ⟨#[43]⟩ else if isM sg st ⟨#[45]⟩ = true then ⟨#[45]⟩ else noT := rfl
theorem chainMark_4 (R : RC) (hi : R.imp = true) (d : Nat) (st : RdSt) (row : Option Nat) (w : World) (hI : RdI R d st row w) :
  Calls prog 248 #[.pointer (some ⟨R.T, 0, none⟩), .int .i64 4] w fun e w' => e = .returned (.string (markS R.sg st 4)) ∧ Below w.heap.size w w' := by
 have HS0 := hid (fun W (hW : Below w.heap.size w W) => is_any R hi d st row ⟨#[43]⟩ W (hI.next hW))
 have HS1 := hid (fun W (hW : Below w.heap.size w W) => is_any R hi d st row ⟨#[45]⟩ W (hI.next hW))
 have HM := hid (markS_4 R.sg st)
 generalize markS R.sg st 4 = mk at HM ⊢
 clear hI
 go_enter func248, ntmps248
 go_upto_region 3 with fail
 obtain ⟨W, hW, hbW, B0, B1, B2, B3, K0, B5⟩ := lvl_world w
 rw [← hW]
 clear hW B0 B1 B2 B3 B5
 go_loopw [20] (fun i wr => ∃ j : Nat, j ≤ 2 ∧ i = .int .i64 j ∧ Hid ((0 < j → isM R.sg st ⟨#[43]⟩ = false) ∧ (1 < j → isM R.sg st ⟨#[45]⟩ = false)) ∧ Below W.heap.size W wr) (fun i _ => 2 - (intOf i).toNat)
 case atStart => exact ⟨0, by omega, rfl, (show (0 < 0 → isM R.sg st ⟨#[43]⟩ = false) ∧ (1 < 0 → isM R.sg st ⟨#[45]⟩ = false) from ⟨fun h => by omega, fun h => by omega⟩), Below.refl _ _⟩
 case round =>
  obtain ⟨j, hj, rfl, HNO, hb⟩ := hrel
  have KB := K0.next hb
  have kz := KB.lt
  have k0 := KB.q0
  have k1 := KB.q1
  have hbw := below_next hbW hb
  clear KB
  rcases (show j = 0 ∨ j = 1 ∨ j = 2 by omega) with rfl | rfl | rfl
  ·have HS := hid (HS0.out _ hbw)
   rcases bft (isM R.sg st ⟨#[43]⟩) with hM | hM
   ·rw [hM] at HS
    have hm : mk = ⟨#[43]⟩ := by rw [HM.out, hM, if_pos rfl]
    subst hm
    clear HM hM
    go_wp2_with fail
    refine HS.out.mono ?_
    rintro e w2 ⟨rfl, g2⟩
    go_wp2
    go_ret
    exact ⟨rfl, below_next hbw g2⟩
   ·rw [hM] at HS
    have HNO2 : Hid ((0 < 1 → isM R.sg st ⟨#[43]⟩ = false) ∧ (1 < 1 → isM R.sg st ⟨#[45]⟩ = false)) := (show (0 < 1 → isM R.sg st ⟨#[43]⟩ = false) ∧ (1 < 1 → isM R.sg st ⟨#[45]⟩ = false) from ⟨fun _ => hM, fun h => by omega⟩)
    clear hM
    go_wp2_with fail
    refine HS.out.mono ?_
    rintro e w2 ⟨rfl, g2⟩
    have hb2 := below_next hb g2
    clear k0 k1
    go_wp2
    go_roundw
    case rel => exact ⟨1, by omega, by go_num, HNO2, hb2⟩
    case measure => simp [intOf]
  ·have HS := hid (HS1.out _ hbw)
   rcases bft (isM R.sg st ⟨#[45]⟩) with hM | hM
   ·rw [hM] at HS
    have hm : mk = ⟨#[45]⟩ := by rw [HM.out, (HNO.out.1 (by omega)), if_neg (by decide), hM, if_pos rfl]
    subst hm
    clear HM hM
    go_wp2_with fail
    refine HS.out.mono ?_
    rintro e w2 ⟨rfl, g2⟩
    go_wp2
    go_ret
    exact ⟨rfl, below_next hbw g2⟩
   ·rw [hM] at HS
    have HNO2 : Hid ((0 < 2 → isM R.sg st ⟨#[43]⟩ = false) ∧ (1 < 2 → isM R.sg st ⟨#[45]⟩ = false)) := (show (0 < 2 → isM R.sg st ⟨#[43]⟩ = false) ∧ (1 < 2 → isM R.sg st ⟨#[45]⟩ = false) from ⟨fun _ => (HNO.out.1 (by omega)), fun _ => hM⟩)
    clear hM
    go_wp2_with fail
    refine HS.out.mono ?_
    rintro e w2 ⟨rfl, g2⟩
    have hb2 := below_next hb g2
    clear k0 k1
    go_wp2
    go_roundw
    case rel => exact ⟨2, by omega, by go_num, HNO2, hb2⟩
    case measure => simp [intOf]
  ·have hm : mk = noT := by rw [HM.out, (HNO.out.1 (by omega)), if_neg (by decide), (HNO.out.2 (by omega)), if_neg (by decide)]
   subst hm
   clear HM
   go_wp2
   go_ret
   exact ⟨rfl, hbw⟩
theorem chainMark_any (R : RC) (hi : R.imp = true) (d : Nat) (st : RdSt) (row : Option Nat) (l : Nat) (hl : l < 6) (w : World) (hI : RdI R d st row w) :
  Calls prog 248 #[.pointer (some ⟨R.T, 0, none⟩), .int .i64 l] w fun e w' => e = .returned (.string (markS R.sg st l)) ∧ Below w.heap.size w w' := by
 rcases (show l = 4 ∨ l = 0 ∨ l = 1 ∨ l = 2 ∨ l = 3 ∨ l = 5 by omega) with rfl | rfl | rfl | rfl | rfl | rfl
 ·exact chainMark_4 R hi d st row w hI
 all_goals exact chainMark_one R hi d st row w hI _ _ (by simp)
def FnAt (sg : List SgP) (st : RdSt) (i N : Nat) : Prop := ∃ f, sg.length ≤ f + i ∧ fnF sg st f i = N
theorem fnAt_stop {sg : List SgP} {st : RdSt} {i N : Nat} (h : FnAt sg st i N) (hn : nameS sg st i = false) : N = i := by
 obtain ⟨f, _, h⟩ := h
 cases f with
 | zero => exact h.symm
 | succ f => unfold fnF at h; rw [hn, if_neg (by decide)] at h; exact h.symm
theorem fnAt_more {sg : List SgP} {st : RdSt} {i N : Nat} (h : FnAt sg st i N) (hn : nameS sg st i = true) (hc : ((sgAt sg st (i + 1)).2.1.toList == [44]) = true) : FnAt sg st (i + 2) N := by
 obtain ⟨f, hf, h⟩ := h
 obtain ⟨s, rfl, hl⟩ := nameS_lt hn
 cases f with
 | zero => omega
 | succ f => unfold fnF at h; rw [hn, if_pos rfl, hc, if_pos rfl] at h; exact ⟨f, by omega, h⟩
theorem fnAt_last {sg : List SgP} {st : RdSt} {i N : Nat} (h : FnAt sg st i N) (hn : nameS sg st i = true) (hc : ((sgAt sg st (i + 1)).2.1.toList == [44]) = false) : N = i + 1 := by
 obtain ⟨f, hf, h⟩ := h
 obtain ⟨s, rfl, hl⟩ := nameS_lt hn
 cases f with
 | zero => omega
 | succ f => unfold fnF at h; rw [hn, if_pos rfl, hc, if_neg (by decide)] at h; exact h.symm
theorem fnNext_any (R : RC) (hi : R.imp = true) (d : Nat) (st : RdSt) (row : Option Nat) (w : World) (hI : RdI R d st row w) :
  Calls prog 251 #[.pointer (some ⟨R.T, 0, none⟩)] w fun e w' => e = .returned (.bool (fnB R.sg st)) ∧ Below w.heap.size w w' := by
 obtain ⟨N, hN⟩ : ∃ N, fnF R.sg st (R.sg.length + 1) 1 = N := ⟨_, rfl⟩
 have HB : Hid (fnB R.sg st = (((sgAt R.sg st N).2.1.toList == [41]) && ((sgAt R.sg st (N + 1)).2.1.toList == [61, 62]))) := (show _ = _ by unfold fnB; rw [hN])
 have HF0 : Hid (FnAt R.sg st 1 N) := ⟨R.sg.length + 1, by omega, hN⟩
 have HLn := hid (show R.sg.length ≤ 3000 by rw [hI.ok.len]; exact hI.ok.most)
 have HP := hid (fun (i : Nat) (hi2 : i ≤ 100000) W (hW : Below w.heap.size w W) => peek_any R hi d st row i W (hI.next hW) hi2)
 have HN := hid (fun (i : Nat) (hi2 : i ≤ 100000) W (hW : Below w.heap.size w W) => namesNext_any R hi d st row i W (hI.next hW) hi2)
 generalize fnB R.sg st = B at HB ⊢
 have hF1 := fld1
 clear hI hN
 go_enter func251, ntmps251
 go_wp2
 go_loopw [3] (fun n wr => ∃ i : Nat, n = .int .i64 i ∧ i ≤ 3002 ∧ Hid (FnAt R.sg st i N) ∧ Below w.heap.size w wr) (fun n _ => 4000 - (intOf n).toNat)
 case atStart => exact ⟨1, rfl, by omega, HF0, Below.refl _ _⟩
 case round =>
  clear HF0
  obtain ⟨i, rfl, hi3, HFA, hb⟩ := hrel
  rcases bft (nameS R.sg st i) with hn | hn
  ·have hlt : i < 3000 := by obtain ⟨s, _, hl⟩ := nameS_lt hn; have := HLn.out; omega
   have HNi := hid (HN.out i (by omega) _ hb)
   rw [hn] at HNi
   have HM := hid (fun h => fnAt_more HFA.out hn h)
   have HL := hid (fun h => fnAt_last HFA.out hn h)
   clear hn HFA
   go_wp2_with fail
   refine HNi.out.mono ?_
   rintro e w2 ⟨rfl, g2⟩
   have hb2 := below_next hb g2
   clear g2 hb HNi
   have hp := HP.out (i + 1) (by omega) _ hb2
   rw [show ((i + 1 : Nat) : Int) = (i : Int) + 1 by omega] at hp
   have HP1 := hid hp
   clear hp
   generalize hx : sgAt R.sg st (i + 1) = x at HP1 HM HL
   obtain ⟨xk, xt, xp, xz⟩ := x
   dsimp only at HP1 HM HL
   go_wp2_with fail
   refine HP1.out.mono ?_
   rintro e w3 ⟨rfl, g3⟩
   have hb3 := below_next hb2 g3
   clear g3 hb2 HP1
   rcases bft (xt.toList == [44]) with hc | hc
   ·have hc' : (xt.toList != [44]) = false := by rw [bne, hc]; rfl
    have HF2 := hid (HM.out hc)
    clear HM HL hx
    go_wp2
    refine ⟨⟨i + 2, by go_num, by omega, HF2, hb3⟩, ?_⟩
    simp [intOf]; omega
   ·have hc' : (xt.toList != [44]) = true := by rw [bne, hc]; rfl
    obtain rfl : N = i + 1 := HL.out hc
    rw [hx] at HB
    clear HM HL
    have hp := HP.out (i + 1 + 1) (by omega)
    rw [show ((i + 1 + 1 : Nat) : Int) = (i : Int) + 1 + 1 by omega] at hp
    have hp1 := HP.out (i + 1) (by omega) _ hb3
    rw [show ((i + 1 : Nat) : Int) = (i : Int) + 1 by omega] at hp1
    rw [hx] at hp1
    have HPB := hid hp
    have HPA := hid hp1
    clear hp hp1 HN HP
    generalize hxb : sgAt R.sg st (i + 1 + 1) = xb at HPB HB
    obtain ⟨bk, bt_, bp, bz⟩ := xb
    dsimp only at HPA HPB HB
    clear hxb
    go_wp2_with fail
    refine HPA.out.mono ?_
    rintro e wa ⟨rfl, ga⟩
    have hba := below_next hb3 ga
    clear ga HPA
    rcases bft (xt.toList == [41]) with h1 | h1
    ·have hB : B = (bt_.toList == [61, 62]) := by rw [HB.out, h1, Bool.true_and]
     subst hB
     go_wp2_with fail
     refine (HPB.out _ hba).mono ?_
     rintro e wb ⟨rfl, gb⟩
     have hbb := below_next hba gb
     clear gb HPB
     go_wp2
     go_ret
     exact ⟨rfl, hbb⟩
    ·have hB : B = false := by rw [HB.out, h1, Bool.false_and]
     subst hB
     go_wp2
     go_ret
     exact ⟨rfl, hba⟩
  ·obtain rfl : N = i := fnAt_stop HFA.out hn
   have HNi := hid (HN.out N (by omega) _ hb)
   rw [hn] at HNi
   clear hn HFA
   go_wp2_with fail
   refine HNi.out.mono ?_
   rintro e w2 ⟨rfl, g2⟩
   have hb2 := below_next hb g2
   clear g2 hb HNi
   have hp := HP.out (N + 1) (by omega)
   rw [show ((N + 1 : Nat) : Int) = (N : Int) + 1 by omega] at hp
   have HPB := hid hp
   have HPA := hid (HP.out N (by omega) _ hb2)
   clear hp HN HP
   generalize hxa : sgAt R.sg st (N) = xa at HPA HB
   generalize hxb : sgAt R.sg st (N + 1) = xb at HPB HB
   obtain ⟨ak, at_, ap, az⟩ := xa
   obtain ⟨bk, bt_, bp, bz⟩ := xb
   dsimp only at HPA HPB HB
   clear hxa hxb
   go_wp2_with fail
   refine HPA.out.mono ?_
   rintro e wa ⟨rfl, ga⟩
   have hba := below_next hb2 ga
   clear ga HPA
   rcases bft (at_.toList == [41]) with h1 | h1
   ·have hB : B = (bt_.toList == [61, 62]) := by rw [HB.out, h1, Bool.true_and]
    subst hB
    go_wp2_with fail
    refine (HPB.out _ hba).mono ?_
    rintro e wb ⟨rfl, gb⟩
    have hbb := below_next hba gb
    clear gb HPB
    go_wp2
    go_ret
    exact ⟨rfl, hbb⟩
   ·have hB : B = false := by rw [HB.out, h1, Bool.false_and]
    subst hB
    go_wp2
    go_ret
    exact ⟨rfl, hba⟩
end Go.Proofs.YtgbikafalcbibaaGreatDoor

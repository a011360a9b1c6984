
/-
  The law on the names of files that are not among others: the walk.
-/
import Derived.Test.YtfapdhfjcnehhaaDocE
import Derived.Test.YtfapdhfjcnehhaaStrs
import Derived.Test.YtfapdhfjcnehhaaMkDoc
import Derived.Test.YtfapdhfjcnehhaaDocB
namespace Go.Proofs.Ytfapdhfjcnehhaa
open Go.RowKit
set_option linter.unusedVariables false

/-- Texts in a slice of the call's own, or nil. -/
def StrsM (w : World) (ss : List ByteArray) (e : Ending) (w' : World) : Prop :=
  ∃ (A : Option Addr) (c : Nat), e = .returned (.slice A ss.length c) ∧ Mine w' w.heap.size 9 1 A ss.length c (strCells ss) ∧ Below w.heap.size w w'
theorem strsM_of {w : World} {ss : List ByteArray} {e : Ending} {w' : World} (h : StrsP w ss e w') : StrsM w ss e w' := by
  obtain ⟨v, rfl, ho, hb⟩ := h
  obtain ⟨A, c, rfl, hm⟩ := Mine.of ho
  exact ⟨A, c, rfl, hm, hb⟩
def DocsO (w : World) (n : Nat) (l : List DocD) (e : Ending) (w' : World) : Prop :=
  ∃ g : Nat, e = .returned (.slice (some ⟨g, 0, none⟩) n n) ∧ Own w' g 58 (n * 2) (l.flatMap docCells) ∧ w.heap.size ≤ g ∧ Below w.heap.size w w'
theorem toDocS_o (A : Option Addr) (n c : Nat) (l : List DocD) (w : World) (hn : n ≤ 1048576) (hl : Hid (l.length = n)) (hr : Rd w 2 A n (l.flatMap docCells)) :
    Calls Try.prog 9 #[.slice A n c] w (DocsO w n l) :=
  (toDocS_any A n c l w hn hl.out hr).mono fun _ _ ⟨he, ho, hb⟩ => ⟨_, he, ho, Nat.le_refl _, hb⟩
theorem docs_rd {w : World} {g n : Nat} {l : List DocD} (h : Own w g 58 (n * 2) (l.flatMap docCells)) (hl : Hid (l.length = n)) : Rd w 2 (some ⟨g, 0, none⟩) n (l.flatMap docCells) :=
  Own.rd (size := 2) (n := n) h (by rw [flat_len docCells docCells_len, hl.out])
theorem szDocS_left (A : Option Addr) (n c : Nat) (l : List DocD) (left : Int) (w : World) (h1 : left ≤ 1048576) (hl : Hid (l.length = n)) (hr : Rd w 2 A n (l.flatMap docCells)) (hle : Hid ((szDocL l : Int) ≤ left)) :
    Calls Try.prog 7 #[.slice A n c, .int .i64 left] w fun e w' => e = .returned (.int .i64 (left - (szDocL l : Nat))) ∧ Below w.heap.size w w' :=
  szDocS_ok A n c l left w h1 hl.out hr hle.out
theorem szDocS_none (A : Option Addr) (n c : Nat) (l : List DocD) (left : Int) (w : World) (h0 : 0 ≤ left) (h1 : left ≤ 1048576) (hn : Hid (n ≤ maxLen)) (hl : Hid (l.length = n)) (hr : Rd w 2 A n (l.flatMap docCells)) (hs : Hid (∀ d ∈ l, OkDoc d)) (hle : Hid (left < (szDocL l : Int))) :
    Calls Try.prog 7 #[.slice A n c, .int .i64 left] w fun e w' => e = .returned (.int .i64 (-1)) ∧ Below w.heap.size w w' :=
  szDocS_big A n c l left w h0 h1 hn.out hl.out hr hs.out hle.out

set_option maxRecDepth 100000 in
set_option maxHeartbeats 1600000 in
theorem lawChangedDocs (A : Option Addr) (n c : Nat) (la : List DocD) (A' : Option Addr) (n' c' : Nat) (lb : List DocD) (w : World)
    (ha : la.length = n ∧ n ≤ maxLen ∧ Rd w 2 A n (la.flatMap docCells) ∧ ∀ d ∈ la, OkDoc d) (hb' : lb.length = n' ∧ n' ≤ maxLen ∧ Rd w 2 A' n' (lb.flatMap docCells) ∧ ∀ d ∈ lb, OkDoc d) :
    Calls Try.prog 3 #[.slice A n c, .slice A' n' c'] w fun e w' => e = .returned (.bool true) ∧ Below w.heap.size w w' := by
  obtain ⟨hl, hn, hr, hs⟩ := ha
  obtain ⟨hl', hn', hr', hs'⟩ := hb'
  have HL := Lib.hid hl
  have HS := Lib.hid hs
  have HN := Lib.hid hn
  have HL' := Lib.hid hl'
  have HS' := Lib.hid hs'
  have HN' := Lib.hid hn'
  have hb := Below.refl w.heap.size w
  clear hl hs hn hl' hs' hn'
  by_cases h1 : 1048576 < szDocL la
  · have HZ := Lib.hid (show (1048576 : Int) < (szDocL la : Int) by omega)
    clear h1
    go_enter Try.func3, Try.ntmps3
    go_wp2_with fail
    refine (szDocS_none _ _ _ _ _ _ (by omega) (by omega) HN HL hr HS HZ).mono ?_
    rintro e w2 ⟨rfl, h2⟩
    replace hb := by first | exact below_next hb h2 | exact below_next1 hb h2 | exact below_next2 hb h2
    clear h2
    go_wp2
    go_ret
    exact ⟨rfl, (by repeat' (first | (with_reducible exact Below.refl _ _) | (with_reducible assumption) | (with_reducible refine below_drewN ?_ _) | (with_reducible refine Below.drew ?_) | (with_reducible refine Below.alloc ?_ ?_ _) | (with_reducible refine Below.setCell ?_ ?_ _) | go_size))⟩
  · have HZ := Lib.hid (show (szDocL la : Int) ≤ (1048576 : Int) by omega)
    have g0 : (0 : Int) ≤ 1048576 - (szDocL la : Nat) := by omega
    have g1 : n ≤ 1048576 := by have := (ok_of_szDoc (show szDocL la ≤ 1048576 by omega)).1; have := HL.out; omega
    by_cases h2 : 1048576 - (szDocL la : Int) < szDocL lb
    · have HZ' := Lib.hid h2
      clear h1 h2
      go_enter Try.func3, Try.ntmps3
      go_wp2_with fail
      refine (szDocS_left _ _ _ _ _ _ (by omega) HL hr HZ).mono ?_
      rintro e w2 ⟨rfl, h2⟩
      replace hr := by first | exact hr.next h2 | exact hr.next1 h2 | exact hr.next2 h2
      replace hr' := by first | exact hr'.next h2 | exact hr'.next1 h2 | exact hr'.next2 h2
      replace hb := by first | exact below_next hb h2 | exact below_next1 hb h2 | exact below_next2 hb h2
      clear h2
      go_wp2_with fail
      refine (szDocS_none _ _ _ _ _ _ (by omega) (by omega) HN' HL' hr' HS' HZ').mono ?_
      rintro e w2 ⟨rfl, h2⟩
      replace hb := by first | exact below_next hb h2 | exact below_next1 hb h2 | exact below_next2 hb h2
      clear h2
      go_wp2
      go_ret
      exact ⟨rfl, (by repeat' (first | (with_reducible exact Below.refl _ _) | (with_reducible assumption) | (with_reducible refine below_drewN ?_ _) | (with_reducible refine Below.drew ?_) | (with_reducible refine Below.alloc ?_ ?_ _) | (with_reducible refine Below.setCell ?_ ?_ _) | go_size))⟩
    · have HZ' := Lib.hid (show (szDocL lb : Int) ≤ 1048576 - (szDocL la : Int) by omega)
      have g2 : (0 : Int) ≤ 1048576 - (szDocL la : Nat) - (szDocL lb : Nat) := by omega
      have g3 : n' ≤ 1048576 := by have := (ok_of_szDoc (show szDocL lb ≤ 1048576 by omega)).1; have := HL'.out; omega
      have q1 := Lib.hid (fun hn => hr.lt hn)
      have q2 := Lib.hid (fun hn => hr'.lt hn)
      obtain ⟨ss, hss⟩ : ∃ ss, chgTo la lb n = ss := ⟨_, rfl⟩
      have gs : ss.length ≤ 1048576 := by subst hss; have := chgTo_len la lb n; omega
      have HI := Lib.hid (fun X Y c1 c2 W x1 x2 => show Calls Try.prog 10 #[.slice X n c1, .slice Y n' c2] W (StrsM W ss) from (by rw [← hss]; exact (implChangedDocs_any X Y n c1 n' c2 la lb W g1 g3 HL HL' x1 x2).mono fun _ _ h => strsM_of h))
      have HP := Lib.hid (fun X Y c1 c2 W x1 x2 => show Calls Try.prog 8 #[.slice X n c1, .slice Y n' c2] W (StrsM W ss) from (by rw [← hss]; exact (specChangedDocs_any X Y n c1 n' c2 la lb W g1 g3 HL HL' x1 x2).mono fun _ _ h => strsM_of h))
      clear h1 h2 hss
      go_enter Try.func3, Try.ntmps3
      go_wp2_with fail
      refine (szDocS_left _ _ _ _ _ _ (by omega) HL hr HZ).mono ?_
      rintro e w2 ⟨rfl, h2⟩
      replace hr := by first | exact hr.next h2 | exact hr.next1 h2 | exact hr.next2 h2
      replace hr' := by first | exact hr'.next h2 | exact hr'.next1 h2 | exact hr'.next2 h2
      replace hb := by first | exact below_next hb h2 | exact below_next1 hb h2 | exact below_next2 hb h2
      clear h2
      go_wp2_with fail
      refine (szDocS_left _ _ _ _ _ _ (by omega) HL' hr' HZ').mono ?_
      rintro e w2 ⟨rfl, h2⟩
      replace hr := by first | exact hr.next h2 | exact hr.next1 h2 | exact hr.next2 h2
      replace hr' := by first | exact hr'.next h2 | exact hr'.next1 h2 | exact hr'.next2 h2
      replace hb := by first | exact below_next hb h2 | exact below_next1 hb h2 | exact below_next2 hb h2
      clear h2
      go_wp2_with fail
      refine (toDocS_o _ _ _ _ _ g1 HL hr).mono ?_
      rintro e w2 ⟨g1x, rfl, o1, hg1, h2⟩
      replace hr := by first | exact hr.next h2 | exact hr.next1 h2 | exact hr.next2 h2
      replace hr' := by first | exact hr'.next h2 | exact hr'.next1 h2 | exact hr'.next2 h2
      replace hb := by first | exact below_next hb h2 | exact below_next1 hb h2 | exact below_next2 hb h2
      clear h2
      clear hg1
      go_wp2_with fail
      refine (toDocS_o _ _ _ _ _ g3 HL' hr').mono ?_
      rintro e w2 ⟨g2x, rfl, o2, hg2, h2⟩
      replace hr := by first | exact hr.next h2 | exact hr.next1 h2 | exact hr.next2 h2
      replace hr' := by first | exact hr'.next h2 | exact hr'.next1 h2 | exact hr'.next2 h2
      replace o1 := by first | exact o1.next h2 | exact o1.next1 h2 | exact o1.next2 h2
      replace hb := by first | exact below_next hb h2 | exact below_next1 hb h2 | exact below_next2 hb h2
      clear h2
      clear hg2
      go_wp2_with fail
      refine (HP.out _ _ _ _ _ (docs_rd o1 HL) (docs_rd o2 HL')).mono ?_
      rintro e w2 ⟨A0, c0, rfl, m0, h2⟩
      replace hr := by first | exact hr.next h2 | exact hr.next1 h2 | exact hr.next2 h2
      replace hr' := by first | exact hr'.next h2 | exact hr'.next1 h2 | exact hr'.next2 h2
      replace hb := by first | exact below_next hb h2 | exact below_next1 hb h2 | exact below_next2 hb h2
      clear h2
      clear o1 o2
      have q0 := Lib.hid (fun g (hg : A0.map (·.block) = some g) => (m0.blk hg).2)
      have z0 := hb.size
      go_wp2_with fail
      refine (toDocS_o _ _ _ _ _ g1 HL hr).mono ?_
      rintro e w2 ⟨g1x, rfl, o1, hg1, h2⟩
      replace hr := by first | exact hr.next h2 | exact hr.next1 h2 | exact hr.next2 h2
      replace hr' := by first | exact hr'.next h2 | exact hr'.next1 h2 | exact hr'.next2 h2
      replace m0 := by first | exact m0.next h2 | exact m0.next1 h2 | exact m0.next2 h2
      replace hb := by first | exact below_next hb h2 | exact below_next1 hb h2 | exact below_next2 hb h2
      clear h2
      replace q0 := Lib.hid (fun g hg => Nat.lt_of_lt_of_le (q0.out g hg) hg1)
      replace z0 : w.heap.size ≤ g1x := by omega
      have z1 := o1.lt
      go_wp2_with fail
      refine (toDocS_o _ _ _ _ _ g3 HL' hr').mono ?_
      rintro e w2 ⟨g2x, rfl, o2, hg2, h2⟩
      replace hr := by first | exact hr.next h2 | exact hr.next1 h2 | exact hr.next2 h2
      replace hr' := by first | exact hr'.next h2 | exact hr'.next1 h2 | exact hr'.next2 h2
      replace m0 := by first | exact m0.next h2 | exact m0.next1 h2 | exact m0.next2 h2
      replace o1 := by first | exact o1.next h2 | exact o1.next1 h2 | exact o1.next2 h2
      replace hb := by first | exact below_next hb h2 | exact below_next1 hb h2 | exact below_next2 hb h2
      clear h2
      replace z1 : g1x < g2x := by omega
      clear hg1 hg2
      have z3 := o2.lt
      go_wp2_with fail
      refine (HI.out _ _ _ _ _ (docs_rd o1 HL) (docs_rd o2 HL')).mono ?_
      rintro e w2 ⟨A3, c3, rfl, m3, h2⟩
      replace hr := by first | exact hr.next h2 | exact hr.next1 h2 | exact hr.next2 h2
      replace hr' := by first | exact hr'.next h2 | exact hr'.next1 h2 | exact hr'.next2 h2
      replace m0 := by first | exact m0.next h2 | exact m0.next1 h2 | exact m0.next2 h2
      replace o1 := by first | exact o1.next h2 | exact o1.next1 h2 | exact o1.next2 h2
      replace o2 := by first | exact o2.next h2 | exact o2.next1 h2 | exact o2.next2 h2
      replace hb := by first | exact below_next hb h2 | exact below_next1 hb h2 | exact below_next2 hb h2
      clear h2
      replace m3 := m3.more (B' := g2x + 1) (by omega)
      clear z3
      go_wp2_with fail
      refine (eqStringS_same _ _ _ _ _ ss _ (by omega) rfl m3.rd m0.rd).mono ?_
      rintro e w2 ⟨rfl, h2⟩
      replace hr := by first | exact hr.next h2 | exact hr.next1 h2 | exact hr.next2 h2
      replace hr' := by first | exact hr'.next h2 | exact hr'.next1 h2 | exact hr'.next2 h2
      replace m0 := by first | exact m0.next h2 | exact m0.next1 h2 | exact m0.next2 h2
      replace o1 := by first | exact o1.next h2 | exact o1.next1 h2 | exact o1.next2 h2
      replace o2 := by first | exact o2.next h2 | exact o2.next1 h2 | exact o2.next2 h2
      replace m3 := by first | exact m3.next h2 | exact m3.next1 h2 | exact m3.next2 h2
      replace hb := by first | exact below_next hb h2 | exact below_next1 hb h2 | exact below_next2 hb h2
      clear h2
      go_wp2_with fail
      refine (toDocS_o _ _ _ _ _ g1 HL hr).mono ?_
      rintro e w2 ⟨g3x, rfl, o3, hg3, h2⟩
      replace hr := by first | exact hr.next h2 | exact hr.next1 h2 | exact hr.next2 h2
      replace hr' := by first | exact hr'.next h2 | exact hr'.next1 h2 | exact hr'.next2 h2
      replace m0 := by first | exact m0.next h2 | exact m0.next1 h2 | exact m0.next2 h2
      replace o1 := by first | exact o1.next h2 | exact o1.next1 h2 | exact o1.next2 h2
      replace o2 := by first | exact o2.next h2 | exact o2.next1 h2 | exact o2.next2 h2
      replace m3 := by first | exact m3.next h2 | exact m3.next1 h2 | exact m3.next2 h2
      replace hb := by first | exact below_next hb h2 | exact below_next1 hb h2 | exact below_next2 hb h2
      clear h2
      clear hg3
      go_wp2_with fail
      refine (eqDocS_same _ _ _ _ _ _ _ (by omega) HL.out (docs_rd o1 HL) (docs_rd o3 HL)).mono ?_
      rintro e w2 ⟨rfl, h2⟩
      replace hr := by first | exact hr.next h2 | exact hr.next1 h2 | exact hr.next2 h2
      replace hr' := by first | exact hr'.next h2 | exact hr'.next1 h2 | exact hr'.next2 h2
      replace m0 := by first | exact m0.next h2 | exact m0.next1 h2 | exact m0.next2 h2
      replace o1 := by first | exact o1.next h2 | exact o1.next1 h2 | exact o1.next2 h2
      replace o2 := by first | exact o2.next h2 | exact o2.next1 h2 | exact o2.next2 h2
      replace m3 := by first | exact m3.next h2 | exact m3.next1 h2 | exact m3.next2 h2
      replace hb := by first | exact below_next hb h2 | exact below_next1 hb h2 | exact below_next2 hb h2
      clear h2
      clear o3
      go_wp2_with fail
      refine (toDocS_o _ _ _ _ _ g3 HL' hr').mono ?_
      rintro e w2 ⟨g3x, rfl, o3, hg3, h2⟩
      replace hr := by first | exact hr.next h2 | exact hr.next1 h2 | exact hr.next2 h2
      replace hr' := by first | exact hr'.next h2 | exact hr'.next1 h2 | exact hr'.next2 h2
      replace m0 := by first | exact m0.next h2 | exact m0.next1 h2 | exact m0.next2 h2
      replace o1 := by first | exact o1.next h2 | exact o1.next1 h2 | exact o1.next2 h2
      replace o2 := by first | exact o2.next h2 | exact o2.next1 h2 | exact o2.next2 h2
      replace m3 := by first | exact m3.next h2 | exact m3.next1 h2 | exact m3.next2 h2
      replace hb := by first | exact below_next hb h2 | exact below_next1 hb h2 | exact below_next2 hb h2
      clear h2
      clear hg3
      go_wp2_with fail
      refine (eqDocS_same _ _ _ _ _ _ _ (by omega) HL'.out (docs_rd o2 HL') (docs_rd o3 HL')).mono ?_
      rintro e w2 ⟨rfl, h2⟩
      replace hr := by first | exact hr.next h2 | exact hr.next1 h2 | exact hr.next2 h2
      replace hr' := by first | exact hr'.next h2 | exact hr'.next1 h2 | exact hr'.next2 h2
      replace m0 := by first | exact m0.next h2 | exact m0.next1 h2 | exact m0.next2 h2
      replace o1 := by first | exact o1.next h2 | exact o1.next1 h2 | exact o1.next2 h2
      replace o2 := by first | exact o2.next h2 | exact o2.next1 h2 | exact o2.next2 h2
      replace m3 := by first | exact m3.next h2 | exact m3.next1 h2 | exact m3.next2 h2
      replace hb := by first | exact below_next hb h2 | exact below_next1 hb h2 | exact below_next2 hb h2
      clear h2
      clear o3
      go_wp2_with fail
      refine (markDocS_any _ _ _ _ _ _ _ o1 (by rw [flat_len docCells docCells_len, HL.out]) (by omega) (by omega)).mono ?_
      rintro e w2 ⟨rfl, o1', hg⟩
      clear o1'
      replace hr := hr.turned hg (fun hn g e b off e2 => by injection e with e; subst e; have := q1.out hn b off e2; omega)
      replace hr' := hr'.turned hg (fun hn g e b off e2 => by injection e with e; subst e; have := q2.out hn b off e2; omega)
      replace m0 := m0.grown hg (fun g e => .inr (fun h => by injection e with e; subst e; exact Nat.lt_irrefl _ (q0.out _ h)))
      replace m3 := m3.grown hg (fun g e => .inl (by injection e with e; subst e; omega))
      replace o2 := o2.grown hg (fun q e => by injection e with e; subst e; omega)
      replace hb := below_turned hb hg (fun g e => by injection e with e; subst e; omega)
      clear hg o1
      go_wp2_with fail
      refine (markDocS_any _ _ _ _ _ _ _ o2 (by rw [flat_len docCells docCells_len, HL'.out]) (by omega) (by omega)).mono ?_
      rintro e w2 ⟨rfl, o2', hg⟩
      clear o2'
      replace hr := hr.turned hg (fun hn g e b off e2 => by injection e with e; subst e; have := q1.out hn b off e2; omega)
      replace hr' := hr'.turned hg (fun hn g e b off e2 => by injection e with e; subst e; have := q2.out hn b off e2; omega)
      replace m0 := m0.grown hg (fun g e => .inr (fun h => by injection e with e; subst e; have := q0.out _ h; omega))
      replace m3 := m3.grown hg (fun g e => .inl (by injection e with e; subst e; omega))
      replace hb := below_turned hb hg (fun g e => by injection e with e; subst e; omega)
      clear hg o2
      go_wp2_with fail
      refine (eqStringS_same _ _ _ _ _ ss _ (by omega) rfl m3.rd m0.rd).mono ?_
      rintro e w2 ⟨rfl, h2⟩
      replace hr := by first | exact hr.next h2 | exact hr.next1 h2 | exact hr.next2 h2
      replace hr' := by first | exact hr'.next h2 | exact hr'.next1 h2 | exact hr'.next2 h2
      replace m0 := by first | exact m0.next h2 | exact m0.next1 h2 | exact m0.next2 h2
      replace m3 := by first | exact m3.next h2 | exact m3.next1 h2 | exact m3.next2 h2
      replace hb := by first | exact below_next hb h2 | exact below_next1 hb h2 | exact below_next2 hb h2
      clear h2
      go_wp2_with fail
      refine (markStringS_mine _ _ _ _ _ _ _ m3 (by omega) (by omega)).mono ?_
      rintro e w2 ⟨rfl, m4, hg⟩
      replace hr := hr.turned hg (fun hn g e b off e2 => by have := (m3.blk e).1; have := q1.out hn b off e2; omega)
      replace hr' := hr'.turned hg (fun hn g e b off e2 => by have := (m3.blk e).1; have := q2.out hn b off e2; omega)
      replace m0 := m0.grown hg (fun g e => .inr (fun h => by have := (m3.blk e).1; have := q0.out _ h; omega))
      replace hb := below_turned hb hg (fun g e => by have := (m3.blk e).1; omega)
      clear hg m3
      go_wp2_with fail
      refine (heldStringS_any _ _ _ _ _ m4.rd (by omega) (by omega)).mono ?_
      rintro e w2 ⟨rfl, h2⟩
      replace hr := by first | exact hr.next h2 | exact hr.next1 h2 | exact hr.next2 h2
      replace hr' := by first | exact hr'.next h2 | exact hr'.next1 h2 | exact hr'.next2 h2
      replace m0 := by first | exact m0.next h2 | exact m0.next1 h2 | exact m0.next2 h2
      replace m4 := by first | exact m4.next h2 | exact m4.next1 h2 | exact m4.next2 h2
      replace hb := by first | exact below_next hb h2 | exact below_next1 hb h2 | exact below_next2 hb h2
      clear h2
      go_wp2_with fail
      refine (toDocS_o _ _ _ _ _ g1 HL hr).mono ?_
      rintro e w2 ⟨g1x, rfl, o1, hg1, h2⟩
      replace hr := by first | exact hr.next h2 | exact hr.next1 h2 | exact hr.next2 h2
      replace hr' := by first | exact hr'.next h2 | exact hr'.next1 h2 | exact hr'.next2 h2
      replace m0 := by first | exact m0.next h2 | exact m0.next1 h2 | exact m0.next2 h2
      replace m4 := by first | exact m4.next h2 | exact m4.next1 h2 | exact m4.next2 h2
      replace hb := by first | exact below_next hb h2 | exact below_next1 hb h2 | exact below_next2 hb h2
      clear h2
      clear hg1
      go_wp2_with fail
      refine (toDocS_o _ _ _ _ _ g3 HL' hr').mono ?_
      rintro e w2 ⟨g2x, rfl, o2, hg2, h2⟩
      replace m0 := by first | exact m0.next h2 | exact m0.next1 h2 | exact m0.next2 h2
      replace m4 := by first | exact m4.next h2 | exact m4.next1 h2 | exact m4.next2 h2
      replace o1 := by first | exact o1.next h2 | exact o1.next1 h2 | exact o1.next2 h2
      replace hb := by first | exact below_next hb h2 | exact below_next1 hb h2 | exact below_next2 hb h2
      clear h2
      clear hg2
      go_wp2_with fail
      refine (HI.out _ _ _ _ _ (docs_rd o1 HL) (docs_rd o2 HL')).mono ?_
      rintro e w2 ⟨A5, c5, rfl, m5, h2⟩
      replace m0 := by first | exact m0.next h2 | exact m0.next1 h2 | exact m0.next2 h2
      replace m4 := by first | exact m4.next h2 | exact m4.next1 h2 | exact m4.next2 h2
      replace hb := by first | exact below_next hb h2 | exact below_next1 hb h2 | exact below_next2 hb h2
      clear h2
      go_wp2_with fail
      refine (eqStringS_same _ _ _ _ _ ss _ (by omega) rfl m5.rd m0.rd).mono ?_
      rintro e w2 ⟨rfl, h2⟩
      replace m4 := by first | exact m4.next h2 | exact m4.next1 h2 | exact m4.next2 h2
      replace hb := by first | exact below_next hb h2 | exact below_next1 hb h2 | exact below_next2 hb h2
      clear h2
      go_wp2_with fail
      refine (heldStringS_any _ _ _ _ _ m4.rd (by omega) (by omega)).mono ?_
      rintro e w2 ⟨rfl, h2⟩
      replace hb := by first | exact below_next hb h2 | exact below_next1 hb h2 | exact below_next2 hb h2
      clear h2
      go_wp2
      go_ret
      exact ⟨rfl, (by repeat' (first | (with_reducible exact Below.refl _ _) | (with_reducible assumption) | (with_reducible refine below_drewN ?_ _) | (with_reducible refine Below.drew ?_) | (with_reducible refine Below.alloc ?_ ?_ _) | (with_reducible refine Below.setCell ?_ ?_ _) | go_size))⟩
end Go.Proofs.Ytfapdhfjcnehhaa

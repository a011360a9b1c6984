
/-
  Contracts: what is drawn for the reports (spec.DrawPiece, DrawShowPiece, l08Pair, DrawShowValues, DrawShowState).
-/
import Derived.Test.YtfapdhfjcnehhaaDoorValsP
import Derived.Deep.RegionHeld3
namespace Go.Proofs.YtfapdhfjcnehhaaDoor
open Go.RowKit
set_option linter.unusedVariables false

/-- A piece of the call's own: its slices read as lists, which are short; right, where 'good'. -/
def PieceE (good : Bool) (w : World) (e : Ending) (w' : World) : Prop :=
  ∃ (m : Int) (A0 : Option Addr) (n0 c0 : Nat) (l0 : List RuleD) (A1 : Option Addr) (n1 c1 : Nat) (l1 : List ChunkD) (A2 : Option Addr) (n2 c2 : Nat) (l2 : List SpanD) (A3 : Option Addr) (n3 c3 : Nat) (l3 : List TieD),
    e = .returned (.agg #[.int .i64 m, .slice A0 n0 c0, .slice A1 n1 c1, .slice A2 n2 c2, .slice A3 n3 c3]) ∧ RdP w' A0 n0 l0 A1 n1 l1 A2 n2 l2 A3 n3 l3 ∧ LenP n0 l0 n1 l1 n2 l2 n3 l3 ∧ (n0 ≤ 100 ∧ n1 ≤ 100 ∧ n2 ≤ 100 ∧ n3 ≤ 100) ∧
    (∀ d ∈ l1, d.1.size ≤ 20) ∧ (good = true → pieceB m l0 l1 l2 l3 = true) ∧ Below w.heap.size w w'
theorem right_short {m : Int} {l0 : List RuleD} {l1 : List ChunkD} {l2 : List SpanD} {l3 : List TieD} {n0 n1 n2 n3 : Nat} (h : pieceB m l0 l1 l2 l3 = true) (hl : LenP n0 l0 n1 l1 n2 l2 n3 l3) : n0 ≤ 100 ∧ n1 ≤ 100 ∧ n2 ≤ 100 ∧ n3 ≤ 100 := by
  have R := right_of h hl
  have h0 := R.b0
  have h1 := R.b1
  have h2 := R.b2
  have h3 := R.b3
  omega
section
variable {w : World} {B q : Nat} {A0 : Option Addr} {n0 : Nat} {l0 : List RuleD} {A1 : Option Addr} {n1 : Nat} {l1 : List ChunkD} {A2 : Option Addr} {n2 : Nat} {l2 : List SpanD} {A3 : Option Addr} {n3 : Nat} {l3 : List TieD}
theorem RdP.far5 (h : RdP w A0 n0 l0 A1 n1 l1 A2 n2 l2 A3 n3 l3) (hf : FarP B A0 A1 A2 A3) (hq : q < B) (o0 o1 o2 o3 o4 : Nat) (u0 u1 u2 u3 u4 : Value) :
    RdP (((((w.setCell ⟨q, o0, none⟩ u0).setCell ⟨q, o1, none⟩ u1).setCell ⟨q, o2, none⟩ u2).setCell ⟨q, o3, none⟩ u3).setCell ⟨q, o4, none⟩ u4) A0 n0 l0 A1 n1 l1 A2 n2 l2 A3 n3 l3 :=
  ((((h.far hf hq u0).far hf hq u1).far hf hq u2).far hf hq u3).far hf hq u4
end
set_option maxRecDepth 100000 in
set_option maxHeartbeats 1600000 in
theorem DrawPiece_any (A : Option Addr) (n c : Nat) (l : List Int) (w : World) (hn : n ≤ 1048576) (hl : Hid (l.length = n)) (HL : Hid (∀ x ∈ l, 0 ≤ x ∧ x ≤ 255)) (hr : Rd w 1 A n (u8cells l)) :
    Calls Tryd.prog 27 #[.slice A n c] w (PieceE true w) := by
  go_enter Tryd.func27, Tryd.ntmps27
  go_wp2_with fail
  refine (l01NewX A n c l _ hn hl.out HL.out (hr.alloc _)).mono ?_
  rintro e w2 ⟨g, rfl, hge, hcur, hb⟩
  have K2 := (Blk.new w 52 #[.int .i64 0, .slice none 0 0, .slice none 0 0, .slice none 0 0, .slice none 0 0]).next hb
  have hbw := below_next1 (Below.refl w.heap.size w) hb
  have hA := fun h0 => ((hr.alloc _).next hb).lt h0
  have hsz2 := hb.size
  rw [World.size_alloc] at hge hsz2
  clear hb
  go_wp2_with fail
  refine (l08Piece_any g A n c l _ HL hcur hA).mono ?_
  rintro e w3 ⟨m, A0, n0, c0, l0, A1, n1, c1, l1, A2, n2, c2, l2, A3, n3, c3, l3, rfl, hr3, hfar, hlen, hok, h1, hsz, hcur3, hg⟩
  have HE := Lib.hid (And.intro hlen (And.intro (right_short hok hlen) (And.intro hsz hok)))
  clear hok h1 hsz hlen hcur3 hcur hA
  have K3 := K2.turned hg (fun q e => by injection e with e; omega)
  have hb3 := below_of_grown hbw hg (by omega)
  clear hbw hg K2
  have z0 : w3.cell? ⟨w.heap.size, 0, none⟩ = some (.int .i64 0) := K3.cell 0
  have z1 : w3.cell? ⟨w.heap.size, 1, none⟩ = some (.slice none 0 0) := K3.cell 1
  have z2 : w3.cell? ⟨w.heap.size, 2, none⟩ = some (.slice none 0 0) := K3.cell 2
  have z3 : w3.cell? ⟨w.heap.size, 3, none⟩ = some (.slice none 0 0) := K3.cell 3
  have z4 : w3.cell? ⟨w.heap.size, 4, none⟩ = some (.slice none 0 0) := K3.cell 4
  have zf := K3.frozen
  have zl := K3.lt
  go_wp2_with fail
  refine bodyPost_ret (by simp [results, Tryd.results27, go_sem, z0, z1, z2, z3, z4]; try rfl) rfl ?_
  exact ⟨m, A0, n0, c0, l0, A1, n1, c1, l1, A2, n2, c2, l2, A3, n3, c3, l3, rfl, hr3.far5 hfar (by omega) _ _ _ _ _ _ _ _ _ _, HE.out.1, HE.out.2.1, HE.out.2.2.1, fun _ => HE.out.2.2.2, (by repeat' (first | (with_reducible exact Below.refl _ _) | (with_reducible assumption) | (with_reducible refine below_drewN ?_ _) | (with_reducible refine Below.drew ?_) | (with_reducible refine Below.alloc ?_ ?_ _) | (with_reducible refine Below.setCell ?_ ?_ _) | go_size))⟩
set_option maxRecDepth 100000 in
set_option maxHeartbeats 1600000 in
theorem DrawShowPiece_any (A : Option Addr) (n c : Nat) (l : List Int) (w : World) (hn : n ≤ 1048576) (hl : Hid (l.length = n)) (HL : Hid (∀ x ∈ l, 0 ≤ x ∧ x ≤ 255)) (hr : Rd w 1 A n (u8cells l)) :
    Calls Tryd.prog 30 #[.slice A n c] w (PieceE false w) := by
  go_enter Tryd.func30, Tryd.ntmps30
  go_wp2_with fail
  refine (l01NewX A n c l _ hn hl.out HL.out (hr.alloc _)).mono ?_
  rintro e w2 ⟨g, rfl, hge, hcur, hb⟩
  have K2 := (Blk.new w 52 #[.int .i64 0, .slice none 0 0, .slice none 0 0, .slice none 0 0, .slice none 0 0]).next hb
  have hbw := below_next1 (Below.refl w.heap.size w) hb
  have hA := fun h0 => ((hr.alloc _).next hb).lt h0
  have hsz2 := hb.size
  rw [World.size_alloc] at hge hsz2
  clear hb
  go_wp2_with fail
  refine (l08Any_any g A n c l _ HL hcur hA).mono ?_
  rintro e w3 ⟨m, A0, n0, c0, l0, A1, n1, c1, l1, A2, n2, c2, l2, A3, n3, c3, l3, rfl, hr3, hfar, hlen, hns, hrv, hsz, hcur3, hg⟩
  have HE := Lib.hid (And.intro hlen (And.intro hns (And.intro hsz (fun (h : false = true) => (nomatch h : pieceB m l0 l1 l2 l3 = true)))))
  clear hns hrv hsz hlen hcur3 hcur hA
  have K3 := K2.turned hg (fun q e => by injection e with e; omega)
  have hb3 := below_of_grown hbw hg (by omega)
  clear hbw hg K2
  have z0 : w3.cell? ⟨w.heap.size, 0, none⟩ = some (.int .i64 0) := K3.cell 0
  have z1 : w3.cell? ⟨w.heap.size, 1, none⟩ = some (.slice none 0 0) := K3.cell 1
  have z2 : w3.cell? ⟨w.heap.size, 2, none⟩ = some (.slice none 0 0) := K3.cell 2
  have z3 : w3.cell? ⟨w.heap.size, 3, none⟩ = some (.slice none 0 0) := K3.cell 3
  have z4 : w3.cell? ⟨w.heap.size, 4, none⟩ = some (.slice none 0 0) := K3.cell 4
  have zf := K3.frozen
  have zl := K3.lt
  go_wp2_with fail
  refine bodyPost_ret (by simp [results, Tryd.results30, go_sem, z0, z1, z2, z3, z4]; try rfl) rfl ?_
  exact ⟨m, A0, n0, c0, l0, A1, n1, c1, l1, A2, n2, c2, l2, A3, n3, c3, l3, rfl, hr3.far5 hfar (by omega) _ _ _ _ _ _ _ _ _ _, HE.out.1, HE.out.2.1, HE.out.2.2.1, HE.out.2.2.2, (by repeat' (first | (with_reducible exact Below.refl _ _) | (with_reducible assumption) | (with_reducible refine below_drewN ?_ _) | (with_reducible refine Below.drew ?_) | (with_reducible refine Below.alloc ?_ ?_ _) | (with_reducible refine Below.setCell ?_ ?_ _) | go_size))⟩
set_option maxHeartbeats 800000 in
theorem DrawShowState_any (A : Option Addr) (n c : Nat) (l : List Int) (w : World) (hn : n ≤ 1048576) (hl : Hid (l.length = n)) (HL : Hid (∀ x ∈ l, 0 ≤ x ∧ x ≤ 255)) (hr : Rd w 1 A n (u8cells l)) :
    Calls Tryd.prog 32 #[.slice A n c] w fun e w' => ∃ x : Int, e = .returned (.int .i64 x) ∧ -1 ≤ x ∧ x ≤ 3 ∧ Below w.heap.size w w' := by
  go_enter Tryd.func32, Tryd.ntmps32
  go_wp2_with fail
  refine (l01NewX A n c l _ hn hl.out HL.out hr).mono ?_
  rintro e w2 ⟨g, rfl, hge, hcur, hb⟩
  go_wp2_with fail
  refine (l01BelowX g A n c l 5 _ HL.out hcur (by omega) (by omega)).mono ?_
  rintro e w3 ⟨x, rfl, hx0, hx1, hc, hg⟩
  have hb3 := below_of_grown hb hg hge
  clear hb hcur hc hg
  go_wp2
  go_ret
  exact ⟨_, rfl, by omega, by omega, hb3⟩
end Go.Proofs.YtfapdhfjcnehhaaDoor

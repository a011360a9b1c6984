
/-
  Contracts: a piece and values for it (spec.l08Pair, DrawShowValues).
-/
import Derived.Test.YtfapdhfjcnehhaaDoorDrawR
namespace Go.Proofs.YtfapdhfjcnehhaaDoor
open Go.RowKit
set_option linter.unusedVariables false

/-- A piece, and values of the call's own. -/
def PairX (w : World) (e : Ending) (w' : World) : Prop :=
  ∃ (m : Int) (A0 : Option Addr) (n0 c0 : Nat) (A1 : Option Addr) (n1 c1 : Nat) (A2 : Option Addr) (n2 c2 : Nat) (A3 : Option Addr) (n3 c3 : Nat) (A' : Option Addr) (n' c' : Nat) (xs : List Int),
    e = .returned (.tuple #[.agg #[.int .i64 m, .slice A0 n0 c0, .slice A1 n1 c1, .slice A2 n2 c2, .slice A3 n3 c3], .slice A' n' c']) ∧ Rd w' 1 A' n' (intCells xs) ∧ xs.length = n' ∧ n' ≤ 200 ∧ (∀ x ∈ xs, IntB x) ∧ Below w.heap.size w w'
/-- Five cells of one block are written. -/
def put5 (w : World) (q : Nat) (u0 u1 u2 u3 u4 : Value) : World := ((((w.setCell ⟨q, 0, none⟩ u0).setCell ⟨q, 1, none⟩ u1).setCell ⟨q, 2, none⟩ u2).setCell ⟨q, 3, none⟩ u3).setCell ⟨q, 4, none⟩ u4
section
variable {w : World} {q : Nat} {u0 u1 u2 u3 u4 : Value}
theorem grown_put5 : w.grownBy (put5 w q u0 u1 u2 u3 u4) (some q) := by
  have hp : ∀ o : Nat, ∀ r, some (⟨q, o, none⟩ : Addr).block = some r → q = r := fun o r e => by injection e with e
  exact grownBy_trans (grownBy_trans (grownBy_trans (grownBy_trans (grown_one w ⟨q, 0, none⟩ u0) (grown_one _ ⟨q, 1, none⟩ u1)) (grown_one _ ⟨q, 2, none⟩ u2)) (grown_one _ ⟨q, 3, none⟩ u3)) (grown_one _ ⟨q, 4, none⟩ u4)
theorem size_put5 : (put5 w q u0 u1 u2 u3 u4).heap.size = w.heap.size := by simp [put5]
theorem Blk.cells5 {g : Nat} {t : TypeId} (h : Blk w g t #[u0, u1, u2, u3, u4]) : w.cell? ⟨g, 0, none⟩ = some u0 ∧ w.cell? ⟨g, 1, none⟩ = some u1 ∧ w.cell? ⟨g, 2, none⟩ = some u2 ∧ w.cell? ⟨g, 3, none⟩ = some u3 ∧ w.cell? ⟨g, 4, none⟩ = some u4 :=
  ⟨h.cell 0, h.cell 1, h.cell 2, h.cell 3, h.cell 4⟩
theorem Blk.put5 {t : TypeId} {a0 a1 a2 a3 a4 : Value} (h : Blk w q t #[a0, a1, a2, a3, a4]) : Blk (put5 w q u0 u1 u2 u3 u4) q t #[u0, u1, u2, u3, u4] := by
  have h5 := ((((h.set_ 0 u0).set_ 1 u1).set_ 2 u2).set_ 3 u3).set_ 4 u4
  exact h5
theorem CurX.put5 {g n c : Nat} {A : Option Addr} {l : List Int} (h : CurX w g A n c l) (h1 : q ≠ g) (h2 : 0 < n → ∀ b off, A = some ⟨b, off, none⟩ → b ≠ q) : CurX (put5 w q u0 u1 u2 u3 u4) g A n c l :=
  ((((h.far (p := ⟨q, 0, none⟩) ⟨h1, h2⟩ u0).far (p := ⟨q, 1, none⟩) ⟨h1, h2⟩ u1).far (p := ⟨q, 2, none⟩) ⟨h1, h2⟩ u2).far (p := ⟨q, 3, none⟩) ⟨h1, h2⟩ u3).far (p := ⟨q, 4, none⟩) ⟨h1, h2⟩ u4
end
set_option maxRecDepth 100000 in
set_option maxHeartbeats 1600000 in
theorem l08Pair_any (A : Option Addr) (n c : Nat) (l : List Int) (w : World) (hn : n ≤ 1048576) (hl : Hid (l.length = n)) (HL : Hid (∀ x ∈ l, 0 ≤ x ∧ x ≤ 255)) (hr : Rd w 1 A n (u8cells l)) :
    Calls Tryd.prog 61 #[.slice A n c] w (PairX w) := by
  go_enter Tryd.func61, Tryd.ntmps61
  go_wp2_with fail
  refine (l01NewX A n c l _ hn hl.out HL.out (hr.alloc _)).mono ?_
  rintro e w2 ⟨g, rfl, hge, hcur, hb⟩
  have K2 := (Blk.new w 52 #[.int .i64 0, .slice none 0 0, .slice none 0 0, .slice none 0 0, .slice none 0 0]).next hb
  have hbw := below_next1 (Below.refl w.heap.size w) hb
  have hA := fun h0 => ((hr.alloc _).next hb).lt h0
  have hAw := fun h0 => hr.lt h0
  have hsz2 := hb.size
  rw [World.size_alloc] at hge hsz2
  clear hb
  go_wp2_with fail
  refine (l08Any_any g A n c l _ HL hcur hA).mono ?_
  rintro e w3 ⟨m, A0, n0, c0, l0, A1, n1, c1, l1, A2, n2, c2, l2, A3, n3, c3, l3, rfl, hr3, hfar, hlen, hns, hrv, hsz, hcur3, hg⟩
  have K3 := K2.turned hg (fun q e => by injection e with e; omega)
  have hb3 := below_of_grown hbw hg (by omega)
  have hsz3 := hg.size
  have hgl := hcur.lt
  have HRV := Lib.hid hrv
  have HLN := Lib.hid hlen
  have hne : ∀ b off, A0 = some ⟨b, off, none⟩ → b ≠ g := fun b off e => by have := hfar.1 b off e; omega
  have hn0 := hns.1
  clear hrv hsz hlen hns hcur hA hg hbw K2
  obtain ⟨w4, hw5⟩ : ∃ w4, w4 = w3.alloc (.cells #[.int .i64 m, .slice A0 n0 c0, .slice A1 n1 c1, .slice A2 n2 c2, .slice A3 n3 c3] 52) := ⟨_, rfl⟩
  have V5 : Blk w4.drew w3.heap.size 52 #[.int .i64 m, .slice A0 n0 c0, .slice A1 n1 c1, .slice A2 n2 c2, .slice A3 n3 c3] := by rw [hw5]; exact (Blk.new w3 _ _).drew
  have K5 : Blk w4.drew w.heap.size 52 #[.int .i64 0, .slice none 0 0, .slice none 0 0, .slice none 0 0, .slice none 0 0] := by rw [hw5]; exact (K3.alloc _).drew
  have C5 : CurX w4.drew g A n c l := by rw [hw5]; exact (hcur3.alloc _).drew
  have B5 : Below w.heap.size w w4.drew := by rw [hw5]; exact (hb3.alloc hb3.size _).drew
  have R5 : RdP w4.drew A0 n0 l0 A1 n1 l1 A2 n2 l2 A3 n3 l3 := by rw [hw5]; exact (hr3.alloc _)
  have hs5 : w4.drew.heap.size = w3.heap.size + 1 := by show w4.heap.size = _; rw [hw5, World.size_alloc]
  have hA5 : 0 < n → ∀ b off, A = some ⟨b, off, none⟩ → b < w4.drew.heap.size := fun h0 b off e => by have := hAw h0 b off e; omega
  have v5 := V5.cells5
  have hgne : ∀ q, some g = some q → w3.heap.size ≠ q := fun q e => by injection e with e; omega
  have hgw : w.heap.size ≤ g := by omega
  have hgn2 : ∀ q, some g = some q → w.heap.size ≠ q := fun q e => by injection e with e; omega
  have hq : ∀ o : Nat, w3.heap.size ≠ (⟨w.heap.size, o, none⟩ : Addr).block := fun o => by dsimp only; omega
  go_upto_region 3 with fail
  rw [← hw5]
  clear hw5 hb3 K3 hr3 hcur3
  go_region_held3 (fun w' => w'.cell? ⟨w3.heap.size, 0, none⟩ = some (.int .i64 m) ∧ w'.cell? ⟨w3.heap.size, 1, none⟩ = some (.slice A0 n0 c0) ∧ w'.cell? ⟨w3.heap.size, 2, none⟩ = some (.slice A1 n1 c1) ∧ w'.cell? ⟨w3.heap.size, 3, none⟩ = some (.slice A2 n2 c2) ∧ w'.cell? ⟨w3.heap.size, 4, none⟩ = some (.slice A3 n3 c3))
      (first | (with_reducible exact v5) | (with_reducible exact v8) | exact (((((V8.far (hq 0) _).far (hq 1) _).far (hq 2) _).far (hq 3) _).far (hq 4) _).cells5)
      ((go_at_call 95
        refine (l08Values_any m A0 n0 c0 l0 A1 n1 c1 l1 A2 n2 c2 l2 A3 n3 c3 l3 g A n c l _ HLN R5 hn0 HRV hne HL C5 hA5).mono ?_
        rintro e w8 ⟨A', n', c', xs, rfl, hrx, hfx, hxl, hxn, hxb, hg8⟩
        have V8 : Blk w8 w3.heap.size 52 #[.int .i64 m, .slice A0 n0 c0, .slice A1 n1 c1, .slice A2 n2 c2, .slice A3 n3 c3] := V5.turned hg8 hgne
        have B8 : Below w.heap.size w w8 := below_of_grown B5 hg8 hgw
        have v8 := V8.cells5
        have K8 := K5.turned hg8 hgn2
        have z0 : w8.cell? ⟨w.heap.size, 0, none⟩ = some (.int .i64 0) := K8.cell 0
        have z1 : w8.cell? ⟨w.heap.size, 1, none⟩ = some (.slice none 0 0) := K8.cell 1
        have z2 : w8.cell? ⟨w.heap.size, 2, none⟩ = some (.slice none 0 0) := K8.cell 2
        have z3 : w8.cell? ⟨w.heap.size, 3, none⟩ = some (.slice none 0 0) := K8.cell 3
        have z4 : w8.cell? ⟨w.heap.size, 4, none⟩ = some (.slice none 0 0) := K8.cell 4
        have zf := K8.frozen
        have zl := K8.lt))
  have hrx2 : Rd (put5 w8 w.heap.size (.int .i64 m) (.slice A0 n0 c0) (.slice A1 n1 c1) (.slice A2 n2 c2) (.slice A3 n3 c3)) 1 A' n' (intCells xs) := hrx.turned grown_put5 (fun _ q e b off e2 => by injection e with e; have := hfx b off e2; omega)
  have B8s : Below w.heap.size w (put5 w8 w.heap.size (.int .i64 m) (.slice A0 n0 c0) (.slice A1 n1 c1) (.slice A2 n2 c2) (.slice A3 n3 c3)) := below_of_grown B8 grown_put5 (Nat.le_refl _)
  unfold put5 at hrx2 B8s
  go_wp2_with fail
  refine bodyPost_ret (by simp [results, Tryd.results61, go_sem, z0, z1, z2, z3, z4]; try rfl) rfl ?_
  exact ⟨m, A0, n0, c0, A1, n1, c1, A2, n2, c2, A3, n3, c3, A', n', c', xs, rfl, hrx2, hxl, hxn, hxb, B8s⟩
set_option maxHeartbeats 800000 in
theorem DrawShowValues_any (A : Option Addr) (n c : Nat) (l : List Int) (w : World) (hn : n ≤ 1048576) (hl : Hid (l.length = n)) (HL : Hid (∀ x ∈ l, 0 ≤ x ∧ x ≤ 255)) (hr : Rd w 1 A n (u8cells l)) :
    Calls Tryd.prog 31 #[.slice A n c] w fun e w' => ∃ (A' : Option Addr) (n' c' : Nat) (xs : List Int), e = .returned (.slice A' n' c') ∧ Rd w' 1 A' n' (intCells xs) ∧ xs.length = n' ∧ n' ≤ 200 ∧ (∀ x ∈ xs, IntB x) ∧ Below w.heap.size w w' := by
  go_enter Tryd.func31, Tryd.ntmps31
  go_wp2_with fail
  refine (l08Pair_any A n c l _ hn hl HL hr).mono ?_
  rintro e w2 ⟨m, A0, n0, c0, A1, n1, c1, A2, n2, c2, A3, n3, c3, A', n', c', xs, rfl, hrx, hxl, hxn, hxb, hb⟩
  go_wp2
  go_ret
  exact ⟨A', n', c', xs, rfl, hrx.alloc _, hxl, hxn, hxb, hb.alloc hb.size _⟩
end Go.Proofs.YtfapdhfjcnehhaaDoor

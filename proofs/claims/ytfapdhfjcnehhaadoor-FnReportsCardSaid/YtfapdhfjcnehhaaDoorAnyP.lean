
/-
  Contracts: any piece is drawn (spec.l08Any).
-/
import Derived.Test.YtfapdhfjcnehhaaDoorDrawQ
import Derived.Test.YtfapdhfjcnehhaaDoorCopyP
import Derived.Test.YtfapdhfjcnehhaaDoorMarkP
import Derived.Test.YtfapdhfjcnehhaaDoorShowQ
namespace Go.Proofs.YtfapdhfjcnehhaaDoor
open Go.RowKit
set_option linter.unusedVariables false

theorem flat_set {α : Type} (f : α → List Value) {size : Nat} (hf : ∀ d, (f d).length = size) {u : Value} {d d' : α} {j : Nat} (hj : j < size) (hd' : f d' = (f d).set j u) :
    ∀ (l : List α) (k : Nat), l[k]? = some d → (l.flatMap f).set (k * size + j) u = (l.set k d').flatMap f := by
  intro l
  induction l with
  | nil => intro k h; simp at h
  | cons x l ih =>
    intro k h
    cases k with
    | zero =>
      simp at h; subst h
      simp only [List.flatMap_cons, Nat.zero_mul, Nat.zero_add, List.set_cons_zero]
      rw [List.set_append_left _ _ (by rw [hf]; exact hj), hd']
    | succ k =>
      simp at h
      simp only [List.flatMap_cons, List.set_cons_succ]
      rw [List.set_append_right _ _ (by rw [hf, Nat.add_mul]; omega), hf, show (k + 1) * size + j - size = k * size + j by rw [Nat.add_mul]; omega, ih k h]
theorem Mine.set_ {w : World} {B g s n c : Nat} {e : TypeId} {xs : List Value} (h : Mine w B e s (some ⟨g, 0, none⟩) n c xs) {i : Nat} (hi : i < n * s) (u : Value) : Mine (w.setCell ⟨g, i, none⟩ u) B e s (some ⟨g, 0, none⟩) n c (xs.set i u) := by
  have hl := h.len
  rcases h.own with ⟨h1, _⟩ | ⟨g', h1, hB, hn, hc, ho⟩
  · cases h1
  · injection h1 with h1; injection h1 with h1; subst h1
    exact Mine.mk_own (ho.set (by omega) u) (by rw [List.length_set]; exact hl) hB hn hc
theorem Mine.some_ {w : World} {B s n c : Nat} {e : TypeId} {A : Option Addr} {xs : List Value} (h : Mine w B e s A n c xs) (hn : 0 < n) : ∃ g, A = some ⟨g, 0, none⟩ ∧ B ≤ g ∧ ∃ cs, Blk w g e cs := by
  rcases h.own with ⟨_, h1, _⟩ | ⟨g, h1, hB, _, _, r, hb, _⟩
  · omega
  · exact ⟨g, h1, hB, _, hb⟩
section
variable {w0 w : World} {g n c gP : Nat} {A : Option Addr} {l : List Int} {m : Int} {A0 : Option Addr} {n0 c0 : Nat} {l0 : List RuleD} {A1 : Option Addr} {n1 c1 : Nat} {l1 : List ChunkD} {A2 : Option Addr} {n2 c2 : Nat} {l2 : List SpanD} {A3 : Option Addr} {n3 c3 : Nat} {l3 : List TieD}
theorem St.set0 {q k j : Nat} {d d' : RuleD} {u : Value} (h : St w0 w g A n c l gP m (some ⟨q, 0, none⟩) n0 c0 l0 A1 n1 c1 l1 A2 n2 c2 l2 A3 n3 c3 l3) (hl : l0.length = n0) (hd : l0[k]? = some d) (hj : j < 2) (hd' : ruleCells d' = (ruleCells d).set j u) : St w0 (w.setCell ⟨q, k * 2 + j, none⟩ u) g A n c l gP m (some ⟨q, 0, none⟩) n0 c0 (l0.set k d') A1 n1 c1 l1 A2 n2 c2 l2 A3 n3 c3 l3 := by
  obtain ⟨h1, h2, h3, h4, h5, h6, h7⟩ := h
  have hk : k < n0 := by rw [← hl]; exact (List.getElem?_eq_some_iff.1 hd).1
  obtain ⟨q', e, hq, cs, hb⟩ := h1.2.2.1.some_ (by omega)
  injection e with e; injection e with e; subst e
  have hkj : k * 2 + j < n0 * 2 := by
    have := Nat.mul_le_mul_right 2 (show k + 1 ≤ n0 by omega)
    rw [Nat.add_mul] at this
    omega
  have hset := h1.2.2.1.set_ (i := k * 2 + j) hkj u
  rw [flat_set ruleCells ruleCells_len hj hd' l0 k hd] at hset
  refine ⟨⟨h1.1.far (p := ⟨q, _, none⟩) (h1.2.2.1.ne_blk h1.1 (by decide) q (by rw [ownBlk]; rfl)) _, h1.2.1, hset, h1.2.2.2.1.far hb (by decide) _, h1.2.2.2.2.1.far hb (by decide) _, h1.2.2.2.2.2.far hb (by decide) _⟩, h2.far (p := ⟨q, _, none⟩) ⟨by dsimp only; omega, fun hn b off e => by have := h7 hn b off e; dsimp only; omega⟩ _, h3.far (p := ⟨q, _, none⟩) (h1.2.2.1.ne_blk h3 (by decide) q (by rw [ownBlk]; rfl)) _, grown_row h4 (grown_one _ _ _) (fun x e => by injection e with e; subst e; exact hq), h5, h6, h7⟩
theorem St.set1 {q k j : Nat} {d d' : ChunkD} {u : Value} (h : St w0 w g A n c l gP m A0 n0 c0 l0 (some ⟨q, 0, none⟩) n1 c1 l1 A2 n2 c2 l2 A3 n3 c3 l3) (hl : l1.length = n1) (hd : l1[k]? = some d) (hj : j < 5) (hd' : chunkCells d' = (chunkCells d).set j u) : St w0 (w.setCell ⟨q, k * 5 + j, none⟩ u) g A n c l gP m A0 n0 c0 l0 (some ⟨q, 0, none⟩) n1 c1 (l1.set k d') A2 n2 c2 l2 A3 n3 c3 l3 := by
  obtain ⟨h1, h2, h3, h4, h5, h6, h7⟩ := h
  have hk : k < n1 := by rw [← hl]; exact (List.getElem?_eq_some_iff.1 hd).1
  obtain ⟨q', e, hq, cs, hb⟩ := h1.2.2.2.1.some_ (by omega)
  injection e with e; injection e with e; subst e
  have hkj : k * 5 + j < n1 * 5 := by
    have := Nat.mul_le_mul_right 5 (show k + 1 ≤ n1 by omega)
    rw [Nat.add_mul] at this
    omega
  have hset := h1.2.2.2.1.set_ (i := k * 5 + j) hkj u
  rw [flat_set chunkCells chunkCells_len hj hd' l1 k hd] at hset
  refine ⟨⟨h1.1.far (p := ⟨q, _, none⟩) (h1.2.2.2.1.ne_blk h1.1 (by decide) q (by rw [ownBlk]; rfl)) _, h1.2.1, h1.2.2.1.far hb (by decide) _, hset, h1.2.2.2.2.1.far hb (by decide) _, h1.2.2.2.2.2.far hb (by decide) _⟩, h2.far (p := ⟨q, _, none⟩) ⟨by dsimp only; omega, fun hn b off e => by have := h7 hn b off e; dsimp only; omega⟩ _, h3.far (p := ⟨q, _, none⟩) (h1.2.2.2.1.ne_blk h3 (by decide) q (by rw [ownBlk]; rfl)) _, grown_row h4 (grown_one _ _ _) (fun x e => by injection e with e; subst e; exact hq), h5, h6, h7⟩
theorem St.set0' {m' : Int} (h : St w0 w g A n c l gP m A0 n0 c0 l0 A1 n1 c1 l1 A2 n2 c2 l2 A3 n3 c3 l3) : St w0 (w.setCell ⟨gP, 0, none⟩ (.int .i64 m')) g A n c l gP m' A0 n0 c0 l0 A1 n1 c1 l1 A2 n2 c2 l2 A3 n3 c3 l3 := by
  obtain ⟨h1, h2, h3, h4, h5, h6, h7⟩ := h
  refine ⟨⟨blk_put h1.1 rfl, h1.2.1, h1.2.2.1.far h1.1 (by decide) _, h1.2.2.2.1.far h1.1 (by decide) _, h1.2.2.2.2.1.far h1.1 (by decide) _, h1.2.2.2.2.2.far h1.1 (by decide) _⟩, h2.far (p := ⟨gP, 0, none⟩) ⟨by dsimp only; omega, fun hn b off e => by have := h7 hn b off e; dsimp only; omega⟩ _, h3.far (by dsimp only; omega) _, grown_row h4 (grown_one _ _ _) (fun x e => by injection e with e; subst e; dsimp only; omega), h5, h6, h7⟩
theorem St.rules {A0' : Option Addr} {n0' c0' : Nat} {l0' : List RuleD} (h : St w0 w g A n c l gP m A0 n0 c0 l0 A1 n1 c1 l1 A2 n2 c2 l2 A3 n3 c3 l3) (hM : Mine w w0.heap.size 92 2 A0' n0' c0' (l0'.flatMap ruleCells)) : St w0 (w.setCell ⟨gP, 1, none⟩ (.slice A0' n0' c0')) g A n c l gP m A0' n0' c0' l0' A1 n1 c1 l1 A2 n2 c2 l2 A3 n3 c3 l3 := by
  obtain ⟨h1, h2, h3, h4, h5, h6, h7⟩ := h
  refine ⟨⟨blk_put h1.1 rfl, h1.2.1, hM.far h1.1 (by decide) _, h1.2.2.2.1.far h1.1 (by decide) _, h1.2.2.2.2.1.far h1.1 (by decide) _, h1.2.2.2.2.2.far h1.1 (by decide) _⟩, h2.far (p := ⟨gP, 1, none⟩) ⟨by dsimp only; omega, fun hn b off e => by have := h7 hn b off e; dsimp only; omega⟩ _, h3.far (by dsimp only; omega) _, grown_row h4 (grown_one _ _ _) (fun x e => by injection e with e; subst e; dsimp only; omega), h5, h6, h7⟩
end
/-- A piece whose slices read as lists; the cursor is still one. -/
def PieceX (w : World) (g : Nat) (A : Option Addr) (n c : Nat) (l : List Int) (e : Ending) (w' : World) : Prop :=
  ∃ (m : Int) (A0 : Option Addr) (n0 c0 : Nat) (l0 : List RuleD) (A1 : Option Addr) (n1 c1 : Nat) (l1 : List ChunkD) (A2 : Option Addr) (n2 c2 : Nat) (l2 : List SpanD) (A3 : Option Addr) (n3 c3 : Nat) (l3 : List TieD),
    e = .returned (.agg #[.int .i64 m, .slice A0 n0 c0, .slice A1 n1 c1, .slice A2 n2 c2, .slice A3 n3 c3]) ∧ RdP w' A0 n0 l0 A1 n1 l1 A2 n2 l2 A3 n3 l3 ∧ FarP w.heap.size A0 A1 A2 A3 ∧ LenP n0 l0 n1 l1 n2 l2 n3 l3 ∧
    (n0 ≤ 100 ∧ n1 ≤ 100 ∧ n2 ≤ 100 ∧ n3 ≤ 100) ∧ (∀ d ∈ l0, d.1 ≤ 256) ∧ (∀ d ∈ l1, d.1.size ≤ 20) ∧ CurX w' g A n c l ∧ w.grownBy w' (some g)
theorem mem_set {α : Type} {p : α → Prop} {l : List α} {k : Nat} {d : α} (h : ∀ x ∈ l, p x) (hd : p d) : ∀ x ∈ l.set k d, p x := fun x hx => by
  rcases List.mem_or_eq_of_mem_set hx with h1 | h1
  · exact h x h1
  · rw [h1]; exact hd
def cells3 : Array Value := #[.int .i64 (-1), .int .i64 60, .int .i64 61]
set_option maxRecDepth 100000 in
set_option maxHeartbeats 6400000 in
theorem l08Any_any (g : Nat) (A : Option Addr) (n c : Nat) (l : List Int) (w : World) (HL : Hid (∀ x ∈ l, 0 ≤ x ∧ x ≤ 255)) (hcur : CurX w g A n c l) (hA : 0 < n → ∀ b off, A = some ⟨b, off, none⟩ → b < w.heap.size) :
    Calls Tryd.prog 60 #[.pointer (some ⟨g, 0, none⟩)] w (PieceX w g A n c l) := by
  have hgl := hcur.lt
  have HA := Lib.hid hA
  have HC := Lib.hid (hcur.alloc (.cells #[.int .i64 0, .slice none 0 0, .slice none 0 0, .slice none 0 0, .slice none 0 0] 52))
  clear hcur hA
  go_enter Tryd.func60, Tryd.ntmps60
  go_wp2_with fail
  refine (l01BelowX g A n c l 14 _ HL.out HC.out (by omega) (by omega)).mono ?_
  rintro e w2 ⟨kk, rfl, hk0, hk1, hc2, hg2⟩
  go_wp2_with fail
  refine (l01BelowX g A n c l 60 _ HL.out hc2 (by omega) (by omega)).mono ?_
  rintro e w3 ⟨yy, rfl, hy0, hy1, hc3, hg3⟩
  have hgr3 : w.grownBy w3 (some g) := grownBy_trans (grownBy_trans (grown_below (grown_refl w (some g)) (by repeat' (first | (with_reducible exact Below.refl _ _) | (with_reducible assumption) | (with_reducible refine below_drewN ?_ _) | (with_reducible refine Below.drew ?_) | (with_reducible refine Below.alloc ?_ ?_ _) | (with_reducible refine Below.setCell ?_ ?_ _) | go_size))) hg2) hg3
  go_wp2_with fail
  refine (l08Piece_any g A n c l _ HL hc3 (fun hn b off e => Nat.lt_of_lt_of_le (HA.out hn b off e) hgr3.size)).mono ?_
  rintro e w4 ⟨m, A0, n0, c0, l0, A1, n1, c1, l1, A2, n2, c2, l2, A3, n3, c3, l3, rfl, hr, hfar, hlen, hpb, hn0, hsz, hc4, hg4⟩
  have RG := right_of hpb hlen
  have hb0 := RG.b0
  have hb1 := RG.b1
  have hb2 := RG.b2
  have hb3 := RG.b3
  have HRv := Lib.hid (show ∀ d ∈ l0, d.1 ≤ 256 from fun d hd => by
    obtain ⟨i, hi⟩ := List.mem_iff_getElem?.1 hd
    have := (RG.r i d hi).1
    rw [pieceB_eq] at hpb
    simp only [Bool.and_eq_true, decide_eq_true_eq] at hpb
    have h5 := allIx_at hpb.2.2.2.2.2.1 hi
    unfold ruleB at h5
    have := inB_ge ((Bool.and_eq_true _ _).mp h5).1
    omega)
  have HSz := Lib.hid hsz
  have HLen := Lib.hid hlen
  have hgr4 : w.grownBy w4 (some g) := grownBy_trans hgr3 hg4
  go_wp2_with fail
  refine (l08Copy_any m A0 n0 c0 l0 A1 n1 c1 l1 A2 n2 c2 l2 A3 n3 c3 l3 _ HLen hr ⟨by omega, by omega, by omega, by omega⟩).mono ?_
  rintro e w5 ⟨B0, k0, B1, k1, B2, k2, B3, k3, rfl, ⟨M0, M1, M2, M3⟩, h5⟩
  obtain ⟨gP, hgP⟩ : ∃ gP, gP = w5.heap.size := ⟨_, rfl⟩
  have hgw : w.heap.size < gP := by
    have x1 := hg2.size
    have x2 := hg3.size
    have x3 := hg4.size
    have x4 := h5.size
    simp at x1
    omega
  have hge : w.heap.size ≤ w4.heap.size + 2 := by have := hgr4.size; omega
  have S : St w (w5.alloc (.cells #[.int .i64 m, .slice B0 n0 k0, .slice B1 n1 k1, .slice B2 n2 k2, .slice B3 n3 k3] 52)) g A n c l gP m B0 n0 k0 l0 B1 n1 k1 l1 B2 n2 k2 l2 B3 n3 k3 l3 := by
    have hkey : ∀ q, some g = some q → w.heap.size ≠ q := fun q e => by injection e with e; omega
    have K := ((((Blk.new w 52 #[.int .i64 0, .slice none 0 0, .slice none 0 0, .slice none 0 0, .slice none 0 0]).turned hg2 hkey).turned hg3 hkey).turned hg4 hkey).next h5
    exact ⟨⟨by rw [hgP]; exact Blk.new _ _ _, by omega, (M0.more hge).alloc _, (M1.more hge).alloc _, (M2.more hge).alloc _, (M3.more hge).alloc _⟩, (hc4.next h5).alloc _, K.alloc _, grown_below hgr4 ((below_next (Below.refl _ _) h5).alloc h5.size _), hgw, hgl, HA.out⟩
  obtain ⟨w6, hw6⟩ : ∃ w6, w6 = w5.alloc (.cells #[.int .i64 m, .slice B0 n0 k0, .slice B1 n1 k1, .slice B2 n2 k2, .slice B3 n3 k3] 52) := ⟨_, rfl⟩
  rw [← hw6] at S
  have HW6 := Lib.hid hw6
  have HG := Lib.hid hgP
  obtain ⟨Y, rfl⟩ : ∃ Y : Nat, yy = (Y : Int) := Int.eq_ofNat_of_zero_le hy0
  have hn1p : ¬ n1 = 0 := by omega
  obtain ⟨ix, hix⟩ : ∃ ix : Nat, (Y : Int) % (n1 : Int) = (ix : Int) := Int.eq_ofNat_of_zero_le (Int.emod_nonneg _ (by omega))
  have hixl : ix < n1 := by have := Int.emod_lt_of_pos (Y : Int) (show (0 : Int) < n1 by omega); omega
  have HIX := Lib.hid hix
  clear hw6 hgP hix hc2 hg2 hc3 hg3 hgr3 hr hfar hlen hpb hsz hc4 hg4 RG M0 M1 M2 M3 hgr4 hge HC h5
  have hL0 := Lib.hid HLen.out.1
  have hL1 := Lib.hid HLen.out.2.1
  have hL2 := Lib.hid HLen.out.2.2.1
  have hL3 := Lib.hid HLen.out.2.2.2
  go_upto_region 4 with fail
  have hw6 := HW6.out
  have hgP := HG.out
  rw [← hw6, ← hgP]
  clear hw6 hgP
  have hix := HIX.out
  have f0 : w6.cell? ⟨gP, 0, none⟩ = some (.int .i64 m) := S.1.1.cell 0
  have f1 : w6.cell? ⟨gP, 1, none⟩ = some (.slice B0 n0 k0) := S.1.1.cell 1
  have f2 : w6.cell? ⟨gP, 2, none⟩ = some (.slice B1 n1 k1) := S.1.1.cell 2
  have f3 : w6.cell? ⟨gP, 3, none⟩ = some (.slice B2 n2 k2) := S.1.1.cell 3
  have f4 : w6.cell? ⟨gP, 4, none⟩ = some (.slice B3 n3 k3) := S.1.1.cell 4
  have ff := S.1.1.frozen
  have fl := S.1.1.lt
  by_cases c0 : kk = 0
  · subst c0
    obtain ⟨j3, hj3⟩ : ∃ j3 : Nat, (Y : Int) % 3 = (j3 : Int) := Int.eq_ofNat_of_zero_le (by omega)
    have hj3l : j3 < 3 := by omega
    obtain ⟨v3, hv3⟩ : ∃ v3 : Int, cells3[j3]? = some (.int .i64 v3) := by
      match j3, hj3l with
      | 0, _ => exact ⟨_, rfl⟩
      | 1, _ => exact ⟨_, rfl⟩
      | 2, _ => exact ⟨_, rfl⟩
    have c3c : (w6.alloc (.cells #[.int .i64 (-1), .int .i64 60, .int .i64 61] 3)).cell? ⟨w6.heap.size, j3, none⟩ = some (.int .i64 v3) := ((Blk.new w6 3 cells3).cell j3).trans hv3
    have S2 := S.alloc (.cells #[.int .i64 (-1), .int .i64 60, .int .i64 61] 3)
    have S' := S2.set0' (m' := v3)
    go_upto_region 22 with fail
    rw [World.setCell_alloc_past (hn := fl)] at S'
    obtain ⟨wz, hwz⟩ : ∃ wz, wz = (w6.setCell ⟨gP, 0, none⟩ (.int .i64 v3)).alloc (.cells #[.int .i64 (-1), .int .i64 60, .int .i64 61] 3) := ⟨_, rfl⟩
    rw [← hwz] at S' ⊢
    clear hwz f0 f1 f2 f3 f4 ff fl hix hj3
    have e0 : wz.cell? ⟨gP, 0, none⟩ = some (.int .i64 v3) := S'.1.1.cell 0
    have e1 : wz.cell? ⟨gP, 1, none⟩ = some (.slice B0 n0 k0) := S'.1.1.cell 1
    have e2 : wz.cell? ⟨gP, 2, none⟩ = some (.slice B1 n1 k1) := S'.1.1.cell 2
    have e3 : wz.cell? ⟨gP, 3, none⟩ = some (.slice B2 n2 k2) := S'.1.1.cell 3
    have e4 : wz.cell? ⟨gP, 4, none⟩ = some (.slice B3 n3 k3) := S'.1.1.cell 4
    have z0 : wz.cell? ⟨w.heap.size, 0, none⟩ = some (.int .i64 0) := S'.2.2.1.cell 0
    have z1 : wz.cell? ⟨w.heap.size, 1, none⟩ = some (.slice none 0 0) := S'.2.2.1.cell 1
    have z2 : wz.cell? ⟨w.heap.size, 2, none⟩ = some (.slice none 0 0) := S'.2.2.1.cell 2
    have z3 : wz.cell? ⟨w.heap.size, 3, none⟩ = some (.slice none 0 0) := S'.2.2.1.cell 3
    have z4 : wz.cell? ⟨w.heap.size, 4, none⟩ = some (.slice none 0 0) := S'.2.2.1.cell 4
    have zf := S'.2.2.1.frozen
    have zl := S'.2.2.1.lt
    have kl := S'.1.1.lt
    go_wp2_with fail
    refine bodyPost_ret (by simp [results, Tryd.results60, go_sem, z0, z1, z2, z3, z4]; try rfl) rfl ?_
    have hK := S'.2.2.1
    have r0 := S'.1.2.2.1
    have r1 := S'.1.2.2.2.1
    have r2 := S'.1.2.2.2.2.1
    have r3 := S'.1.2.2.2.2.2
    have hcu := S'.2.1
    have hgr := S'.2.2.2.1
    have hA3 := S'.2.2.2.2.2.2
    refine ⟨v3, B0, n0, k0, l0, B1, n1, k1, l1, B2, n2, k2, l2, B3, n3, k3, l3, rfl, ⟨?_, ?_, ?_, ?_⟩, ⟨r0.addr, r1.addr, r2.addr, r3.addr⟩, ⟨hL0.out, hL1.out, hL2.out, hL3.out⟩, ⟨by omega, by omega, by omega, by omega⟩, HRv.out, HSz.out, ?_, ?_⟩
    · exact (((((r0.far hK (by decide) _).far (hK.set_ _ _) (by decide) _).far ((hK.set_ _ _).set_ _ _) (by decide) _).far (((hK.set_ _ _).set_ _ _).set_ _ _) (by decide) _).far ((((hK.set_ _ _).set_ _ _).set_ _ _).set_ _ _) (by decide) _).rd
    · exact (((((r1.far hK (by decide) _).far (hK.set_ _ _) (by decide) _).far ((hK.set_ _ _).set_ _ _) (by decide) _).far (((hK.set_ _ _).set_ _ _).set_ _ _) (by decide) _).far ((((hK.set_ _ _).set_ _ _).set_ _ _).set_ _ _) (by decide) _).rd
    · exact (((((r2.far hK (by decide) _).far (hK.set_ _ _) (by decide) _).far ((hK.set_ _ _).set_ _ _) (by decide) _).far (((hK.set_ _ _).set_ _ _).set_ _ _) (by decide) _).far ((((hK.set_ _ _).set_ _ _).set_ _ _).set_ _ _) (by decide) _).rd
    · exact (((((r3.far hK (by decide) _).far (hK.set_ _ _) (by decide) _).far ((hK.set_ _ _).set_ _ _) (by decide) _).far (((hK.set_ _ _).set_ _ _).set_ _ _) (by decide) _).far ((((hK.set_ _ _).set_ _ _).set_ _ _).set_ _ _) (by decide) _).rd
    · have hp : ∀ o : Nat, (⟨w.heap.size, o, none⟩ : Addr).block ≠ g ∧ (0 < n → ∀ b off, A = some ⟨b, off, none⟩ → b ≠ (⟨w.heap.size, o, none⟩ : Addr).block) := fun o => ⟨by dsimp only; omega, fun hn b off e => by have := hA3 hn b off e; dsimp only; omega⟩
      exact ((((hcu.far (hp 0) _).far (hp 1) _).far (hp 2) _).far (hp 3) _).far (hp 4) _
    · have hp : ∀ (o q : Nat), some (⟨w.heap.size, o, none⟩ : Addr).block = some q → w.heap.size ≤ q := fun o q e => by injection e with e; subst e; exact Nat.le_refl _
      exact grown_row (grown_row (grown_row (grown_row (grown_row hgr (grown_one _ _ _) (hp 0)) (grown_one _ _ _) (hp 1)) (grown_one _ _ _) (hp 2)) (grown_one _ _ _) (hp 3)) (grown_one _ _ _) (hp 4)
  by_cases c1 : kk = 1
  · subst c1
    obtain ⟨q, hq, _, _⟩ := S.1.2.2.1.some_ (by omega)
    subst hq
    obtain ⟨⟨x0, x1⟩, hd⟩ : ∃ d, l0[0]? = some d := ⟨_, List.getElem?_eq_getElem (by have := hL0.out; omega)⟩
    obtain ⟨b, off, e, hblt, y0, y1⟩ := rule_at S.1.2.2.1.rd (show 0 < n0 by omega) hd
    injection e with e; injection e with e1 e2; subst e1; subst e2
    have hy5 : (Y : Int) % 5 ≤ 256 := by omega
    have S' : St w (w6.setCell ⟨q, 0, none⟩ (.int .i64 ((Y : Int) % 5))) g A n c l gP m (some ⟨q, 0, none⟩) n0 k0 (l0.set 0 ((Y : Int) % 5, x1)) B1 n1 k1 l1 B2 n2 k2 l2 B3 n3 k3 l3 := S.set0 (k := 0) (j := 0) (d' := ((Y : Int) % 5, x1)) hL0.out hd (by omega) rfl
    have yf := (S.1.2.2.1.some_ (by omega)).choose_spec.2.2.choose_spec.frozen
    have yg : (S.1.2.2.1.some_ (by omega)).choose = q := by have h := (S.1.2.2.1.some_ (by omega)).choose_spec.1; injection h with h; injection h with h; exact h.symm
    rw [yg] at yf
    have i1 : (0 : Int) < (n0 : Int) := by omega
    have HLr := Lib.hid (show (l0.set 0 ((Y : Int) % 5, x1)).length = n0 by rw [List.length_set, hL0.out])
    have HRr := Lib.hid (mem_set (p := fun d : RuleD => d.1 ≤ 256) (k := 0) (d := ((Y : Int) % 5, x1)) HRv.out hy5)
    simp only [Nat.zero_mul, Nat.add_zero] at y0 y1
    clear yg hd
    go_upto_region 22 with fail
    obtain ⟨wz, hwz⟩ : ∃ wz, wz = w6.setCell ⟨q, 0, none⟩ (.int .i64 ((Y : Int) % 5)) := ⟨_, rfl⟩
    rw [← hwz] at S' ⊢
    clear hwz f0 f1 f2 f3 f4 ff fl hix y0 y1 yf
    have e0 : wz.cell? ⟨gP, 0, none⟩ = some (.int .i64 m) := S'.1.1.cell 0
    have e1 : wz.cell? ⟨gP, 1, none⟩ = some (.slice (some ⟨q, 0, none⟩) n0 k0) := S'.1.1.cell 1
    have e2 : wz.cell? ⟨gP, 2, none⟩ = some (.slice B1 n1 k1) := S'.1.1.cell 2
    have e3 : wz.cell? ⟨gP, 3, none⟩ = some (.slice B2 n2 k2) := S'.1.1.cell 3
    have e4 : wz.cell? ⟨gP, 4, none⟩ = some (.slice B3 n3 k3) := S'.1.1.cell 4
    have z0 : wz.cell? ⟨w.heap.size, 0, none⟩ = some (.int .i64 0) := S'.2.2.1.cell 0
    have z1 : wz.cell? ⟨w.heap.size, 1, none⟩ = some (.slice none 0 0) := S'.2.2.1.cell 1
    have z2 : wz.cell? ⟨w.heap.size, 2, none⟩ = some (.slice none 0 0) := S'.2.2.1.cell 2
    have z3 : wz.cell? ⟨w.heap.size, 3, none⟩ = some (.slice none 0 0) := S'.2.2.1.cell 3
    have z4 : wz.cell? ⟨w.heap.size, 4, none⟩ = some (.slice none 0 0) := S'.2.2.1.cell 4
    have zf := S'.2.2.1.frozen
    have zl := S'.2.2.1.lt
    have kl := S'.1.1.lt
    go_wp2_with fail
    refine bodyPost_ret (by simp [results, Tryd.results60, go_sem, z0, z1, z2, z3, z4]; try rfl) rfl ?_
    have hK := S'.2.2.1
    have r0 := S'.1.2.2.1
    have r1 := S'.1.2.2.2.1
    have r2 := S'.1.2.2.2.2.1
    have r3 := S'.1.2.2.2.2.2
    have hcu := S'.2.1
    have hgr := S'.2.2.2.1
    have hA3 := S'.2.2.2.2.2.2
    refine ⟨m, (some ⟨q, 0, none⟩), n0, k0, (l0.set 0 ((Y : Int) % 5, x1)), B1, n1, k1, l1, B2, n2, k2, l2, B3, n3, k3, l3, rfl, ⟨?_, ?_, ?_, ?_⟩, ⟨r0.addr, r1.addr, r2.addr, r3.addr⟩, ⟨HLr.out, hL1.out, hL2.out, hL3.out⟩, ⟨by omega, by omega, by omega, by omega⟩, HRr.out, HSz.out, ?_, ?_⟩
    · exact (((((r0.far hK (by decide) _).far (hK.set_ _ _) (by decide) _).far ((hK.set_ _ _).set_ _ _) (by decide) _).far (((hK.set_ _ _).set_ _ _).set_ _ _) (by decide) _).far ((((hK.set_ _ _).set_ _ _).set_ _ _).set_ _ _) (by decide) _).rd
    · exact (((((r1.far hK (by decide) _).far (hK.set_ _ _) (by decide) _).far ((hK.set_ _ _).set_ _ _) (by decide) _).far (((hK.set_ _ _).set_ _ _).set_ _ _) (by decide) _).far ((((hK.set_ _ _).set_ _ _).set_ _ _).set_ _ _) (by decide) _).rd
    · exact (((((r2.far hK (by decide) _).far (hK.set_ _ _) (by decide) _).far ((hK.set_ _ _).set_ _ _) (by decide) _).far (((hK.set_ _ _).set_ _ _).set_ _ _) (by decide) _).far ((((hK.set_ _ _).set_ _ _).set_ _ _).set_ _ _) (by decide) _).rd
    · exact (((((r3.far hK (by decide) _).far (hK.set_ _ _) (by decide) _).far ((hK.set_ _ _).set_ _ _) (by decide) _).far (((hK.set_ _ _).set_ _ _).set_ _ _) (by decide) _).far ((((hK.set_ _ _).set_ _ _).set_ _ _).set_ _ _) (by decide) _).rd
    · have hp : ∀ o : Nat, (⟨w.heap.size, o, none⟩ : Addr).block ≠ g ∧ (0 < n → ∀ b off, A = some ⟨b, off, none⟩ → b ≠ (⟨w.heap.size, o, none⟩ : Addr).block) := fun o => ⟨by dsimp only; omega, fun hn b off e => by have := hA3 hn b off e; dsimp only; omega⟩
      exact ((((hcu.far (hp 0) _).far (hp 1) _).far (hp 2) _).far (hp 3) _).far (hp 4) _
    · have hp : ∀ (o q : Nat), some (⟨w.heap.size, o, none⟩ : Addr).block = some q → w.heap.size ≤ q := fun o q e => by injection e with e; subst e; exact Nat.le_refl _
      exact grown_row (grown_row (grown_row (grown_row (grown_row hgr (grown_one _ _ _) (hp 0)) (grown_one _ _ _) (hp 1)) (grown_one _ _ _) (hp 2)) (grown_one _ _ _) (hp 3)) (grown_one _ _ _) (hp 4)
  by_cases c2 : kk = 2
  · subst c2
    obtain ⟨q, hq, _, cs, hqb⟩ := S.1.2.2.2.1.some_ (by omega)
    subst hq
    have yf := hqb.frozen
    obtain ⟨⟨x0, x1, x2, x3, x4⟩, hd⟩ : ∃ d, l1[ix]? = some d := ⟨_, List.getElem?_eq_getElem (by have := hL1.out; omega)⟩
    obtain ⟨b, off, e, hblt, y0, y1, y2, y3, y4⟩ := chunk_at S.1.2.2.2.1.rd hixl hd
    injection e with e; injection e with e1 e2; subst e1; subst e2
    have i0 : (0 : Int) ≤ (ix : Int) := by omega
    have i1 : (ix : Int) < (n1 : Int) := by omega
    have S' : St w (w6.setCell ⟨q, ix * 5, none⟩ (.string ⟨#[7]⟩)) g A n c l gP m B0 n0 k0 l0 (some ⟨q, 0, none⟩) n1 k1 (l1.set ix (⟨#[7]⟩, x1, x2, x3, x4)) B2 n2 k2 l2 B3 n3 k3 l3 := S.set1 (k := ix) (j := 0) (d' := (⟨#[7]⟩, x1, x2, x3, x4)) hL1.out hd (by omega) rfl
    have HLr := Lib.hid (show (l1.set ix (⟨#[7]⟩, x1, x2, x3, x4)).length = n1 by rw [List.length_set, hL1.out])
    have HSr := Lib.hid (mem_set (p := fun d : ChunkD => d.1.size ≤ 20) (k := ix) (d := (⟨#[7]⟩, x1, x2, x3, x4)) HSz.out (show (⟨#[7]⟩ : ByteArray).size ≤ 20 by decide))
    simp only [Nat.zero_add] at y0 y1 y2 y3 y4
    clear hd hqb
    go_upto_region 22 with fail
    obtain ⟨wz, hwz⟩ : ∃ wz, wz = w6.setCell ⟨q, ix * 5, none⟩ (.string ⟨#[7]⟩) := ⟨_, rfl⟩
    rw [← hwz] at S' ⊢
    clear hwz f0 f1 f2 f3 f4 ff fl hix y0 y1 y2 y3 y4 yf
    have e0 : wz.cell? ⟨gP, 0, none⟩ = some (.int .i64 m) := S'.1.1.cell 0
    have e1 : wz.cell? ⟨gP, 1, none⟩ = some (.slice B0 n0 k0) := S'.1.1.cell 1
    have e2 : wz.cell? ⟨gP, 2, none⟩ = some (.slice (some ⟨q, 0, none⟩) n1 k1) := S'.1.1.cell 2
    have e3 : wz.cell? ⟨gP, 3, none⟩ = some (.slice B2 n2 k2) := S'.1.1.cell 3
    have e4 : wz.cell? ⟨gP, 4, none⟩ = some (.slice B3 n3 k3) := S'.1.1.cell 4
    have z0 : wz.cell? ⟨w.heap.size, 0, none⟩ = some (.int .i64 0) := S'.2.2.1.cell 0
    have z1 : wz.cell? ⟨w.heap.size, 1, none⟩ = some (.slice none 0 0) := S'.2.2.1.cell 1
    have z2 : wz.cell? ⟨w.heap.size, 2, none⟩ = some (.slice none 0 0) := S'.2.2.1.cell 2
    have z3 : wz.cell? ⟨w.heap.size, 3, none⟩ = some (.slice none 0 0) := S'.2.2.1.cell 3
    have z4 : wz.cell? ⟨w.heap.size, 4, none⟩ = some (.slice none 0 0) := S'.2.2.1.cell 4
    have zf := S'.2.2.1.frozen
    have zl := S'.2.2.1.lt
    have kl := S'.1.1.lt
    go_wp2_with fail
    refine bodyPost_ret (by simp [results, Tryd.results60, go_sem, z0, z1, z2, z3, z4]; try rfl) rfl ?_
    have hK := S'.2.2.1
    have r0 := S'.1.2.2.1
    have r1 := S'.1.2.2.2.1
    have r2 := S'.1.2.2.2.2.1
    have r3 := S'.1.2.2.2.2.2
    have hcu := S'.2.1
    have hgr := S'.2.2.2.1
    have hA3 := S'.2.2.2.2.2.2
    refine ⟨m, B0, n0, k0, l0, (some ⟨q, 0, none⟩), n1, k1, (l1.set ix (⟨#[7]⟩, x1, x2, x3, x4)), B2, n2, k2, l2, B3, n3, k3, l3, rfl, ⟨?_, ?_, ?_, ?_⟩, ⟨r0.addr, r1.addr, r2.addr, r3.addr⟩, ⟨hL0.out, HLr.out, hL2.out, hL3.out⟩, ⟨by omega, by omega, by omega, by omega⟩, HRv.out, HSr.out, ?_, ?_⟩
    · exact (((((r0.far hK (by decide) _).far (hK.set_ _ _) (by decide) _).far ((hK.set_ _ _).set_ _ _) (by decide) _).far (((hK.set_ _ _).set_ _ _).set_ _ _) (by decide) _).far ((((hK.set_ _ _).set_ _ _).set_ _ _).set_ _ _) (by decide) _).rd
    · exact (((((r1.far hK (by decide) _).far (hK.set_ _ _) (by decide) _).far ((hK.set_ _ _).set_ _ _) (by decide) _).far (((hK.set_ _ _).set_ _ _).set_ _ _) (by decide) _).far ((((hK.set_ _ _).set_ _ _).set_ _ _).set_ _ _) (by decide) _).rd
    · exact (((((r2.far hK (by decide) _).far (hK.set_ _ _) (by decide) _).far ((hK.set_ _ _).set_ _ _) (by decide) _).far (((hK.set_ _ _).set_ _ _).set_ _ _) (by decide) _).far ((((hK.set_ _ _).set_ _ _).set_ _ _).set_ _ _) (by decide) _).rd
    · exact (((((r3.far hK (by decide) _).far (hK.set_ _ _) (by decide) _).far ((hK.set_ _ _).set_ _ _) (by decide) _).far (((hK.set_ _ _).set_ _ _).set_ _ _) (by decide) _).far ((((hK.set_ _ _).set_ _ _).set_ _ _).set_ _ _) (by decide) _).rd
    · have hp : ∀ o : Nat, (⟨w.heap.size, o, none⟩ : Addr).block ≠ g ∧ (0 < n → ∀ b off, A = some ⟨b, off, none⟩ → b ≠ (⟨w.heap.size, o, none⟩ : Addr).block) := fun o => ⟨by dsimp only; omega, fun hn b off e => by have := hA3 hn b off e; dsimp only; omega⟩
      exact ((((hcu.far (hp 0) _).far (hp 1) _).far (hp 2) _).far (hp 3) _).far (hp 4) _
    · have hp : ∀ (o q : Nat), some (⟨w.heap.size, o, none⟩ : Addr).block = some q → w.heap.size ≤ q := fun o q e => by injection e with e; subst e; exact Nat.le_refl _
      exact grown_row (grown_row (grown_row (grown_row (grown_row hgr (grown_one _ _ _) (hp 0)) (grown_one _ _ _) (hp 1)) (grown_one _ _ _) (hp 2)) (grown_one _ _ _) (hp 3)) (grown_one _ _ _) (hp 4)
  by_cases c3 : kk = 3
  · subst c3
    obtain ⟨q, hq, _, cs, hqb⟩ := S.1.2.2.2.1.some_ (by omega)
    subst hq
    have yf := hqb.frozen
    obtain ⟨⟨x0, x1, x2, x3, x4⟩, hd⟩ : ∃ d, l1[ix]? = some d := ⟨_, List.getElem?_eq_getElem (by have := hL1.out; omega)⟩
    obtain ⟨b, off, e, hblt, y0, y1, y2, y3, y4⟩ := chunk_at S.1.2.2.2.1.rd hixl hd
    injection e with e; injection e with e1 e2; subst e1; subst e2
    have i0 : (0 : Int) ≤ (ix : Int) := by omega
    have i1 : (ix : Int) < (n1 : Int) := by omega
    have S' : St w (w6.setCell ⟨q, ix * 5 + 1 + 1, none⟩ (.int .i64 ((Y : Int) % 4))) g A n c l gP m B0 n0 k0 l0 (some ⟨q, 0, none⟩) n1 k1 (l1.set ix (x0, x1, (Y : Int) % 4, x3, x4)) B2 n2 k2 l2 B3 n3 k3 l3 := S.set1 (k := ix) (j := 2) (d' := (x0, x1, (Y : Int) % 4, x3, x4)) hL1.out hd (by omega) rfl
    have HLr := Lib.hid (show (l1.set ix (x0, x1, (Y : Int) % 4, x3, x4)).length = n1 by rw [List.length_set, hL1.out])
    have HSr := Lib.hid (mem_set (p := fun d : ChunkD => d.1.size ≤ 20) (k := ix) (d := (x0, x1, (Y : Int) % 4, x3, x4)) HSz.out (show x0.size ≤ 20 from HSz.out _ (List.mem_of_getElem? hd)))
    simp only [Nat.zero_add] at y0 y1 y2 y3 y4
    clear hd hqb
    go_upto_region 22 with fail
    obtain ⟨wz, hwz⟩ : ∃ wz, wz = w6.setCell ⟨q, ix * 5 + 1 + 1, none⟩ (.int .i64 ((Y : Int) % 4)) := ⟨_, rfl⟩
    rw [← hwz] at S' ⊢
    clear hwz f0 f1 f2 f3 f4 ff fl hix y0 y1 y2 y3 y4 yf
    have e0 : wz.cell? ⟨gP, 0, none⟩ = some (.int .i64 m) := S'.1.1.cell 0
    have e1 : wz.cell? ⟨gP, 1, none⟩ = some (.slice B0 n0 k0) := S'.1.1.cell 1
    have e2 : wz.cell? ⟨gP, 2, none⟩ = some (.slice (some ⟨q, 0, none⟩) n1 k1) := S'.1.1.cell 2
    have e3 : wz.cell? ⟨gP, 3, none⟩ = some (.slice B2 n2 k2) := S'.1.1.cell 3
    have e4 : wz.cell? ⟨gP, 4, none⟩ = some (.slice B3 n3 k3) := S'.1.1.cell 4
    have z0 : wz.cell? ⟨w.heap.size, 0, none⟩ = some (.int .i64 0) := S'.2.2.1.cell 0
    have z1 : wz.cell? ⟨w.heap.size, 1, none⟩ = some (.slice none 0 0) := S'.2.2.1.cell 1
    have z2 : wz.cell? ⟨w.heap.size, 2, none⟩ = some (.slice none 0 0) := S'.2.2.1.cell 2
    have z3 : wz.cell? ⟨w.heap.size, 3, none⟩ = some (.slice none 0 0) := S'.2.2.1.cell 3
    have z4 : wz.cell? ⟨w.heap.size, 4, none⟩ = some (.slice none 0 0) := S'.2.2.1.cell 4
    have zf := S'.2.2.1.frozen
    have zl := S'.2.2.1.lt
    have kl := S'.1.1.lt
    go_wp2_with fail
    refine bodyPost_ret (by simp [results, Tryd.results60, go_sem, z0, z1, z2, z3, z4]; try rfl) rfl ?_
    have hK := S'.2.2.1
    have r0 := S'.1.2.2.1
    have r1 := S'.1.2.2.2.1
    have r2 := S'.1.2.2.2.2.1
    have r3 := S'.1.2.2.2.2.2
    have hcu := S'.2.1
    have hgr := S'.2.2.2.1
    have hA3 := S'.2.2.2.2.2.2
    refine ⟨m, B0, n0, k0, l0, (some ⟨q, 0, none⟩), n1, k1, (l1.set ix (x0, x1, (Y : Int) % 4, x3, x4)), B2, n2, k2, l2, B3, n3, k3, l3, rfl, ⟨?_, ?_, ?_, ?_⟩, ⟨r0.addr, r1.addr, r2.addr, r3.addr⟩, ⟨hL0.out, HLr.out, hL2.out, hL3.out⟩, ⟨by omega, by omega, by omega, by omega⟩, HRv.out, HSr.out, ?_, ?_⟩
    · exact (((((r0.far hK (by decide) _).far (hK.set_ _ _) (by decide) _).far ((hK.set_ _ _).set_ _ _) (by decide) _).far (((hK.set_ _ _).set_ _ _).set_ _ _) (by decide) _).far ((((hK.set_ _ _).set_ _ _).set_ _ _).set_ _ _) (by decide) _).rd
    · exact (((((r1.far hK (by decide) _).far (hK.set_ _ _) (by decide) _).far ((hK.set_ _ _).set_ _ _) (by decide) _).far (((hK.set_ _ _).set_ _ _).set_ _ _) (by decide) _).far ((((hK.set_ _ _).set_ _ _).set_ _ _).set_ _ _) (by decide) _).rd
    · exact (((((r2.far hK (by decide) _).far (hK.set_ _ _) (by decide) _).far ((hK.set_ _ _).set_ _ _) (by decide) _).far (((hK.set_ _ _).set_ _ _).set_ _ _) (by decide) _).far ((((hK.set_ _ _).set_ _ _).set_ _ _).set_ _ _) (by decide) _).rd
    · exact (((((r3.far hK (by decide) _).far (hK.set_ _ _) (by decide) _).far ((hK.set_ _ _).set_ _ _) (by decide) _).far (((hK.set_ _ _).set_ _ _).set_ _ _) (by decide) _).far ((((hK.set_ _ _).set_ _ _).set_ _ _).set_ _ _) (by decide) _).rd
    · have hp : ∀ o : Nat, (⟨w.heap.size, o, none⟩ : Addr).block ≠ g ∧ (0 < n → ∀ b off, A = some ⟨b, off, none⟩ → b ≠ (⟨w.heap.size, o, none⟩ : Addr).block) := fun o => ⟨by dsimp only; omega, fun hn b off e => by have := hA3 hn b off e; dsimp only; omega⟩
      exact ((((hcu.far (hp 0) _).far (hp 1) _).far (hp 2) _).far (hp 3) _).far (hp 4) _
    · have hp : ∀ (o q : Nat), some (⟨w.heap.size, o, none⟩ : Addr).block = some q → w.heap.size ≤ q := fun o q e => by injection e with e; subst e; exact Nat.le_refl _
      exact grown_row (grown_row (grown_row (grown_row (grown_row hgr (grown_one _ _ _) (hp 0)) (grown_one _ _ _) (hp 1)) (grown_one _ _ _) (hp 2)) (grown_one _ _ _) (hp 3)) (grown_one _ _ _) (hp 4)
  by_cases c4 : kk = 4
  · subst c4
    obtain ⟨q, hq, _, cs, hqb⟩ := S.1.2.2.2.1.some_ (by omega)
    subst hq
    have yf := hqb.frozen
    obtain ⟨⟨x0, x1, x2, x3, x4⟩, hd⟩ : ∃ d, l1[ix]? = some d := ⟨_, List.getElem?_eq_getElem (by have := hL1.out; omega)⟩
    obtain ⟨b, off, e, hblt, y0, y1, y2, y3, y4⟩ := chunk_at S.1.2.2.2.1.rd hixl hd
    injection e with e; injection e with e1 e2; subst e1; subst e2
    have i0 : (0 : Int) ≤ (ix : Int) := by omega
    have i1 : (ix : Int) < (n1 : Int) := by omega
    have S' : St w (w6.setCell ⟨q, ix * 5 + 1, none⟩ (.int .i64 ((Y : Int) % 9 - 1))) g A n c l gP m B0 n0 k0 l0 (some ⟨q, 0, none⟩) n1 k1 (l1.set ix (x0, (Y : Int) % 9 - 1, x2, x3, x4)) B2 n2 k2 l2 B3 n3 k3 l3 := S.set1 (k := ix) (j := 1) (d' := (x0, (Y : Int) % 9 - 1, x2, x3, x4)) hL1.out hd (by omega) rfl
    have HLr := Lib.hid (show (l1.set ix (x0, (Y : Int) % 9 - 1, x2, x3, x4)).length = n1 by rw [List.length_set, hL1.out])
    have HSr := Lib.hid (mem_set (p := fun d : ChunkD => d.1.size ≤ 20) (k := ix) (d := (x0, (Y : Int) % 9 - 1, x2, x3, x4)) HSz.out (show x0.size ≤ 20 from HSz.out _ (List.mem_of_getElem? hd)))
    simp only [Nat.zero_add] at y0 y1 y2 y3 y4
    clear hd hqb
    go_upto_region 22 with fail
    obtain ⟨wz, hwz⟩ : ∃ wz, wz = w6.setCell ⟨q, ix * 5 + 1, none⟩ (.int .i64 ((Y : Int) % 9 - 1)) := ⟨_, rfl⟩
    rw [← hwz] at S' ⊢
    clear hwz f0 f1 f2 f3 f4 ff fl hix y0 y1 y2 y3 y4 yf
    have e0 : wz.cell? ⟨gP, 0, none⟩ = some (.int .i64 m) := S'.1.1.cell 0
    have e1 : wz.cell? ⟨gP, 1, none⟩ = some (.slice B0 n0 k0) := S'.1.1.cell 1
    have e2 : wz.cell? ⟨gP, 2, none⟩ = some (.slice (some ⟨q, 0, none⟩) n1 k1) := S'.1.1.cell 2
    have e3 : wz.cell? ⟨gP, 3, none⟩ = some (.slice B2 n2 k2) := S'.1.1.cell 3
    have e4 : wz.cell? ⟨gP, 4, none⟩ = some (.slice B3 n3 k3) := S'.1.1.cell 4
    have z0 : wz.cell? ⟨w.heap.size, 0, none⟩ = some (.int .i64 0) := S'.2.2.1.cell 0
    have z1 : wz.cell? ⟨w.heap.size, 1, none⟩ = some (.slice none 0 0) := S'.2.2.1.cell 1
    have z2 : wz.cell? ⟨w.heap.size, 2, none⟩ = some (.slice none 0 0) := S'.2.2.1.cell 2
    have z3 : wz.cell? ⟨w.heap.size, 3, none⟩ = some (.slice none 0 0) := S'.2.2.1.cell 3
    have z4 : wz.cell? ⟨w.heap.size, 4, none⟩ = some (.slice none 0 0) := S'.2.2.1.cell 4
    have zf := S'.2.2.1.frozen
    have zl := S'.2.2.1.lt
    have kl := S'.1.1.lt
    go_wp2_with fail
    refine bodyPost_ret (by simp [results, Tryd.results60, go_sem, z0, z1, z2, z3, z4]; try rfl) rfl ?_
    have hK := S'.2.2.1
    have r0 := S'.1.2.2.1
    have r1 := S'.1.2.2.2.1
    have r2 := S'.1.2.2.2.2.1
    have r3 := S'.1.2.2.2.2.2
    have hcu := S'.2.1
    have hgr := S'.2.2.2.1
    have hA3 := S'.2.2.2.2.2.2
    refine ⟨m, B0, n0, k0, l0, (some ⟨q, 0, none⟩), n1, k1, (l1.set ix (x0, (Y : Int) % 9 - 1, x2, x3, x4)), B2, n2, k2, l2, B3, n3, k3, l3, rfl, ⟨?_, ?_, ?_, ?_⟩, ⟨r0.addr, r1.addr, r2.addr, r3.addr⟩, ⟨hL0.out, HLr.out, hL2.out, hL3.out⟩, ⟨by omega, by omega, by omega, by omega⟩, HRv.out, HSr.out, ?_, ?_⟩
    · exact (((((r0.far hK (by decide) _).far (hK.set_ _ _) (by decide) _).far ((hK.set_ _ _).set_ _ _) (by decide) _).far (((hK.set_ _ _).set_ _ _).set_ _ _) (by decide) _).far ((((hK.set_ _ _).set_ _ _).set_ _ _).set_ _ _) (by decide) _).rd
    · exact (((((r1.far hK (by decide) _).far (hK.set_ _ _) (by decide) _).far ((hK.set_ _ _).set_ _ _) (by decide) _).far (((hK.set_ _ _).set_ _ _).set_ _ _) (by decide) _).far ((((hK.set_ _ _).set_ _ _).set_ _ _).set_ _ _) (by decide) _).rd
    · exact (((((r2.far hK (by decide) _).far (hK.set_ _ _) (by decide) _).far ((hK.set_ _ _).set_ _ _) (by decide) _).far (((hK.set_ _ _).set_ _ _).set_ _ _) (by decide) _).far ((((hK.set_ _ _).set_ _ _).set_ _ _).set_ _ _) (by decide) _).rd
    · exact (((((r3.far hK (by decide) _).far (hK.set_ _ _) (by decide) _).far ((hK.set_ _ _).set_ _ _) (by decide) _).far (((hK.set_ _ _).set_ _ _).set_ _ _) (by decide) _).far ((((hK.set_ _ _).set_ _ _).set_ _ _).set_ _ _) (by decide) _).rd
    · have hp : ∀ o : Nat, (⟨w.heap.size, o, none⟩ : Addr).block ≠ g ∧ (0 < n → ∀ b off, A = some ⟨b, off, none⟩ → b ≠ (⟨w.heap.size, o, none⟩ : Addr).block) := fun o => ⟨by dsimp only; omega, fun hn b off e => by have := hA3 hn b off e; dsimp only; omega⟩
      exact ((((hcu.far (hp 0) _).far (hp 1) _).far (hp 2) _).far (hp 3) _).far (hp 4) _
    · have hp : ∀ (o q : Nat), some (⟨w.heap.size, o, none⟩ : Addr).block = some q → w.heap.size ≤ q := fun o q e => by injection e with e; subst e; exact Nat.le_refl _
      exact grown_row (grown_row (grown_row (grown_row (grown_row hgr (grown_one _ _ _) (hp 0)) (grown_one _ _ _) (hp 1)) (grown_one _ _ _) (hp 2)) (grown_one _ _ _) (hp 3)) (grown_one _ _ _) (hp 4)
  by_cases c5 : kk = 5
  · subst c5
    obtain ⟨iT, hi, hz0, hz1, hz2⟩ := info_parts infoSpan
    have hgz := S.2.2.2.1.size
    have HI := Lib.hid (And.intro hi (And.intro hz0 (And.intro hz1 hz2)))
    clear hi hz0 hz1 hz2
    go_upto_region 22 with (at_builtin; (refine wpList_append_lies _ rfl (.tmp 67) (.tmp 75) _ rfl w.heap.size 99 iT (.agg #[.int .i64 0, .int .i64 0, .int .i64 0]) 3 24 Tryd.underlying49 HI.out.1 HI.out.2.1 HI.out.2.2.1 HI.out.2.2.2 rfl (by decide) (.slice B2 n2 k2) n2 (l2.flatMap spanCells) rfl (S.alloc _).1.2.2.2.2.1 ⟨w6.heap.size, 0, none⟩ 1 1 (spanCells ((Y : Int) % 5, (Y : Int) % 7, (Y : Int) % 11)) rfl rfl (World.news_of_block (Blk.new w6 99 (spanCells ((Y : Int) % 5, (Y : Int) % 7, (Y : Int) % 11)).toArray)) (fun x hx => by simp [spanCells] at hx; rcases hx with rfl | rfl | rfl <;> rfl) (by decide) (by unfold maxLen; omega) (by omega) (by simp; omega) _ rfl ?_); intro q cap w7 hown hgrow hat hlt
                            have S7 := (S.alloc _).put2 hgrow ((Y : Int) % 5, (Y : Int) % 7, (Y : Int) % 11) hown
                            have K7 := (S.alloc (.cells (spanCells ((Y : Int) % 5, (Y : Int) % 7, (Y : Int) % 11)).toArray 99)).1.1.turned hgrow (S.1.2.2.2.2.1.ne_blk S.1.1 (by decide))
                            have f7 : w7.cell? ⟨gP, 3, none⟩ = some (.slice B2 n2 k2) := K7.cell 3
                            have fk := K7.frozen
                            have fkl := K7.lt
                            clear hown hgrow hat hlt f0 f1 f2 f3 f4 ff fl)
    have S' := S7
    have HLr := Lib.hid (show (l2 ++ [((Y : Int) % 5, (Y : Int) % 7, (Y : Int) % 11)]).length = n2 + 1 by rw [List.length_append, hL2.out]; rfl)
    obtain ⟨wz, hwz⟩ : ∃ wz, wz = w7.setCell ⟨gP, 3, none⟩ (.slice (some ⟨q, 0, none⟩) (n2 + 1) cap) := ⟨_, rfl⟩
    rw [← hwz] at S' ⊢
    clear hwz S7 hix f7 fk fkl
    have e0 : wz.cell? ⟨gP, 0, none⟩ = some (.int .i64 m) := S'.1.1.cell 0
    have e1 : wz.cell? ⟨gP, 1, none⟩ = some (.slice B0 n0 k0) := S'.1.1.cell 1
    have e2 : wz.cell? ⟨gP, 2, none⟩ = some (.slice B1 n1 k1) := S'.1.1.cell 2
    have e3 : wz.cell? ⟨gP, 3, none⟩ = some (.slice (some ⟨q, 0, none⟩) (n2 + 1) cap) := S'.1.1.cell 3
    have e4 : wz.cell? ⟨gP, 4, none⟩ = some (.slice B3 n3 k3) := S'.1.1.cell 4
    have z0 : wz.cell? ⟨w.heap.size, 0, none⟩ = some (.int .i64 0) := S'.2.2.1.cell 0
    have z1 : wz.cell? ⟨w.heap.size, 1, none⟩ = some (.slice none 0 0) := S'.2.2.1.cell 1
    have z2 : wz.cell? ⟨w.heap.size, 2, none⟩ = some (.slice none 0 0) := S'.2.2.1.cell 2
    have z3 : wz.cell? ⟨w.heap.size, 3, none⟩ = some (.slice none 0 0) := S'.2.2.1.cell 3
    have z4 : wz.cell? ⟨w.heap.size, 4, none⟩ = some (.slice none 0 0) := S'.2.2.1.cell 4
    have zf := S'.2.2.1.frozen
    have zl := S'.2.2.1.lt
    have kl := S'.1.1.lt
    go_wp2_with fail
    refine bodyPost_ret (by simp [results, Tryd.results60, go_sem, z0, z1, z2, z3, z4]; try rfl) rfl ?_
    have hK := S'.2.2.1
    have r0 := S'.1.2.2.1
    have r1 := S'.1.2.2.2.1
    have r2 := S'.1.2.2.2.2.1
    have r3 := S'.1.2.2.2.2.2
    have hcu := S'.2.1
    have hgr := S'.2.2.2.1
    have hA3 := S'.2.2.2.2.2.2
    refine ⟨m, B0, n0, k0, l0, B1, n1, k1, l1, (some ⟨q, 0, none⟩), (n2 + 1), cap, (l2 ++ [((Y : Int) % 5, (Y : Int) % 7, (Y : Int) % 11)]), B3, n3, k3, l3, rfl, ⟨?_, ?_, ?_, ?_⟩, ⟨r0.addr, r1.addr, r2.addr, r3.addr⟩, ⟨hL0.out, hL1.out, HLr.out, hL3.out⟩, ⟨by omega, by omega, by omega, by omega⟩, HRv.out, HSz.out, ?_, ?_⟩
    · exact (((((r0.far hK (by decide) _).far (hK.set_ _ _) (by decide) _).far ((hK.set_ _ _).set_ _ _) (by decide) _).far (((hK.set_ _ _).set_ _ _).set_ _ _) (by decide) _).far ((((hK.set_ _ _).set_ _ _).set_ _ _).set_ _ _) (by decide) _).rd
    · exact (((((r1.far hK (by decide) _).far (hK.set_ _ _) (by decide) _).far ((hK.set_ _ _).set_ _ _) (by decide) _).far (((hK.set_ _ _).set_ _ _).set_ _ _) (by decide) _).far ((((hK.set_ _ _).set_ _ _).set_ _ _).set_ _ _) (by decide) _).rd
    · exact (((((r2.far hK (by decide) _).far (hK.set_ _ _) (by decide) _).far ((hK.set_ _ _).set_ _ _) (by decide) _).far (((hK.set_ _ _).set_ _ _).set_ _ _) (by decide) _).far ((((hK.set_ _ _).set_ _ _).set_ _ _).set_ _ _) (by decide) _).rd
    · exact (((((r3.far hK (by decide) _).far (hK.set_ _ _) (by decide) _).far ((hK.set_ _ _).set_ _ _) (by decide) _).far (((hK.set_ _ _).set_ _ _).set_ _ _) (by decide) _).far ((((hK.set_ _ _).set_ _ _).set_ _ _).set_ _ _) (by decide) _).rd
    · have hp : ∀ o : Nat, (⟨w.heap.size, o, none⟩ : Addr).block ≠ g ∧ (0 < n → ∀ b off, A = some ⟨b, off, none⟩ → b ≠ (⟨w.heap.size, o, none⟩ : Addr).block) := fun o => ⟨by dsimp only; omega, fun hn b off e => by have := hA3 hn b off e; dsimp only; omega⟩
      exact ((((hcu.far (hp 0) _).far (hp 1) _).far (hp 2) _).far (hp 3) _).far (hp 4) _
    · have hp : ∀ (o q : Nat), some (⟨w.heap.size, o, none⟩ : Addr).block = some q → w.heap.size ≤ q := fun o q e => by injection e with e; subst e; exact Nat.le_refl _
      exact grown_row (grown_row (grown_row (grown_row (grown_row hgr (grown_one _ _ _) (hp 0)) (grown_one _ _ _) (hp 1)) (grown_one _ _ _) (hp 2)) (grown_one _ _ _) (hp 3)) (grown_one _ _ _) (hp 4)
  by_cases c6 : kk = 6
  · subst c6
    obtain ⟨iT, hi, hz0, hz1, hz2⟩ := info_parts infoTie
    have hgz := S.2.2.2.1.size
    have HI := Lib.hid (And.intro hi (And.intro hz0 (And.intro hz1 hz2)))
    clear hi hz0 hz1 hz2
    go_upto_region 22 with (at_builtin; (refine wpList_append_lies _ rfl (.tmp 81) (.tmp 87) _ rfl w.heap.size 101 iT (.agg #[.int .i64 0, .int .i64 0]) 2 16 Tryd.underlying50 HI.out.1 HI.out.2.1 HI.out.2.2.1 HI.out.2.2.2 rfl (by decide) (.slice B3 n3 k3) n3 (l3.flatMap tieCells) rfl (S.alloc _).1.2.2.2.2.2 ⟨w6.heap.size, 0, none⟩ 1 1 (tieCells ((Y : Int) % 6, (Y : Int) % 5)) rfl rfl (World.news_of_block (Blk.new w6 101 (tieCells ((Y : Int) % 6, (Y : Int) % 5)).toArray)) (fun x hx => by simp [tieCells] at hx; rcases hx with rfl | rfl <;> rfl) (by decide) (by unfold maxLen; omega) (by omega) (by simp; omega) _ rfl ?_); intro q cap w7 hown hgrow hat hlt
                            have S7 := (S.alloc _).put3 hgrow ((Y : Int) % 6, (Y : Int) % 5) hown
                            have K7 := (S.alloc (.cells (tieCells ((Y : Int) % 6, (Y : Int) % 5)).toArray 101)).1.1.turned hgrow (S.1.2.2.2.2.2.ne_blk S.1.1 (by decide))
                            have f7 : w7.cell? ⟨gP, 4, none⟩ = some (.slice B3 n3 k3) := K7.cell 4
                            have fk := K7.frozen
                            have fkl := K7.lt
                            clear hown hgrow hat hlt f0 f1 f2 f3 f4 ff fl)
    have S' := S7
    have HLr := Lib.hid (show (l3 ++ [((Y : Int) % 6, (Y : Int) % 5)]).length = n3 + 1 by rw [List.length_append, hL3.out]; rfl)
    obtain ⟨wz, hwz⟩ : ∃ wz, wz = w7.setCell ⟨gP, 4, none⟩ (.slice (some ⟨q, 0, none⟩) (n3 + 1) cap) := ⟨_, rfl⟩
    rw [← hwz] at S' ⊢
    clear hwz S7 hix f7 fk fkl
    have e0 : wz.cell? ⟨gP, 0, none⟩ = some (.int .i64 m) := S'.1.1.cell 0
    have e1 : wz.cell? ⟨gP, 1, none⟩ = some (.slice B0 n0 k0) := S'.1.1.cell 1
    have e2 : wz.cell? ⟨gP, 2, none⟩ = some (.slice B1 n1 k1) := S'.1.1.cell 2
    have e3 : wz.cell? ⟨gP, 3, none⟩ = some (.slice B2 n2 k2) := S'.1.1.cell 3
    have e4 : wz.cell? ⟨gP, 4, none⟩ = some (.slice (some ⟨q, 0, none⟩) (n3 + 1) cap) := S'.1.1.cell 4
    have z0 : wz.cell? ⟨w.heap.size, 0, none⟩ = some (.int .i64 0) := S'.2.2.1.cell 0
    have z1 : wz.cell? ⟨w.heap.size, 1, none⟩ = some (.slice none 0 0) := S'.2.2.1.cell 1
    have z2 : wz.cell? ⟨w.heap.size, 2, none⟩ = some (.slice none 0 0) := S'.2.2.1.cell 2
    have z3 : wz.cell? ⟨w.heap.size, 3, none⟩ = some (.slice none 0 0) := S'.2.2.1.cell 3
    have z4 : wz.cell? ⟨w.heap.size, 4, none⟩ = some (.slice none 0 0) := S'.2.2.1.cell 4
    have zf := S'.2.2.1.frozen
    have zl := S'.2.2.1.lt
    have kl := S'.1.1.lt
    go_wp2_with fail
    refine bodyPost_ret (by simp [results, Tryd.results60, go_sem, z0, z1, z2, z3, z4]; try rfl) rfl ?_
    have hK := S'.2.2.1
    have r0 := S'.1.2.2.1
    have r1 := S'.1.2.2.2.1
    have r2 := S'.1.2.2.2.2.1
    have r3 := S'.1.2.2.2.2.2
    have hcu := S'.2.1
    have hgr := S'.2.2.2.1
    have hA3 := S'.2.2.2.2.2.2
    refine ⟨m, B0, n0, k0, l0, B1, n1, k1, l1, B2, n2, k2, l2, (some ⟨q, 0, none⟩), (n3 + 1), cap, (l3 ++ [((Y : Int) % 6, (Y : Int) % 5)]), rfl, ⟨?_, ?_, ?_, ?_⟩, ⟨r0.addr, r1.addr, r2.addr, r3.addr⟩, ⟨hL0.out, hL1.out, hL2.out, HLr.out⟩, ⟨by omega, by omega, by omega, by omega⟩, HRv.out, HSz.out, ?_, ?_⟩
    · exact (((((r0.far hK (by decide) _).far (hK.set_ _ _) (by decide) _).far ((hK.set_ _ _).set_ _ _) (by decide) _).far (((hK.set_ _ _).set_ _ _).set_ _ _) (by decide) _).far ((((hK.set_ _ _).set_ _ _).set_ _ _).set_ _ _) (by decide) _).rd
    · exact (((((r1.far hK (by decide) _).far (hK.set_ _ _) (by decide) _).far ((hK.set_ _ _).set_ _ _) (by decide) _).far (((hK.set_ _ _).set_ _ _).set_ _ _) (by decide) _).far ((((hK.set_ _ _).set_ _ _).set_ _ _).set_ _ _) (by decide) _).rd
    · exact (((((r2.far hK (by decide) _).far (hK.set_ _ _) (by decide) _).far ((hK.set_ _ _).set_ _ _) (by decide) _).far (((hK.set_ _ _).set_ _ _).set_ _ _) (by decide) _).far ((((hK.set_ _ _).set_ _ _).set_ _ _).set_ _ _) (by decide) _).rd
    · exact (((((r3.far hK (by decide) _).far (hK.set_ _ _) (by decide) _).far ((hK.set_ _ _).set_ _ _) (by decide) _).far (((hK.set_ _ _).set_ _ _).set_ _ _) (by decide) _).far ((((hK.set_ _ _).set_ _ _).set_ _ _).set_ _ _) (by decide) _).rd
    · have hp : ∀ o : Nat, (⟨w.heap.size, o, none⟩ : Addr).block ≠ g ∧ (0 < n → ∀ b off, A = some ⟨b, off, none⟩ → b ≠ (⟨w.heap.size, o, none⟩ : Addr).block) := fun o => ⟨by dsimp only; omega, fun hn b off e => by have := hA3 hn b off e; dsimp only; omega⟩
      exact ((((hcu.far (hp 0) _).far (hp 1) _).far (hp 2) _).far (hp 3) _).far (hp 4) _
    · have hp : ∀ (o q : Nat), some (⟨w.heap.size, o, none⟩ : Addr).block = some q → w.heap.size ≤ q := fun o q e => by injection e with e; subst e; exact Nat.le_refl _
      exact grown_row (grown_row (grown_row (grown_row (grown_row hgr (grown_one _ _ _) (hp 0)) (grown_one _ _ _) (hp 1)) (grown_one _ _ _) (hp 2)) (grown_one _ _ _) (hp 3)) (grown_one _ _ _) (hp 4)
  by_cases c7 : kk = 7
  · subst c7
    obtain ⟨iT, hi, hz0, hz1, hz2⟩ := info_parts infoRule
    obtain ⟨mk, hmkv⟩ : ∃ mk : Nat, 8 + (Y : Int) % 2 = (mk : Int) := Int.eq_ofNat_of_zero_le (by omega)
    have hmk89 : mk = 8 ∨ mk = 9 := by omega
    have hmk := fun W => run_make_rowN (P := Tryd.prog) 47 92 iT _ Tryd.underlying47 hi hz0 .i64 .i64 mk mk (Nat.le_refl _) (by rw [hz2]; omega) (by omega) W
    rw [hz1] at hmk
    have hgz := S.2.2.2.1.size
    have HMc := Lib.hid (show madeCells #[.int .i64 0, .int .i64 0] (mk * 2) = ((List.replicate mk ((0 : Int), (0 : Int))).flatMap ruleCells).toArray by rcases hmk89 with rfl | rfl <;> first | kernel_rfl | (simp [madeCells, Value.cells, ruleCells]; done) | decide)
    have S2 := S.alloc (.cells (madeCells #[.int .i64 0, .int .i64 0] (mk * 2)) 92)
    have hM : Mine (w6.alloc (.cells (madeCells #[.int .i64 0, .int .i64 0] (mk * 2)) 92)) w.heap.size 92 2 (some ⟨w6.heap.size, 0, none⟩) mk mk ((List.replicate mk ((0 : Int), (0 : Int))).flatMap ruleCells) := by
      refine Mine.mk_own ⟨[], ?_, ?_⟩ (by rw [flat_len ruleCells ruleCells_len, List.length_replicate]) hgz (Nat.le_refl _) (by unfold maxLen; omega)
      · rw [List.append_nil, ← HMc.out]; exact Blk.new _ _ _
      · rw [List.append_nil, flat_len ruleCells ruleCells_len, List.length_replicate]
    have S' := S2.rules hM
    clear hi hz0 hz1 hz2
    go_upto_region 22 with fail
    clear hmk
    rw [World.setCell_alloc_past (hn := fl)] at S'
    obtain ⟨wz, hwz⟩ : ∃ wz, wz = (w6.setCell ⟨gP, 1, none⟩ (.slice (some ⟨w6.heap.size, 0, none⟩) mk mk)).alloc (.cells (madeCells #[.int .i64 0, .int .i64 0] (mk * 2)) 92) := ⟨_, rfl⟩
    rw [← hwz] at S' ⊢
    have HLr := Lib.hid (List.length_replicate (n := mk) (a := ((0 : Int), (0 : Int))))
    have HRr := Lib.hid (show ∀ d ∈ List.replicate mk ((0 : Int), (0 : Int)), d.1 ≤ 256 from fun d hd => by rw [List.eq_of_mem_replicate hd]; decide)
    clear hwz f0 f1 f2 f3 f4 ff fl hix hmkv
    have e0 : wz.cell? ⟨gP, 0, none⟩ = some (.int .i64 m) := S'.1.1.cell 0
    have e1 : wz.cell? ⟨gP, 1, none⟩ = some (.slice (some ⟨w6.heap.size, 0, none⟩) mk mk) := S'.1.1.cell 1
    have e2 : wz.cell? ⟨gP, 2, none⟩ = some (.slice B1 n1 k1) := S'.1.1.cell 2
    have e3 : wz.cell? ⟨gP, 3, none⟩ = some (.slice B2 n2 k2) := S'.1.1.cell 3
    have e4 : wz.cell? ⟨gP, 4, none⟩ = some (.slice B3 n3 k3) := S'.1.1.cell 4
    have z0 : wz.cell? ⟨w.heap.size, 0, none⟩ = some (.int .i64 0) := S'.2.2.1.cell 0
    have z1 : wz.cell? ⟨w.heap.size, 1, none⟩ = some (.slice none 0 0) := S'.2.2.1.cell 1
    have z2 : wz.cell? ⟨w.heap.size, 2, none⟩ = some (.slice none 0 0) := S'.2.2.1.cell 2
    have z3 : wz.cell? ⟨w.heap.size, 3, none⟩ = some (.slice none 0 0) := S'.2.2.1.cell 3
    have z4 : wz.cell? ⟨w.heap.size, 4, none⟩ = some (.slice none 0 0) := S'.2.2.1.cell 4
    have zf := S'.2.2.1.frozen
    have zl := S'.2.2.1.lt
    have kl := S'.1.1.lt
    go_wp2_with fail
    refine bodyPost_ret (by simp [results, Tryd.results60, go_sem, z0, z1, z2, z3, z4]; try rfl) rfl ?_
    have hK := S'.2.2.1
    have r0 := S'.1.2.2.1
    have r1 := S'.1.2.2.2.1
    have r2 := S'.1.2.2.2.2.1
    have r3 := S'.1.2.2.2.2.2
    have hcu := S'.2.1
    have hgr := S'.2.2.2.1
    have hA3 := S'.2.2.2.2.2.2
    refine ⟨m, (some ⟨w6.heap.size, 0, none⟩), mk, mk, (List.replicate mk ((0 : Int), (0 : Int))), B1, n1, k1, l1, B2, n2, k2, l2, B3, n3, k3, l3, rfl, ⟨?_, ?_, ?_, ?_⟩, ⟨r0.addr, r1.addr, r2.addr, r3.addr⟩, ⟨HLr.out, hL1.out, hL2.out, hL3.out⟩, ⟨by omega, by omega, by omega, by omega⟩, HRr.out, HSz.out, ?_, ?_⟩
    · exact (((((r0.far hK (by decide) _).far (hK.set_ _ _) (by decide) _).far ((hK.set_ _ _).set_ _ _) (by decide) _).far (((hK.set_ _ _).set_ _ _).set_ _ _) (by decide) _).far ((((hK.set_ _ _).set_ _ _).set_ _ _).set_ _ _) (by decide) _).rd
    · exact (((((r1.far hK (by decide) _).far (hK.set_ _ _) (by decide) _).far ((hK.set_ _ _).set_ _ _) (by decide) _).far (((hK.set_ _ _).set_ _ _).set_ _ _) (by decide) _).far ((((hK.set_ _ _).set_ _ _).set_ _ _).set_ _ _) (by decide) _).rd
    · exact (((((r2.far hK (by decide) _).far (hK.set_ _ _) (by decide) _).far ((hK.set_ _ _).set_ _ _) (by decide) _).far (((hK.set_ _ _).set_ _ _).set_ _ _) (by decide) _).far ((((hK.set_ _ _).set_ _ _).set_ _ _).set_ _ _) (by decide) _).rd
    · exact (((((r3.far hK (by decide) _).far (hK.set_ _ _) (by decide) _).far ((hK.set_ _ _).set_ _ _) (by decide) _).far (((hK.set_ _ _).set_ _ _).set_ _ _) (by decide) _).far ((((hK.set_ _ _).set_ _ _).set_ _ _).set_ _ _) (by decide) _).rd
    · have hp : ∀ o : Nat, (⟨w.heap.size, o, none⟩ : Addr).block ≠ g ∧ (0 < n → ∀ b off, A = some ⟨b, off, none⟩ → b ≠ (⟨w.heap.size, o, none⟩ : Addr).block) := fun o => ⟨by dsimp only; omega, fun hn b off e => by have := hA3 hn b off e; dsimp only; omega⟩
      exact ((((hcu.far (hp 0) _).far (hp 1) _).far (hp 2) _).far (hp 3) _).far (hp 4) _
    · have hp : ∀ (o q : Nat), some (⟨w.heap.size, o, none⟩ : Addr).block = some q → w.heap.size ≤ q := fun o q e => by injection e with e; subst e; exact Nat.le_refl _
      exact grown_row (grown_row (grown_row (grown_row (grown_row hgr (grown_one _ _ _) (hp 0)) (grown_one _ _ _) (hp 1)) (grown_one _ _ _) (hp 2)) (grown_one _ _ _) (hp 3)) (grown_one _ _ _) (hp 4)
  have d0 : (kk == 0) = false := beq_eq_false_iff_ne.2 c0
  have d1 : (kk == 1) = false := beq_eq_false_iff_ne.2 c1
  have d2 : (kk == 2) = false := beq_eq_false_iff_ne.2 c2
  have d3 : (kk == 3) = false := beq_eq_false_iff_ne.2 c3
  have d4 : (kk == 4) = false := beq_eq_false_iff_ne.2 c4
  have d5 : (kk == 5) = false := beq_eq_false_iff_ne.2 c5
  have d6 : (kk == 6) = false := beq_eq_false_iff_ne.2 c6
  have d7 : (kk == 7) = false := beq_eq_false_iff_ne.2 c7
  have S' := S
  go_upto_region 22 with fail
  obtain ⟨wz, hwz⟩ : ∃ wz, wz = w6 := ⟨_, rfl⟩
  subst hwz
  clear f0 f1 f2 f3 f4 ff fl hix
  have e0 : wz.cell? ⟨gP, 0, none⟩ = some (.int .i64 m) := S'.1.1.cell 0
  have e1 : wz.cell? ⟨gP, 1, none⟩ = some (.slice B0 n0 k0) := S'.1.1.cell 1
  have e2 : wz.cell? ⟨gP, 2, none⟩ = some (.slice B1 n1 k1) := S'.1.1.cell 2
  have e3 : wz.cell? ⟨gP, 3, none⟩ = some (.slice B2 n2 k2) := S'.1.1.cell 3
  have e4 : wz.cell? ⟨gP, 4, none⟩ = some (.slice B3 n3 k3) := S'.1.1.cell 4
  have z0 : wz.cell? ⟨w.heap.size, 0, none⟩ = some (.int .i64 0) := S'.2.2.1.cell 0
  have z1 : wz.cell? ⟨w.heap.size, 1, none⟩ = some (.slice none 0 0) := S'.2.2.1.cell 1
  have z2 : wz.cell? ⟨w.heap.size, 2, none⟩ = some (.slice none 0 0) := S'.2.2.1.cell 2
  have z3 : wz.cell? ⟨w.heap.size, 3, none⟩ = some (.slice none 0 0) := S'.2.2.1.cell 3
  have z4 : wz.cell? ⟨w.heap.size, 4, none⟩ = some (.slice none 0 0) := S'.2.2.1.cell 4
  have zf := S'.2.2.1.frozen
  have zl := S'.2.2.1.lt
  have kl := S'.1.1.lt
  go_wp2_with fail
  refine bodyPost_ret (by simp [results, Tryd.results60, go_sem, z0, z1, z2, z3, z4]; try rfl) rfl ?_
  have hK := S'.2.2.1
  have r0 := S'.1.2.2.1
  have r1 := S'.1.2.2.2.1
  have r2 := S'.1.2.2.2.2.1
  have r3 := S'.1.2.2.2.2.2
  have hcu := S'.2.1
  have hgr := S'.2.2.2.1
  have hA3 := S'.2.2.2.2.2.2
  refine ⟨m, B0, n0, k0, l0, B1, n1, k1, l1, B2, n2, k2, l2, B3, n3, k3, l3, rfl, ⟨?_, ?_, ?_, ?_⟩, ⟨r0.addr, r1.addr, r2.addr, r3.addr⟩, ⟨hL0.out, hL1.out, hL2.out, hL3.out⟩, ⟨by omega, by omega, by omega, by omega⟩, HRv.out, HSz.out, ?_, ?_⟩
  · exact (((((r0.far hK (by decide) _).far (hK.set_ _ _) (by decide) _).far ((hK.set_ _ _).set_ _ _) (by decide) _).far (((hK.set_ _ _).set_ _ _).set_ _ _) (by decide) _).far ((((hK.set_ _ _).set_ _ _).set_ _ _).set_ _ _) (by decide) _).rd
  · exact (((((r1.far hK (by decide) _).far (hK.set_ _ _) (by decide) _).far ((hK.set_ _ _).set_ _ _) (by decide) _).far (((hK.set_ _ _).set_ _ _).set_ _ _) (by decide) _).far ((((hK.set_ _ _).set_ _ _).set_ _ _).set_ _ _) (by decide) _).rd
  · exact (((((r2.far hK (by decide) _).far (hK.set_ _ _) (by decide) _).far ((hK.set_ _ _).set_ _ _) (by decide) _).far (((hK.set_ _ _).set_ _ _).set_ _ _) (by decide) _).far ((((hK.set_ _ _).set_ _ _).set_ _ _).set_ _ _) (by decide) _).rd
  · exact (((((r3.far hK (by decide) _).far (hK.set_ _ _) (by decide) _).far ((hK.set_ _ _).set_ _ _) (by decide) _).far (((hK.set_ _ _).set_ _ _).set_ _ _) (by decide) _).far ((((hK.set_ _ _).set_ _ _).set_ _ _).set_ _ _) (by decide) _).rd
  · have hp : ∀ o : Nat, (⟨w.heap.size, o, none⟩ : Addr).block ≠ g ∧ (0 < n → ∀ b off, A = some ⟨b, off, none⟩ → b ≠ (⟨w.heap.size, o, none⟩ : Addr).block) := fun o => ⟨by dsimp only; omega, fun hn b off e => by have := hA3 hn b off e; dsimp only; omega⟩
    exact ((((hcu.far (hp 0) _).far (hp 1) _).far (hp 2) _).far (hp 3) _).far (hp 4) _
  · have hp : ∀ (o q : Nat), some (⟨w.heap.size, o, none⟩ : Addr).block = some q → w.heap.size ≤ q := fun o q e => by injection e with e; subst e; exact Nat.le_refl _
    exact grown_row (grown_row (grown_row (grown_row (grown_row hgr (grown_one _ _ _) (hp 0)) (grown_one _ _ _) (hp 1)) (grown_one _ _ _) (hp 2)) (grown_one _ _ _) (hp 3)) (grown_one _ _ _) (hp 4)
end Go.Proofs.YtfapdhfjcnehhaaDoor

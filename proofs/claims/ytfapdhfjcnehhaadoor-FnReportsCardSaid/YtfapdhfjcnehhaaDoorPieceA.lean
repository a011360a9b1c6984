
/-
  Contracts: sizes, copies and equality of a piece (laws.szPiece, toPiece, eqPiece).
-/
import Derived.Test.YtfapdhfjcnehhaaDoorFamRule
import Derived.Test.YtfapdhfjcnehhaaDoorFamChunk
import Derived.Test.YtfapdhfjcnehhaaDoorFamSpan
import Derived.Test.YtfapdhfjcnehhaaDoorFamTie
namespace Go.Proofs.YtfapdhfjcnehhaaDoor
open Go.RowKit
set_option linter.unusedVariables false

/-- The four slices of a piece read as these lists. -/
def RdP (w : World) (A0 : Option Addr) (n0 : Nat) (l0 : List RuleD) (A1 : Option Addr) (n1 : Nat) (l1 : List ChunkD) (A2 : Option Addr) (n2 : Nat) (l2 : List SpanD) (A3 : Option Addr) (n3 : Nat) (l3 : List TieD) : Prop :=
  Rd w 2 A0 n0 (l0.flatMap ruleCells) ∧ Rd w 5 A1 n1 (l1.flatMap chunkCells) ∧ Rd w 3 A2 n2 (l2.flatMap spanCells) ∧ Rd w 2 A3 n3 (l3.flatMap tieCells)
def LenP (n0 : Nat) (l0 : List RuleD) (n1 : Nat) (l1 : List ChunkD) (n2 : Nat) (l2 : List SpanD) (n3 : Nat) (l3 : List TieD) : Prop := l0.length = n0 ∧ l1.length = n1 ∧ l2.length = n2 ∧ l3.length = n3
section
variable {w w' w2 : World} {o o' : Obj} {A0 : Option Addr} {n0 : Nat} {l0 : List RuleD} {A1 : Option Addr} {n1 : Nat} {l1 : List ChunkD} {A2 : Option Addr} {n2 : Nat} {l2 : List SpanD} {A3 : Option Addr} {n3 : Nat} {l3 : List TieD}
theorem RdP.next (h : RdP w A0 n0 l0 A1 n1 l1 A2 n2 l2 A3 n3 l3) (hb : Below w.heap.size w w') : RdP w' A0 n0 l0 A1 n1 l1 A2 n2 l2 A3 n3 l3 := ⟨h.1.next hb, h.2.1.next hb, h.2.2.1.next hb, h.2.2.2.next hb⟩
theorem RdP.alloc (h : RdP w A0 n0 l0 A1 n1 l1 A2 n2 l2 A3 n3 l3) (o : Obj) : RdP (w.alloc o) A0 n0 l0 A1 n1 l1 A2 n2 l2 A3 n3 l3 := h.next ((Below.refl _ _).alloc (Nat.le_refl _) o)
theorem RdP.next1 (h : RdP w A0 n0 l0 A1 n1 l1 A2 n2 l2 A3 n3 l3) (hb : Below (w.alloc o).heap.size (w.alloc o) w2) : RdP w2 A0 n0 l0 A1 n1 l1 A2 n2 l2 A3 n3 l3 := (h.alloc o).next hb
theorem RdP.next2 (h : RdP w A0 n0 l0 A1 n1 l1 A2 n2 l2 A3 n3 l3) (hb : Below ((w.alloc o).alloc o').heap.size ((w.alloc o).alloc o') w2) : RdP w2 A0 n0 l0 A1 n1 l1 A2 n2 l2 A3 n3 l3 := ((h.alloc o).alloc o').next hb
theorem RdP.drewN (h : RdP w A0 n0 l0 A1 n1 l1 A2 n2 l2 A3 n3 l3) (k : Nat) : RdP (w.drewN k) A0 n0 l0 A1 n1 l1 A2 n2 l2 A3 n3 l3 := h
theorem RdP.drew (h : RdP w A0 n0 l0 A1 n1 l1 A2 n2 l2 A3 n3 l3) : RdP w.drew A0 n0 l0 A1 n1 l1 A2 n2 l2 A3 n3 l3 := h
end
def szPieceN (l0 : List RuleD) (l1 : List ChunkD) (l2 : List SpanD) (l3 : List TieD) : Nat := szRuleL l0 + szChunkL l1 + szSpanL l2 + szTieL l3
set_option maxRecDepth 100000 in
set_option maxHeartbeats 800000 in
theorem szPiece_fit (m : Int) (A0 : Option Addr) (n0 c0 : Nat) (l0 : List RuleD) (A1 : Option Addr) (n1 c1 : Nat) (l1 : List ChunkD) (A2 : Option Addr) (n2 c2 : Nat) (l2 : List SpanD) (A3 : Option Addr) (n3 c3 : Nat) (l3 : List TieD) (w : World) (hl : Hid (LenP n0 l0 n1 l1 n2 l2 n3 l3)) (hr : RdP w A0 n0 l0 A1 n1 l1 A2 n2 l2 A3 n3 l3) (hle : Hid (szPieceN l0 l1 l2 l3 ≤ 1048576)) :
    Calls Tryd.prog 41 #[.agg #[.int .i64 m, .slice A0 n0 c0, .slice A1 n1 c1, .slice A2 n2 c2, .slice A3 n3 c3], .int .i64 1048576] w fun e w' => e = .returned (.int .i64 (1048576 - (szPieceN l0 l1 l2 l3 : Nat))) ∧ Below w.heap.size w w' := by
  have HE : Hid (szPieceN l0 l1 l2 l3 = szRuleL l0 + szChunkL l1 + szSpanL l2 + szTieL l3) := rfl
  have H0 := Lib.hid (fun (left : Int) (W : World) h1 hle => szRuleS_ok A0 n0 c0 l0 left W h1 (Lib.hid hl.out.1) hle)
  have H1 := Lib.hid (fun (left : Int) (W : World) h1 hR hle => szChunkS_ok A1 n1 c1 l1 left W h1 hl.out.2.1 hR hle)
  have H2 := Lib.hid (fun (left : Int) (W : World) h1 hle => szSpanS_ok A2 n2 c2 l2 left W h1 (Lib.hid hl.out.2.2.1) hle)
  have H3 := Lib.hid (fun (left : Int) (W : World) h1 hle => szTieS_ok A3 n3 c3 l3 left W h1 (Lib.hid hl.out.2.2.2) hle)
  have h := hle.out
  rw [HE.out] at h ⊢
  have hr1 := hr.2.1
  clear hl hle HE hr
  revert H0 H1 H2 H3 h
  generalize szRuleL l0 = s0
  generalize szChunkL l1 = s1
  generalize szSpanL l2 = s2
  generalize szTieL l3 = s3
  intro H0 H1 H2 H3 h
  have g0 : (0 : Int) ≤ 1048576 - s0 := by omega
  have g1 : (0 : Int) ≤ 1048576 - s0 - s1 := by omega
  have g2 : (0 : Int) ≤ 1048576 - s0 - s1 - s2 := by omega
  have g3 : (0 : Int) ≤ 1048576 - s0 - s1 - s2 - s3 := by omega
  rw [show (1048576 : Int) - ((s0 + s1 + s2 + s3 : Nat) : Int) = 1048576 - s0 - s1 - s2 - s3 by omega]
  have hbw := Below.refl w.heap.size w
  go_enter Tryd.func41, Tryd.ntmps41
  go_wp2_with fail
  refine (H0.out _ _ (by omega) (by omega)).mono ?_
  rintro e w1 ⟨rfl, rfl⟩
  go_wp2_with fail
  refine (H1.out _ _ (by omega) (hr1.alloc _) (by omega)).mono ?_
  rintro e w2 ⟨rfl, h2⟩
  have K1 := Blk.fresh h2
  replace hbw := below_next1 hbw h2
  have z1 := K1.lt
  have cK := K1.cell
  clear h2 hr1
  go_wp2_with fail
  refine (H2.out _ _ (by omega) (by omega)).mono ?_
  rintro e w1 ⟨rfl, rfl⟩
  go_wp2_with fail
  refine (H3.out _ _ (by omega) (by omega)).mono ?_
  rintro e w1 ⟨rfl, rfl⟩
  go_wp2
  go_ret
  exact ⟨rfl, hbw⟩
set_option maxRecDepth 100000 in
set_option maxHeartbeats 1600000 in
theorem szPiece_over (m : Int) (A0 : Option Addr) (n0 c0 : Nat) (l0 : List RuleD) (A1 : Option Addr) (n1 c1 : Nat) (l1 : List ChunkD) (A2 : Option Addr) (n2 c2 : Nat) (l2 : List SpanD) (A3 : Option Addr) (n3 c3 : Nat) (l3 : List TieD) (w : World) (hl : Hid (LenP n0 l0 n1 l1 n2 l2 n3 l3)) (hr : RdP w A0 n0 l0 A1 n1 l1 A2 n2 l2 A3 n3 l3) (hn : Hid (n0 ≤ maxLen ∧ n1 ≤ maxLen ∧ n2 ≤ maxLen ∧ n3 ≤ maxLen)) (hs : Hid (∀ d ∈ l1, OkChunk d)) (hle : Hid (1048576 < szPieceN l0 l1 l2 l3)) :
    Calls Tryd.prog 41 #[.agg #[.int .i64 m, .slice A0 n0 c0, .slice A1 n1 c1, .slice A2 n2 c2, .slice A3 n3 c3], .int .i64 1048576] w fun e w' => e = .returned (.int .i64 (-1)) ∧ Below w.heap.size w w' := by
  have HE : Hid (szPieceN l0 l1 l2 l3 = szRuleL l0 + szChunkL l1 + szSpanL l2 + szTieL l3) := rfl
  have H0 := Lib.hid (fun (left : Int) (W : World) h1 hle => szRuleS_ok A0 n0 c0 l0 left W h1 (Lib.hid hl.out.1) hle)
  have H1 := Lib.hid (fun (left : Int) (W : World) h1 hR hle => szChunkS_ok A1 n1 c1 l1 left W h1 hl.out.2.1 hR hle)
  have H2 := Lib.hid (fun (left : Int) (W : World) h1 hle => szSpanS_ok A2 n2 c2 l2 left W h1 (Lib.hid hl.out.2.2.1) hle)
  have B0 := Lib.hid (fun (left : Int) (W : World) h0 h1 hle => szRuleS_big A0 n0 c0 l0 left W h0 h1 hn.out.1 (Lib.hid hl.out.1) hle)
  have B1 := Lib.hid (fun (left : Int) (W : World) h0 h1 hR hle => szChunkS_big A1 n1 c1 l1 left W h0 h1 hn.out.2.1 hl.out.2.1 hR hs.out hle)
  have B2 := Lib.hid (fun (left : Int) (W : World) h0 h1 hle => szSpanS_big A2 n2 c2 l2 left W h0 h1 hn.out.2.2.1 (Lib.hid hl.out.2.2.1) hle)
  have B3 := Lib.hid (fun (left : Int) (W : World) h0 h1 hle => szTieS_big A3 n3 c3 l3 left W h0 h1 hn.out.2.2.2 (Lib.hid hl.out.2.2.2) hle)
  have h := hle.out
  rw [HE.out] at h
  have hr1 := hr.2.1
  clear hl hle HE hr hn hs
  revert H0 H1 H2 B0 B1 B2 B3 h
  generalize szRuleL l0 = s0
  generalize szChunkL l1 = s1
  generalize szSpanL l2 = s2
  generalize szTieL l3 = s3
  intro H0 H1 H2 B0 B1 B2 B3 h
  have hbw := Below.refl w.heap.size w
  by_cases q0 : (1048576 : Int) < s0
  · go_enter Tryd.func41, Tryd.ntmps41
    go_wp2_with fail
    refine (B0.out _ _ (by omega) (by omega) (by omega)).mono ?_
    rintro e w1 ⟨rfl, rfl⟩
    go_wp2
    go_ret
    exact ⟨rfl, (by repeat' (first | (with_reducible exact Below.refl _ _) | (with_reducible assumption) | (with_reducible refine below_drewN ?_ _) | (with_reducible refine Below.drew ?_) | (with_reducible refine Below.alloc ?_ ?_ _) | (with_reducible refine Below.setCell ?_ ?_ _) | go_size))⟩
  have g0 : (0 : Int) ≤ 1048576 - s0 := by omega
  by_cases q1 : (1048576 : Int) - s0 < s1
  · go_enter Tryd.func41, Tryd.ntmps41
    go_wp2_with fail
    refine (H0.out _ _ (by omega) (by omega)).mono ?_
    rintro e w1 ⟨rfl, rfl⟩
    go_wp2_with fail
    refine (B1.out _ _ (by omega) (by omega) (hr1.alloc _) (by omega)).mono ?_
    rintro e w2 ⟨rfl, h2⟩
    replace hbw := below_next1 hbw h2
    clear hr1
    go_wp2
    go_ret
    exact ⟨rfl, hbw⟩
  have g1 : (0 : Int) ≤ 1048576 - s0 - s1 := by omega
  by_cases q2 : (1048576 : Int) - s0 - s1 < s2
  · go_enter Tryd.func41, Tryd.ntmps41
    go_wp2_with fail
    refine (H0.out _ _ (by omega) (by omega)).mono ?_
    rintro e w1 ⟨rfl, rfl⟩
    go_wp2_with fail
    refine (H1.out _ _ (by omega) (hr1.alloc _) (by omega)).mono ?_
    rintro e w2 ⟨rfl, h2⟩
    have K1 := Blk.fresh h2
    replace hbw := below_next1 hbw h2
    have z1 := K1.lt
    have cK := K1.cell
    clear h2 hr1
    go_wp2_with fail
    refine (B2.out _ _ (by omega) (by omega) (by omega)).mono ?_
    rintro e w1 ⟨rfl, rfl⟩
    go_wp2
    go_ret
    exact ⟨rfl, hbw⟩
  have g2 : (0 : Int) ≤ 1048576 - s0 - s1 - s2 := by omega
  go_enter Tryd.func41, Tryd.ntmps41
  go_wp2_with fail
  refine (H0.out _ _ (by omega) (by omega)).mono ?_
  rintro e w1 ⟨rfl, rfl⟩
  go_wp2_with fail
  refine (H1.out _ _ (by omega) (hr1.alloc _) (by omega)).mono ?_
  rintro e w2 ⟨rfl, h2⟩
  have K1 := Blk.fresh h2
  replace hbw := below_next1 hbw h2
  have z1 := K1.lt
  have cK := K1.cell
  clear h2 hr1
  go_wp2_with fail
  refine (H2.out _ _ (by omega) (by omega)).mono ?_
  rintro e w1 ⟨rfl, rfl⟩
  go_wp2_with fail
  refine (B3.out _ _ (by omega) (by omega) (by omega)).mono ?_
  rintro e w1 ⟨rfl, rfl⟩
  go_wp2
  go_ret
  exact ⟨rfl, hbw⟩
end Go.Proofs.YtfapdhfjcnehhaaDoor

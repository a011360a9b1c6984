
/-
  The law on a piece as a text: the walk.
-/
import Derived.Test.YtfapdhfjcnehhaaDoorShowR
import Derived.Deep.RegionWith
namespace Go.Proofs.YtfapdhfjcnehhaaDoor
open Go.RowKit
set_option linter.unusedVariables false

set_option maxRecDepth 100000 in
set_option maxHeartbeats 3200000 in
theorem lawShowPiece (m : Int) (A0 : Option Addr) (n0 c0 : Nat) (l0 : List RuleD) (A1 : Option Addr) (n1 c1 : Nat) (l1 : List ChunkD) (A2 : Option Addr) (n2 c2 : Nat) (l2 : List SpanD) (A3 : Option Addr) (n3 c3 : Nat) (l3 : List TieD) (w : World) (hh : (l0.length = n0 ∧ n0 ≤ maxLen ∧ Rd w 2 A0 n0 (l0.flatMap ruleCells)) ∧ (l1.length = n1 ∧ n1 ≤ maxLen ∧ Rd w 5 A1 n1 (l1.flatMap chunkCells) ∧ ∀ d ∈ l1, OkChunk d) ∧ (l2.length = n2 ∧ n2 ≤ maxLen ∧ Rd w 3 A2 n2 (l2.flatMap spanCells)) ∧ (l3.length = n3 ∧ n3 ≤ maxLen ∧ Rd w 2 A3 n3 (l3.flatMap tieCells))) (hT : Tab w) :
    Calls Tryd.prog 9 #[.agg #[.int .i64 m, .slice A0 n0 c0, .slice A1 n1 c1, .slice A2 n2 c2, .slice A3 n3 c3]] w fun e w' => e = .returned (.bool true) ∧ Below w.heap.size w w' := by
  obtain ⟨⟨e0, m0, r0⟩, ⟨e1, m1, r1, hs⟩, ⟨e2, m2, r2⟩, ⟨e3, m3, r3⟩⟩ := hh
  have HL : Hid (LenP n0 l0 n1 l1 n2 l2 n3 l3) := Lib.hid ⟨e0, e1, e2, e3⟩
  have HN := Lib.hid (And.intro m0 (And.intro m1 (And.intro m2 m3)))
  have HS := Lib.hid hs
  have hr : RdP w A0 n0 l0 A1 n1 l1 A2 n2 l2 A3 n3 l3 := ⟨r0, r1, r2, r3⟩
  have hb := Below.refl w.heap.size w
  clear m0 m1 m2 m3 r0 r1 r2 r3 hs
  by_cases hsz : szPieceN l0 l1 l2 l3 ≤ 1048576
  · have HZ := Lib.hid hsz
    have g0 : (0 : Int) ≤ 1048576 - (szPieceN l0 l1 l2 l3 : Nat) := by omega
    have HB : Hid (n0 ≤ 1048576 ∧ n1 ≤ 1048576 ∧ n2 ≤ 1048576 ∧ n3 ≤ 1048576) := by
      unfold szPieceN szRuleL szChunkL szSpanL szTieL at hsz
      exact Lib.hid (by omega)
    have HC : Hid ((l1.map szChunk).sum ≤ 1048576) := by
      unfold szPieceN szChunkL at hsz
      exact Lib.hid (by omega)
    have HS2 : Hid (∀ d ∈ l1, d.1.size ≤ maxLen) := HS.out
    clear hsz e0 e1 e2 e3
    go_enter Tryd.func9, Tryd.ntmps9
    go_wp2_with fail
    refine (szPiece_fit m A0 n0 c0 l0 A1 n1 c1 l1 A2 n2 c2 l2 A3 n3 c3 l3 _ HL (hr.alloc _) HZ).mono ?_
    rintro e w2 ⟨rfl, h2⟩
    replace hr := by first | exact hr.next h2 | exact hr.next1 h2 | exact hr.next2 h2
    replace hT := by first | exact hT.next h2 | exact hT.next1 h2 | exact hT.next2 h2
    have K1 := Blk.fresh h2
    replace hb := by first | exact below_next hb h2 | exact below_next1 hb h2 | exact below_next2 hb h2
    clear h2
    have cK1 := K1.cell
    have fK1 := K1.frozen
    have zK1 := K1.lt
    go_wp2_with fail
    refine (toPiece_any m A0 n0 c0 l0 A1 n1 c1 l1 A2 n2 c2 l2 A3 n3 c3 l3 _ HL hr HB.out).mono ?_
    rintro e w2 ⟨g10, g11, g12, g13, rfl, s1, h2⟩
    clear cK1 fK1 zK1
    replace K1 := by first | exact K1.next h2 | exact K1.next1 h2 | exact K1.next2 h2
    replace hr := by first | exact hr.next h2 | exact hr.next1 h2 | exact hr.next2 h2
    replace hT := by first | exact hT.next h2 | exact hT.next1 h2 | exact hT.next2 h2
    replace hb := by first | exact below_next hb h2 | exact below_next1 hb h2 | exact below_next2 hb h2
    clear h2
    have cK1 := K1.cell
    have fK1 := K1.frozen
    have zK1 := K1.lt
    go_wp2_with fail
    refine (specShowPiece_any _ _ _ _ _ _ _ _ _ _ _ _ _ _ _ _ _ _ HL s1 HB.out HS2 HC).mono ?_
    rintro e w2 ⟨rfl, h2⟩
    clear cK1 fK1 zK1
    replace K1 := by first | exact K1.next h2 | exact K1.next1 h2 | exact K1.next2 h2
    replace hr := by first | exact hr.next h2 | exact hr.next1 h2 | exact hr.next2 h2
    replace hT := by first | exact hT.next h2 | exact hT.next1 h2 | exact hT.next2 h2
    replace hb := by first | exact below_next hb h2 | exact below_next1 hb h2 | exact below_next2 hb h2
    clear h2
    have cK1 := K1.cell
    have fK1 := K1.frozen
    have zK1 := K1.lt
    clear s1
    go_wp2_with fail
    refine (toPiece_any m A0 n0 c0 l0 A1 n1 c1 l1 A2 n2 c2 l2 A3 n3 c3 l3 _ HL hr HB.out).mono ?_
    rintro e w2 ⟨g20, g21, g22, g23, rfl, s2, h2⟩
    clear cK1 fK1 zK1
    replace K1 := by first | exact K1.next h2 | exact K1.next1 h2 | exact K1.next2 h2
    replace hr := by first | exact hr.next h2 | exact hr.next1 h2 | exact hr.next2 h2
    replace hT := by first | exact hT.next h2 | exact hT.next1 h2 | exact hT.next2 h2
    replace hb := by first | exact below_next hb h2 | exact below_next1 hb h2 | exact below_next2 hb h2
    clear h2
    have cK1 := K1.cell
    have fK1 := K1.frozen
    have zK1 := K1.lt
    go_wp2_with fail
    refine (implShowPiece_any _ _ _ _ _ _ _ _ _ _ _ _ _ _ _ _ _ _ HL (s2.alloc _) HB.out HS2 HC (hT.alloc _)).mono ?_
    rintro e w2 ⟨rfl, h2⟩
    clear cK1 fK1 zK1
    replace K1 := by first | exact K1.next h2 | exact K1.next1 h2 | exact K1.next2 h2
    replace hr := by first | exact hr.next h2 | exact hr.next1 h2 | exact hr.next2 h2
    replace s2 := by first | exact s2.next h2 | exact s2.next1 h2 | exact s2.next2 h2
    have K2 := Blk.fresh h2
    replace hb := by first | exact below_next hb h2 | exact below_next1 hb h2 | exact below_next2 hb h2
    clear h2
    have cK1 := K1.cell
    have fK1 := K1.frozen
    have zK1 := K1.lt
    have cK2 := K2.cell
    have fK2 := K2.frozen
    have zK2 := K2.lt
    go_upto_region 10 with fail
    go_cut [26] (fun s wx => s = .bool false ∧ Below w.heap.size w wx)
    case first =>
      go_region_with (first
        | (go_at_call 42; refine (toPiece_any m A0 n0 c0 l0 A1 n1 c1 l1 A2 n2 c2 l2 A3 n3 c3 l3 _ HL (by first | exact hr | exact hr.drew) HB.out).mono ?_; rintro e w9 ⟨g30, g31, g32, g33, rfl, s3, h9⟩
           have h9' : Below w2.heap.size w2 w9 := (by first | exact h9 | exact (Below.refl _ w2).drew.trans h9)
           have s2' := s2.next h9'
           have b2 := K2.next h9'
           have y2 := b2.cell
           have zz := b2.lt
           clear h9)
        | (go_at_call 43; refine (eqPiece_same m (some ⟨g20, 0, none⟩) n0 n0 l0 (some ⟨g21, 0, none⟩) n1 n1 l1 (some ⟨g22, 0, none⟩) n2 n2 l2 (some ⟨g23, 0, none⟩) n3 n3 l3 _ _ _ _ _ _ _ _ _ HL s2' s3 HB.out).mono ?_; rintro e w10 ⟨rfl, h10⟩
           have hbb := below_next (hb.trans (h9'.mono hb.size)) h10))
      all_goals (go_wp2_with fail; go_meet; exact ⟨rfl, hbb⟩)
    case rest =>
      obtain ⟨rfl, hb2⟩ := hcut
      go_wp2
      go_ret
      exact ⟨rfl, hb2⟩
  · have HZ := Lib.hid (show 1048576 < szPieceN l0 l1 l2 l3 by omega)
    clear hsz e0 e1 e2 e3
    go_enter Tryd.func9, Tryd.ntmps9
    go_wp2_with fail
    refine (szPiece_over m A0 n0 c0 l0 A1 n1 c1 l1 A2 n2 c2 l2 A3 n3 c3 l3 _ HL (hr.alloc _) HN HS HZ).mono ?_
    rintro e w2 ⟨rfl, h2⟩
    have K1 := Blk.fresh h2
    replace hb := by first | exact below_next hb h2 | exact below_next1 hb h2 | exact below_next2 hb h2
    clear h2
    have cK1 := K1.cell
    have fK1 := K1.frozen
    have zK1 := K1.lt
    go_wp2
    go_ret
    exact ⟨rfl, (by repeat' (first | (with_reducible exact Below.refl _ _) | (with_reducible assumption) | (with_reducible refine below_drewN ?_ _) | (with_reducible refine Below.drew ?_) | (with_reducible refine Below.alloc ?_ ?_ _) | (with_reducible refine Below.setCell ?_ ?_ _) | go_size))⟩
end Go.Proofs.YtfapdhfjcnehhaaDoor

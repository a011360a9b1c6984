
/-
  The law FnReports: a report of a piece has a line for its place, each rule, chunk, span and tie. The walk.
-/
import Derived.Test.YtfapdhfjcnehhaaDoorDrawS
import Derived.Test.YtfapdhfjcnehhaaDoorDrawT
import Derived.Test.YtfapdhfjcnehhaaDoorReportL
import Derived.Test.YtfapdhfjcnehhaaDoorShowR
import Derived.Test.YtfapdhfjcnehhaaDoorShowV
import Derived.Test.YtfapdhfjcnehhaaDoorBig
namespace Go.Proofs.YtfapdhfjcnehhaaDoor
open Go.RowKit
set_option linter.unusedVariables false

theorem cells10 {w : World} {g h : Nat} {s t : TypeId} {a0 a1 a2 a3 a4 b0 b1 b2 b3 b4 : Value} (hg : Blk w g s #[a0, a1, a2, a3, a4]) (hh : Blk w h t #[b0, b1, b2, b3, b4]) :
    w.cell? ⟨g, 0, none⟩ = some a0 ∧ w.cell? ⟨g, 1, none⟩ = some a1 ∧ w.cell? ⟨g, 2, none⟩ = some a2 ∧ w.cell? ⟨g, 3, none⟩ = some a3 ∧ w.cell? ⟨g, 4, none⟩ = some a4 ∧
    w.cell? ⟨h, 0, none⟩ = some b0 ∧ w.cell? ⟨h, 1, none⟩ = some b1 ∧ w.cell? ⟨h, 2, none⟩ = some b2 ∧ w.cell? ⟨h, 3, none⟩ = some b3 ∧ w.cell? ⟨h, 4, none⟩ = some b4 :=
  ⟨hg.cell 0, hg.cell 1, hg.cell 2, hg.cell 3, hg.cell 4, hh.cell 0, hh.cell 1, hh.cell 2, hh.cell 3, hh.cell 4⟩
set_option maxRecDepth 100000 in
set_option maxHeartbeats 3200000 in
theorem lawReports (A : Option Addr) (nA cA : Nat) (l : List Int) (w : World) (hh : l.length = nA ∧ nA ≤ maxLen ∧ Rd w 1 A nA (u8cells l) ∧ ∀ x ∈ l, 0 ≤ x ∧ x ≤ 255) (hT : Tab w) :
    Calls Tryd.prog 7 #[.slice A nA cA] w fun e w' => e = .returned (.bool true) ∧ Below w.heap.size w w' := by
  obtain ⟨hl, hn, hr, hs⟩ := hh
  have HL := Lib.hid hl
  have HS := Lib.hid hs
  have hb := Below.refl w.heap.size w
  clear hl hs
  by_cases hbig : 1048576 < nA
  · have d0 : decide ((1048576 : Int) < nA) = true := decide_eq_true (by omega)
    go_enter Tryd.func7, Tryd.ntmps7
    go_wp2_with fail
    refine (big_is A nA cA _ hn).mono ?_
    rw [d0]
    rintro e w2 ⟨rfl, rfl⟩
    go_wp2
    go_ret
    exact ⟨rfl, hb⟩
  have d0 : decide ((1048576 : Int) < nA) = false := decide_eq_false (by omega)
  have hn1 : nA ≤ 1048576 := by omega
  go_enter Tryd.func7, Tryd.ntmps7
  go_wp2_with fail
  refine (big_is A nA cA _ hn).mono ?_
  rw [d0]
  rintro e w2 ⟨rfl, rfl⟩
  clear d0 hn hbig
  go_wp2_with fail
  refine (DrawPiece_any A nA cA l _ hn1 HL HS hr).mono ?_
  rintro e w2 ⟨m, A0, n0, c0, l0, A1, n1, c1, l1, A2, n2, c2, l2, A3, n3, c3, l3, rfl, hrp, hlen, hns, hsz, hok, h2⟩
  replace hok := hok rfl
  replace hb := below_next hb h2
  replace hr := hr.next h2
  replace hT := hT.next h2
  have K1 := Blk.new w2 52 #[.int .i64 m, .slice A0 n0 c0, .slice A1 n1 c1, .slice A2 n2 c2, .slice A3 n3 c3]
  have hzz := chunks_sum hlen.2.1 hns.2.1 hsz
  have hmm := (right_of hok hlen).m0
  have hrb := right_of hok hlen
  clear h2
  go_wp2_with fail
  refine (implShowPiece_any m A0 n0 c0 l0 A1 n1 c1 l1 A2 n2 c2 l2 A3 n3 c3 l3 _ (Lib.hid hlen) (hrp.alloc _) (by omega) (Lib.hid (fun d hd => Nat.le_trans (hsz d hd) (by decide))) (Lib.hid hzz) (hT.alloc _)).mono ?_
  rintro e w3 ⟨rfl, h2⟩
  replace hb := below_next1 hb h2
  replace hr := hr.next1 h2
  replace hT := (hT.alloc _).next h2
  replace K1 := K1.next h2
  clear h2 hrp
  have hlines := lines_piece hok
  have hbeg := begins_piece hok
  have hdm := decT_sz hmm.1 hmm.2
  have hssz : (showPieceT m l0 l1 l2 l3).size ≤ 2097152 := show_size hok hlen hzz
  rw [show headS m = ⟨#[105, 110, 32]⟩ ++ decT m ++ ⟨#[10]⟩ from rfl] at hbeg
  have CD := Lib.hid (fun W : World => specDec m W hmm)
  revert hlines hbeg hdm hssz CD
  generalize showPieceT m l0 l1 l2 l3 = s
  generalize decT m = dm
  intro hlines hbeg hdm hssz CD
  have CB := Lib.hid (fun W : World => begins_yes (⟨#[105, 110, 32]⟩ ++ dm ++ ⟨#[10]⟩) s W hbeg hssz)
  rw [hlen.1, hlen.2.1, hlen.2.2.1, hlen.2.2.2] at hlines
  clear hbeg hok hsz hzz hlen hmm hrb
  obtain ⟨hn0, hn1', hn2, hn3⟩ := hns
  go_wp2_with fail
  refine (specLinesOf_any s _ (by omega)).mono ?_
  intro e w4 hx
  obtain ⟨AL, cL, rfl, hM, h2⟩ := strsM_of hx
  rw [hlines]
  obtain ⟨nl, hnl⟩ : ∃ nl : Nat, nl = 1 + n0 + n1 + n2 + n3 := ⟨_, rfl⟩
  rw [← hnl]
  replace hb := below_next hb h2
  replace hr := hr.next h2
  replace hT := hT.next h2
  replace K1 := K1.next h2
  clear h2 hM hx hlines
  go_wp2_with fail
  refine (DrawShowPiece_any A nA cA l _ hn1 HL HS hr).mono ?_
  rintro e w5 ⟨xm, X0, x0, y0, L0, X1, x1, y1, L1, X2, x2, y2, L2, X3, x3, y3, L3, rfl, hrx, hlen, hns, hsz, _, h2⟩
  replace hb := below_next hb h2
  replace hr := (hr.next h2).alloc (.cells #[.int .i64 xm, .slice X0 x0 y0, .slice X1 x1 y1, .slice X2 x2 y2, .slice X3 x3 y3] 52)
  replace hT := (hT.next h2).alloc (.cells #[.int .i64 xm, .slice X0 x0 y0, .slice X1 x1 y1, .slice X2 x2 y2, .slice X3 x3 y3] 52)
  replace K1 := (K1.next h2).alloc (.cells #[.int .i64 xm, .slice X0 x0 y0, .slice X1 x1 y1, .slice X2 x2 y2, .slice X3 x3 y3] 52)
  have K2 := Blk.new w5 52 #[.int .i64 xm, .slice X0 x0 y0, .slice X1 x1 y1, .slice X2 x2 y2, .slice X3 x3 y3]
  replace hrx := hrx.alloc (.cells #[.int .i64 xm, .slice X0 x0 y0, .slice X1 x1 y1, .slice X2 x2 y2, .slice X3 x3 y3] 52)
  replace hb := hb.alloc hb.size (.cells #[.int .i64 xm, .slice X0 x0 y0, .slice X1 x1 y1, .slice X2 x2 y2, .slice X3 x3 y3] 52)
  have hzz := chunks_sum hlen.2.1 hns.2.1 hsz
  have HX := Lib.hid (And.intro hlen (And.intro hns (And.intro (show ∀ d ∈ L1, d.1.size ≤ maxLen from fun d hd => Nat.le_trans (hsz d hd) (by decide)) hzz)))
  clear h2 hlen hns hsz hzz
  go_wp2_with fail
  refine (DrawShowValues_any A nA cA l _ hn1 HL HS hr).mono ?_
  rintro e w6 ⟨AV, nv, cv, xs, rfl, hrv, hxl, hxn, hxb, h2⟩
  replace hb := below_next hb h2
  replace hr := hr.next h2
  replace hT := hT.next h2
  replace K1 := K1.next h2
  replace K2 := K2.next h2
  replace hrx := hrx.next h2
  clear h2
  go_wp2_with fail
  refine (DrawShowState_any A nA cA l _ hn1 HL HS hr).mono ?_
  rintro e w7 ⟨st, rfl, hst0, hst1, h2⟩
  replace hb := below_next hb h2
  replace hT := hT.next h2
  replace K1 := K1.next h2
  replace K2 := K2.next h2
  replace hrx := hrx.next h2
  replace hrv := hrv.next h2
  clear h2 hr HL HS hn1
  have CI := Lib.hid (fun (W : World) (hW : Below w7.heap.size w7 W) => implShowPiece_any xm X0 x0 y0 L0 X1 x1 y1 L1 X2 x2 y2 L2 X3 x3 y3 L3 W (Lib.hid HX.out.1) (hrx.next hW) (by have := HX.out.2.1; omega) (Lib.hid HX.out.2.2.1) (Lib.hid HX.out.2.2.2) (hT.next hW))
  have CS := Lib.hid (fun (W : World) (hW : Below w7.heap.size w7 W) => specShowPiece_any xm X0 x0 y0 L0 X1 x1 y1 L1 X2 x2 y2 L2 X3 x3 y3 L3 W (Lib.hid HX.out.1) (hrx.next hW) (by have := HX.out.2.1; omega) (Lib.hid HX.out.2.2.1) (Lib.hid HX.out.2.2.2))
  have CV := Lib.hid (fun (W : World) (hW : Below w7.heap.size w7 W) => implShowValues_any AV nv cv xs W (by omega) (Lib.hid hxl) (hrv.next hW) (Lib.hid hxb) (hT.next hW))
  have CW := Lib.hid (fun (W : World) (hW : Below w7.heap.size w7 W) => specShowValues_any AV nv cv xs W (by omega) (Lib.hid hxl) (hrv.next hW) (Lib.hid hxb))
  have CN := Lib.hid (fun W : World => implShowState_any st W ⟨hst0, hst1⟩)
  have CM := Lib.hid (fun W : World => specShowState_any st W ⟨hst0, hst1⟩)
  revert CI CS CV CW CN CM
  generalize showPieceT xm L0 L1 L2 L3 = sx
  generalize valsT xs = sv
  generalize stateT st = ss
  intro CI CS CV CW CN CM
  have hdsz : (⟨#[105, 110, 32]⟩ ++ dm : ByteArray).size ≤ 100 := by simp only [ByteArray.size_append, size_mk, List.length_cons, List.length_nil]; omega
  have hk1 := K1.lt
  have hk2 := K2.lt
  clear hrx hrv HX hxl hxb hssz hst0 hst1 hT
  go_upto_region 9 with fail
  have k7 := cells10 K1 K2
  have e1 : IntKind.i64.wrap (1 + (n0 : Int)) = 1 + (n0 : Int) := IntWalk.i64_in _ (by omega)
  have e2 : IntKind.i64.wrap (1 + (n0 : Int) + (n1 : Int)) = 1 + (n0 : Int) + (n1 : Int) := IntWalk.i64_in _ (by omega)
  have e3 : IntKind.i64.wrap (1 + (n0 : Int) + (n1 : Int) + (n2 : Int)) = 1 + (n0 : Int) + (n1 : Int) + (n2 : Int) := IntWalk.i64_in _ (by omega)
  have e4 : IntKind.i64.wrap (1 + (n0 : Int) + (n1 : Int) + (n2 : Int) + (n3 : Int)) = 1 + (n0 : Int) + (n1 : Int) + (n2 : Int) + (n3 : Int) := IntWalk.i64_in _ (by omega)
  have e5 : ((nl : Int) == 1 + (n0 : Int) + (n1 : Int) + (n2 : Int) + (n3 : Int)) = true := by rw [beq_iff_eq]; omega
  have s1 : ¬ 9223372036854775807 < 3 + dm.size := by omega
  have s2 : ¬ 9223372036854775807 < 3 + dm.size + 1 := by omega
  clear hnl hn0 hn1' hn2 hn3
  go_region_held3 (fun w' => w'.cell? ⟨w2.heap.size, 0, none⟩ = some (.int .i64 m) ∧ w'.cell? ⟨w2.heap.size, 1, none⟩ = some (.slice A0 n0 c0) ∧ w'.cell? ⟨w2.heap.size, 2, none⟩ = some (.slice A1 n1 c1) ∧ w'.cell? ⟨w2.heap.size, 3, none⟩ = some (.slice A2 n2 c2) ∧ w'.cell? ⟨w2.heap.size, 4, none⟩ = some (.slice A3 n3 c3) ∧
      w'.cell? ⟨w5.heap.size, 0, none⟩ = some (.int .i64 xm) ∧ w'.cell? ⟨w5.heap.size, 1, none⟩ = some (.slice X0 x0 y0) ∧ w'.cell? ⟨w5.heap.size, 2, none⟩ = some (.slice X1 x1 y1) ∧ w'.cell? ⟨w5.heap.size, 3, none⟩ = some (.slice X2 x2 y2) ∧ w'.cell? ⟨w5.heap.size, 4, none⟩ = some (.slice X3 x3 y3))
      (first | exact k7 | (with_reducible exact k10) | (with_reducible exact k11) | (with_reducible exact k12) | (with_reducible exact k13) | (with_reducible exact k14) | (with_reducible exact k15) | (with_reducible exact k16) | (with_reducible exact k17))
      (first
        | (go_at_call 34; refine (CD.out _).mono ?_; rintro e w10 ⟨rfl, h10⟩
           have q10 : Below w7.heap.size w7 w10 := below_next (by repeat' (first | (with_reducible exact Below.refl _ _) | (with_reducible assumption) | (with_reducible refine below_drewN ?_ _) | (with_reducible refine Below.drew ?_) | (with_reducible refine Below.alloc ?_ ?_ _) | (with_reducible refine Below.setCell ?_ ?_ _) | go_size)) h10
           have k10 := cells10 (K1.next q10) (K2.next q10))
        | (go_at_call 33; refine (CB.out _).mono ?_; rintro e w11 ⟨rfl, h11⟩
           have q11 : Below w7.heap.size w7 w11 := below_next (by repeat' (first | (with_reducible exact Below.refl _ _) | (with_reducible assumption) | (with_reducible refine below_drewN ?_ _) | (with_reducible refine Below.drew ?_) | (with_reducible refine Below.alloc ?_ ?_ _) | (with_reducible refine Below.setCell ?_ ?_ _) | go_size)) h11
           have k11 := cells10 (K1.next q11) (K2.next q11))
        | (go_at_call 28; refine (CI.out _ (by repeat' (first | (with_reducible exact Below.refl _ _) | (with_reducible assumption) | (with_reducible refine below_drewN ?_ _) | (with_reducible refine Below.drew ?_) | (with_reducible refine Below.alloc ?_ ?_ _) | (with_reducible refine Below.setCell ?_ ?_ _) | go_size))).mono ?_; rintro e w12 ⟨rfl, h12⟩
           have q12 : Below w7.heap.size w7 w12 := below_next (by repeat' (first | (with_reducible exact Below.refl _ _) | (with_reducible assumption) | (with_reducible refine below_drewN ?_ _) | (with_reducible refine Below.drew ?_) | (with_reducible refine Below.alloc ?_ ?_ _) | (with_reducible refine Below.setCell ?_ ?_ _) | go_size)) h12
           have k12 := cells10 (K1.next q12) (K2.next q12))
        | (go_at_call 35; refine (CS.out _ (by repeat' (first | (with_reducible exact Below.refl _ _) | (with_reducible assumption) | (with_reducible refine below_drewN ?_ _) | (with_reducible refine Below.drew ?_) | (with_reducible refine Below.alloc ?_ ?_ _) | (with_reducible refine Below.setCell ?_ ?_ _) | go_size))).mono ?_; rintro e w13 ⟨rfl, h13⟩
           have q13 : Below w7.heap.size w7 w13 := below_next (by repeat' (first | (with_reducible exact Below.refl _ _) | (with_reducible assumption) | (with_reducible refine below_drewN ?_ _) | (with_reducible refine Below.drew ?_) | (with_reducible refine Below.alloc ?_ ?_ _) | (with_reducible refine Below.setCell ?_ ?_ _) | go_size)) h13
           have k13 := cells10 (K1.next q13) (K2.next q13))
        | (go_at_call 19; refine (CV.out _ (by repeat' (first | (with_reducible exact Below.refl _ _) | (with_reducible assumption) | (with_reducible refine below_drewN ?_ _) | (with_reducible refine Below.drew ?_) | (with_reducible refine Below.alloc ?_ ?_ _) | (with_reducible refine Below.setCell ?_ ?_ _) | go_size))).mono ?_; rintro e w14 ⟨rfl, h14⟩
           have q14 : Below w7.heap.size w7 w14 := below_next (by repeat' (first | (with_reducible exact Below.refl _ _) | (with_reducible assumption) | (with_reducible refine below_drewN ?_ _) | (with_reducible refine Below.drew ?_) | (with_reducible refine Below.alloc ?_ ?_ _) | (with_reducible refine Below.setCell ?_ ?_ _) | go_size)) h14
           have k14 := cells10 (K1.next q14) (K2.next q14))
        | (go_at_call 17; refine (CW.out _ (by repeat' (first | (with_reducible exact Below.refl _ _) | (with_reducible assumption) | (with_reducible refine below_drewN ?_ _) | (with_reducible refine Below.drew ?_) | (with_reducible refine Below.alloc ?_ ?_ _) | (with_reducible refine Below.setCell ?_ ?_ _) | go_size))).mono ?_; rintro e w15 ⟨rfl, h15⟩
           have q15 : Below w7.heap.size w7 w15 := below_next (by repeat' (first | (with_reducible exact Below.refl _ _) | (with_reducible assumption) | (with_reducible refine below_drewN ?_ _) | (with_reducible refine Below.drew ?_) | (with_reducible refine Below.alloc ?_ ?_ _) | (with_reducible refine Below.setCell ?_ ?_ _) | go_size)) h15
           have k15 := cells10 (K1.next q15) (K2.next q15))
        | (go_at_call 36; refine (CN.out _).mono ?_; rintro e w16 ⟨rfl, h16⟩
           have q16 : Below w7.heap.size w7 w16 := below_next (by repeat' (first | (with_reducible exact Below.refl _ _) | (with_reducible assumption) | (with_reducible refine below_drewN ?_ _) | (with_reducible refine Below.drew ?_) | (with_reducible refine Below.alloc ?_ ?_ _) | (with_reducible refine Below.setCell ?_ ?_ _) | go_size)) h16
           have k16 := cells10 (K1.next q16) (K2.next q16))
        | (go_at_call 37; refine (CM.out _).mono ?_; rintro e w17 ⟨rfl, h17⟩
           have q17 : Below w7.heap.size w7 w17 := below_next (by repeat' (first | (with_reducible exact Below.refl _ _) | (with_reducible assumption) | (with_reducible refine below_drewN ?_ _) | (with_reducible refine Below.drew ?_) | (with_reducible refine Below.alloc ?_ ?_ _) | (with_reducible refine Below.setCell ?_ ?_ _) | go_size)) h17
           have k17 := cells10 (K1.next q17) (K2.next q17)
           have b17 := below_next hb q17))
  all_goals go_wp2
  all_goals go_ret
  all_goals exact ⟨rfl, b17⟩
end Go.Proofs.YtfapdhfjcnehhaaDoor

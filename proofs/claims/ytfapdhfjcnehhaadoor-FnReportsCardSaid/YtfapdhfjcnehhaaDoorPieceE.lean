
/-
  Contracts: whether a piece is right, of the program (impl.PieceOk).
-/
import Derived.Test.YtfapdhfjcnehhaaDoorPieceD
namespace Go.Proofs.YtfapdhfjcnehhaaDoor
open Go.RowKit
set_option linter.unusedVariables false

def spanB (n1 : Nat) (k : Nat) (d : SpanD) : Bool := decide (0 ≤ d.1) && (decide (d.1 ≤ d.2.1) && (decide (d.2.1 < (n1 : Int) - 1) && inB d.2.2 0 9))
def tieB (n0 : Nat) (k : Nat) (d : TieD) : Bool := inB d.1 0 ((n0 : Int) - 1) && (inB d.2 0 ((n0 : Int) - 1) && !decide (d.1 = d.2))
def headB (m : Int) (l0 : List RuleD) (l1 : List ChunkD) (l2 : List SpanD) (l3 : List TieD) : Bool := inB m 0 60 && (rulesB l0 && (chunksB l0 l1 && (decide (l2.length ≤ 40) && decide (l3.length ≤ 20))))
def pieceB (m : Int) (l0 : List RuleD) (l1 : List ChunkD) (l2 : List SpanD) (l3 : List TieD) : Bool := headB m l0 l1 l2 l3 && (allIx (spanB l1.length) l2 && allIx (tieB l0.length) l3)
theorem rulesB_le {l0 : List RuleD} (h : rulesB l0 = true) : l0.length ≤ 8 ∧ allIx ruleB l0 = true := by
  unfold rulesB at h
  rw [Bool.and_eq_true] at h
  exact ⟨of_decide_eq_true h.2, h.1⟩
theorem chunksB_le {l0 : List RuleD} {l1 : List ChunkD} (h : chunksB l0 l1 = true) : 1 ≤ l1.length ∧ l1.length ≤ 80 := by
  unfold chunksB at h
  rw [Bool.and_eq_true, Bool.and_eq_true] at h
  have := inB_ge h.1.1
  omega
set_option maxRecDepth 100000 in
set_option maxHeartbeats 3200000 in
theorem implPieceOk_any (m : Int) (A0 : Option Addr) (n0 c0 : Nat) (l0 : List RuleD) (A1 : Option Addr) (n1 c1 : Nat) (l1 : List ChunkD) (A2 : Option Addr) (n2 c2 : Nat) (l2 : List SpanD) (A3 : Option Addr) (n3 c3 : Nat) (l3 : List TieD) (w : World) (hl : Hid (LenP n0 l0 n1 l1 n2 l2 n3 l3)) (hr : RdP w A0 n0 l0 A1 n1 l1 A2 n2 l2 A3 n3 l3) (hn : n0 ≤ 1048576 ∧ n1 ≤ 1048576 ∧ n2 ≤ 1048576 ∧ n3 ≤ 1048576) (hs : Hid (∀ d ∈ l1, d.1.size ≤ maxLen)) :
    Calls Tryd.prog 58 #[.agg #[.int .i64 m, .slice A0 n0 c0, .slice A1 n1 c1, .slice A2 n2 c2, .slice A3 n3 c3]] w fun e w' => e = .returned (.bool (pieceB m l0 l1 l2 l3)) ∧ Below w.heap.size w w' := by
  have HR := Lib.hid (fun W (hW : Below w.heap.size w W) => hr.next hW)
  obtain ⟨q0, q1, q2, q3⟩ := hn
  have HD : Hid (pieceB m l0 l1 l2 l3 = (headB m l0 l1 l2 l3 && (allIx (spanB n1) l2 && allIx (tieB n0) l3))) := by
    have e0 := hl.out.1
    have e1 := hl.out.2.1
    exact Lib.hid (by unfold pieceB; rw [e0, e1])
  have HH : Hid (headB m l0 l1 l2 l3 = (inB m 0 60 && (rulesB l0 && (chunksB l0 l1 && (decide (n2 ≤ 40) && decide (n3 ≤ 20)))))) := by
    have e0 := hl.out.2.2.1
    have e1 := hl.out.2.2.2
    exact Lib.hid (by unfold headB; rw [e0, e1])
  have H1 := Lib.hid (fun (b : Bool) (hb : rulesB l0 = b) (W : World) (hR : RdP W A0 n0 l0 A1 n1 l1 A2 n2 l2 A3 n3 l3) => show Calls Tryd.prog 91 #[.agg #[.int .i64 m, .slice A0 n0 c0, .slice A1 n1 c1, .slice A2 n2 c2, .slice A3 n3 c3]] W fun e w' => e = .returned (.bool b) ∧ Below W.heap.size W w' by rw [← hb]; exact rulesOk_any m A0 n0 c0 l0 A1 n1 c1 l1 A2 n2 c2 l2 A3 n3 c3 l3 W hl hR q0)
  have H2 := Lib.hid (fun (hrb : rulesB l0 = true) (b : Bool) (hb : chunksB l0 l1 = b) (W : World) (hR : RdP W A0 n0 l0 A1 n1 l1 A2 n2 l2 A3 n3 l3) => show Calls Tryd.prog 92 #[.agg #[.int .i64 m, .slice A0 n0 c0, .slice A1 n1 c1, .slice A2 n2 c2, .slice A3 n3 c3]] W fun e w' => e = .returned (.bool b) ∧ Below W.heap.size W w' by
    rw [← hb]
    have h8 := rulesB_le hrb
    rw [hl.out.1] at h8
    exact chunksOk_any m A0 n0 c0 l0 A1 n1 c1 l1 A2 n2 c2 l2 A3 n3 c3 l3 W hl hR h8.1 q1 h8.2 hs)
  have HI := Lib.hid (fun (i : Int) (W : World) => isRule_any m A0 n0 c0 l0 A1 n1 c1 l1 A2 n2 c2 l2 A3 n3 c3 l3 i W q0)
  clear hr
  cases h0 : inB m 0 60 with
  | false =>
    have hf := Lib.hid (show pieceB m l0 l1 l2 l3 = false by rw [HD.out, HH.out, h0]; rfl)
    clear HD HH H1 H2
    go_enter Tryd.func58, Tryd.ntmps58
    go_wp2_with (go_at_call 90; refine (inRange_b _ _ _ _).mono ?_; rintro e w1 ⟨rfl, rfl⟩)
    go_ret
    exact ⟨ret_bool hf.out.symm, (by repeat' (first | (with_reducible exact Below.refl _ _) | (with_reducible assumption) | (with_reducible refine below_drewN ?_ _) | (with_reducible refine Below.drew ?_) | (with_reducible refine Below.alloc ?_ ?_ _) | (with_reducible refine Below.setCell ?_ ?_ _) | go_size))⟩
  | true =>
  cases h1 : rulesB l0 with
  | false =>
    have hf := Lib.hid (show pieceB m l0 l1 l2 l3 = false by rw [HD.out, HH.out, h0, h1]; rfl)
    have H := Lib.hid (H1.out _ h1)
    clear HD HH H1 H2 h1
    go_enter Tryd.func58, Tryd.ntmps58
    go_wp2_with (go_at_call 90; refine (inRange_b _ _ _ _).mono ?_; rintro e w1 ⟨rfl, rfl⟩)
    refine (H.out _ (HR.out _ (by repeat' (first | (with_reducible exact Below.refl _ _) | (with_reducible assumption) | (with_reducible refine below_drewN ?_ _) | (with_reducible refine Below.drew ?_) | (with_reducible refine Below.alloc ?_ ?_ _) | (with_reducible refine Below.setCell ?_ ?_ _) | go_size)))).mono ?_
    rintro e w2 ⟨rfl, h2⟩
    have hb := below_next1 (Below.refl _ _) h2
    have cK := (Blk.fresh h2).cell
    have zK := (Blk.fresh h2).lt
    clear h2
    go_wp2
    go_ret
    exact ⟨ret_bool hf.out.symm, hb⟩
  | true =>
  cases h2 : chunksB l0 l1 with
  | false =>
    have hf := Lib.hid (show pieceB m l0 l1 l2 l3 = false by rw [HD.out, HH.out, h0, h1, h2]; rfl)
    have HA := Lib.hid (H1.out _ h1)
    have HB := Lib.hid (H2.out h1 _ h2)
    clear HD HH H1 H2 h1 h2
    go_enter Tryd.func58, Tryd.ntmps58
    go_wp2_with (go_at_call 90; refine (inRange_b _ _ _ _).mono ?_; rintro e w1 ⟨rfl, rfl⟩)
    refine (HA.out _ (HR.out _ (by repeat' (first | (with_reducible exact Below.refl _ _) | (with_reducible assumption) | (with_reducible refine below_drewN ?_ _) | (with_reducible refine Below.drew ?_) | (with_reducible refine Below.alloc ?_ ?_ _) | (with_reducible refine Below.setCell ?_ ?_ _) | go_size)))).mono ?_
    rintro e w2 ⟨rfl, h2⟩
    have K := Blk.fresh h2
    have hb := below_next1 (Below.refl _ _) h2
    have cK := K.cell
    have zK := K.lt
    clear h2
    go_wp2_with fail
    refine (HB.out _ (HR.out _ (by repeat' (first | (with_reducible exact Below.refl _ _) | (with_reducible assumption) | (with_reducible refine below_drewN ?_ _) | (with_reducible refine Below.drew ?_) | (with_reducible refine Below.alloc ?_ ?_ _) | (with_reducible refine Below.setCell ?_ ?_ _) | go_size)))).mono ?_
    rintro e w3 ⟨rfl, h3⟩
    replace hb := below_next hb h3
    clear cK
    go_wp2
    go_ret
    exact ⟨ret_bool hf.out.symm, hb⟩
  | true =>
    have hc80 := chunksB_le h2
    rw [hl.out.2.1] at hc80
    obtain ⟨i1, i2⟩ := hc80
    have HH2 := Lib.hid (show headB m l0 l1 l2 l3 = (decide (n2 ≤ 40) && decide (n3 ≤ 20)) by rw [HH.out, h0, h1, h2]; rfl)
    have HA := Lib.hid (H1.out _ h1)
    have HB := Lib.hid (H2.out h1 _ h2)
    clear HH H1 H2 h1 h2
    by_cases h3 : n2 ≤ 40
    · by_cases h4 : n3 ≤ 20
      · have HH3 := Lib.hid (show headB m l0 l1 l2 l3 = true by rw [HH2.out, decide_eq_true h3, decide_eq_true h4]; rfl)
        clear HH2
        go_enter Tryd.func58, Tryd.ntmps58
        go_wp2_with (go_at_call 90; refine (inRange_b _ _ _ _).mono ?_; rintro e w1 ⟨rfl, rfl⟩)
        refine (HA.out _ (HR.out _ (by repeat' (first | (with_reducible exact Below.refl _ _) | (with_reducible assumption) | (with_reducible refine below_drewN ?_ _) | (with_reducible refine Below.drew ?_) | (with_reducible refine Below.alloc ?_ ?_ _) | (with_reducible refine Below.setCell ?_ ?_ _) | go_size)))).mono ?_
        rintro e w2 ⟨rfl, h2⟩
        have K := Blk.fresh h2
        have hb := below_next1 (Below.refl _ _) h2
        have cK := K.cell
        have zK := K.lt
        clear h2
        go_wp2_with fail
        refine (HB.out _ (HR.out _ (by repeat' (first | (with_reducible exact Below.refl _ _) | (with_reducible assumption) | (with_reducible refine below_drewN ?_ _) | (with_reducible refine Below.drew ?_) | (with_reducible refine Below.alloc ?_ ?_ _) | (with_reducible refine Below.setCell ?_ ?_ _) | go_size)))).mono ?_
        rintro e w3 ⟨rfl, h3⟩
        replace hb := below_next hb h3
        replace K := K.next h3
        clear cK zK h3
        have cK := K.cell
        have zK := K.lt
        go_wp2
        clear cK zK h0
        go_loopw [36] (fun i wr => ∃ k : Nat, k ≤ n2 ∧ AllK (spanB n1) l2 k ∧ i = .int .i64 k ∧ Blk wr w.heap.size 52 #[.int .i64 m, .slice A0 n0 c0, .slice A1 n1 c1, .slice A2 n2 c2, .slice A3 n3 c3] ∧ Below w.heap.size w wr) (fun i _ => n2 - (intOf i).toNat)
        case atStart => exact ⟨0, Nat.zero_le _, allK_zero _ _, rfl, K, hb⟩
        case round =>
          clear K hb
          obtain ⟨k, hk, ha, rfl, K, hb⟩ := hrel
          by_cases hlt : k < n2
          · obtain ⟨⟨x0, x1, x2⟩, hd⟩ : ∃ d, l2[k]? = some d := ⟨_, List.getElem?_eq_getElem (by have := hl.out.2.2.1; omega)⟩
            obtain ⟨b, off, hA, hblt, c0, c1, c2⟩ := span_at (HR.out _ hb).2.2.1 hlt hd
            have HAk := Lib.hid ha
            have HDk := Lib.hid hd
            have HP : Hid (spanB n1 k (x0, x1, x2) = (decide (0 ≤ x0) && (decide (x0 ≤ x1) && (decide (x1 < (n1 : Int) - 1) && inB x2 0 9)))) := rfl
            have HF := Lib.hid (fun (h : spanB n1 k (x0, x1, x2) = false) => show pieceB m l0 l1 l2 l3 = false by rw [HD.out, HH3.out, allK_no HDk.out h]; rfl)
            have cK := K.cell
            have zK := K.lt
            have hz := hb.size
            subst hA
            clear ha hd HA HB HD
            by_cases e0 : 0 ≤ x0
            · by_cases e1 : x0 ≤ x1
              · by_cases e2 : x1 < (n1 : Int) - 1
                · cases e3 : inB x2 0 9 with
                  | false =>
                    have hf := Lib.hid (HF.out (by rw [HP.out, e3]; simp))
                    go_wp2_with (go_at_call 90; refine (inRange_b _ _ _ _).mono ?_; rintro e w1 ⟨rfl, rfl⟩)
                    go_ret
                    exact ⟨ret_bool hf.out.symm, (by repeat' (first | (with_reducible exact Below.refl _ _) | (with_reducible assumption) | (with_reducible refine below_drewN ?_ _) | (with_reducible refine Below.drew ?_) | (with_reducible refine Below.alloc ?_ ?_ _) | (with_reducible refine Below.setCell ?_ ?_ _) | go_size))⟩
                  | true =>
                    have hst := allK_step HAk.out HDk.out (by rw [HP.out, e3, decide_eq_true e0, decide_eq_true e1, decide_eq_true e2]; rfl)
                    go_wp2_with (go_at_call 90; refine (inRange_b _ _ _ _).mono ?_; rintro e w1 ⟨rfl, rfl⟩)
                    go_roundw
                    case rel => exact ⟨k + 1, by omega, hst, by go_num, K.alloc _, (by repeat' (first | (with_reducible exact Below.refl _ _) | (with_reducible assumption) | (with_reducible refine below_drewN ?_ _) | (with_reducible refine Below.drew ?_) | (with_reducible refine Below.alloc ?_ ?_ _) | (with_reducible refine Below.setCell ?_ ?_ _) | go_size))⟩
                    case measure => simp [intOf]; omega
                · have hf := Lib.hid (HF.out (by rw [HP.out, decide_eq_false e2]; simp))
                  have e2' : (n1 : Int) - 1 ≤ x1 := by omega
                  go_wp2
                  go_ret
                  exact ⟨ret_bool hf.out.symm, (by repeat' (first | (with_reducible exact Below.refl _ _) | (with_reducible assumption) | (with_reducible refine below_drewN ?_ _) | (with_reducible refine Below.drew ?_) | (with_reducible refine Below.alloc ?_ ?_ _) | (with_reducible refine Below.setCell ?_ ?_ _) | go_size))⟩
              · have hf := Lib.hid (HF.out (by rw [HP.out, decide_eq_false e1]; simp))
                have e1' : x1 < x0 := by omega
                go_wp2
                go_ret
                exact ⟨ret_bool hf.out.symm, (by repeat' (first | (with_reducible exact Below.refl _ _) | (with_reducible assumption) | (with_reducible refine below_drewN ?_ _) | (with_reducible refine Below.drew ?_) | (with_reducible refine Below.alloc ?_ ?_ _) | (with_reducible refine Below.setCell ?_ ?_ _) | go_size))⟩
            · have hf := Lib.hid (HF.out (by rw [HP.out, decide_eq_false e0]; simp))
              have e0' : x0 < 0 := by omega
              go_wp2
              go_ret
              exact ⟨ret_bool hf.out.symm, (by repeat' (first | (with_reducible exact Below.refl _ _) | (with_reducible assumption) | (with_reducible refine below_drewN ?_ _) | (with_reducible refine Below.drew ?_) | (with_reducible refine Below.alloc ?_ ?_ _) | (with_reducible refine Below.setCell ?_ ?_ _) | go_size))⟩
          · have HS := Lib.hid (allK_all ha (by have := hl.out.2.2.1; omega))
            have cK := K.cell
            have zK := K.lt
            clear ha
            go_wp2
            clear cK zK
            obtain ⟨wO, hwO⟩ : ∃ wO, wO = wr := ⟨_, rfl⟩
            subst hwO
            go_loopw [69] (fun i wr => ∃ k : Nat, k ≤ n3 ∧ AllK (tieB n0) l3 k ∧ i = .int .i64 k ∧ Blk wr w.heap.size 52 #[.int .i64 m, .slice A0 n0 c0, .slice A1 n1 c1, .slice A2 n2 c2, .slice A3 n3 c3] ∧ Below w.heap.size w wr) (fun i _ => n3 - (intOf i).toNat)
            case atStart => exact ⟨0, Nat.zero_le _, allK_zero _ _, rfl, K, hb⟩
            case round =>
              clear K hb
              obtain ⟨k, hk, ha, rfl, K, hb⟩ := hrel
              by_cases hlt : k < n3
              · obtain ⟨⟨x0, x1⟩, hd⟩ : ∃ d, l3[k]? = some d := ⟨_, List.getElem?_eq_getElem (by have := hl.out.2.2.2; omega)⟩
                obtain ⟨b, off, hA, hblt, c0, c1⟩ := tie_at (HR.out _ hb).2.2.2 hlt hd
                have HAk := Lib.hid ha
                have HDk := Lib.hid hd
                have HP : Hid (tieB n0 k (x0, x1) = (inB x0 0 ((n0 : Int) - 1) && (inB x1 0 ((n0 : Int) - 1) && !decide (x0 = x1)))) := rfl
                have HF := Lib.hid (fun (h : tieB n0 k (x0, x1) = false) => show pieceB m l0 l1 l2 l3 = false by rw [HD.out, HH3.out, HS.out, allK_no HDk.out h]; rfl)
                have cK := K.cell
                have zK := K.lt
                have hz := hb.size
                subst hA
                clear ha hd HA HB HD
                go_wp2_with fail
                refine (HI.out _ _).mono ?_
                rintro e w4 ⟨rfl, h4⟩
                have hb4 := below_next1 hb h4
                have K4 := K.next1 h4
                have B4 := Blk.fresh h4
                clear cK zK c0 c1 K hb h4
                have cK := K4.cell
                have zK := K4.lt
                have cB := B4.cell
                have zB := B4.lt
                cases e0 : inB x0 0 ((n0 : Int) - 1) with
                | false =>
                  have hf := Lib.hid (HF.out (by rw [HP.out, e0]; rfl))
                  go_wp2
                  go_ret
                  exact ⟨ret_bool hf.out.symm, hb4⟩
                | true =>
                go_wp2_with fail
                refine (HI.out _ _).mono ?_
                rintro e w5 ⟨rfl, h5⟩
                have hb5 := below_next hb4 h5
                have K5 := K4.next h5
                have B5 := B4.next h5
                clear cK zK cB zB K4 B4 hb4 h5
                have cK := K5.cell
                have zK := K5.lt
                have cB := B5.cell
                have zB := B5.lt
                cases e1 : inB x1 0 ((n0 : Int) - 1) with
                | false =>
                  have hf := Lib.hid (HF.out (by rw [HP.out, e0, e1]; rfl))
                  go_wp2
                  go_ret
                  exact ⟨ret_bool hf.out.symm, hb5⟩
                | true =>
                by_cases e2 : x0 = x1
                · have hf := Lib.hid (HF.out (by rw [HP.out, e0, e1, decide_eq_true e2]; rfl))
                  subst e2
                  go_wp2
                  go_ret
                  exact ⟨ret_bool hf.out.symm, hb5⟩
                · have hst := allK_step HAk.out HDk.out (by rw [HP.out, e0, e1, decide_eq_false e2]; rfl)
                  have e3 : (x0 == x1) = false := beq_eq_false_iff_ne.2 e2
                  go_wp2
                  go_roundw
                  case rel => exact ⟨k + 1, by omega, hst, by go_num, K5, hb5⟩
                  case measure => simp [intOf]; omega
              · have hf := Lib.hid (show pieceB m l0 l1 l2 l3 = true by rw [HD.out, HH3.out, HS.out, allK_all ha (by have := hl.out.2.2.2; omega)]; rfl)
                clear ha
                go_wp2
                go_ret
                exact ⟨ret_bool hf.out.symm, hb⟩
      · have hf := Lib.hid (show pieceB m l0 l1 l2 l3 = false by rw [HD.out, HH2.out, decide_eq_false h4]; simp)
        clear HD HH2
        have h4' : (20 : Int) < (n3 : Int) := by omega
        go_enter Tryd.func58, Tryd.ntmps58
        go_wp2_with (go_at_call 90; refine (inRange_b _ _ _ _).mono ?_; rintro e w1 ⟨rfl, rfl⟩)
        refine (HA.out _ (HR.out _ (by repeat' (first | (with_reducible exact Below.refl _ _) | (with_reducible assumption) | (with_reducible refine below_drewN ?_ _) | (with_reducible refine Below.drew ?_) | (with_reducible refine Below.alloc ?_ ?_ _) | (with_reducible refine Below.setCell ?_ ?_ _) | go_size)))).mono ?_
        rintro e w2 ⟨rfl, h2⟩
        have K := Blk.fresh h2
        have hb := below_next1 (Below.refl _ _) h2
        have cK := K.cell
        have zK := K.lt
        clear h2
        go_wp2_with fail
        refine (HB.out _ (HR.out _ (by repeat' (first | (with_reducible exact Below.refl _ _) | (with_reducible assumption) | (with_reducible refine below_drewN ?_ _) | (with_reducible refine Below.drew ?_) | (with_reducible refine Below.alloc ?_ ?_ _) | (with_reducible refine Below.setCell ?_ ?_ _) | go_size)))).mono ?_
        rintro e w3 ⟨rfl, h3⟩
        replace hb := below_next hb h3
        replace K := K.next h3
        clear cK zK h3
        have cK := K.cell
        have zK := K.lt
        go_wp2
        go_ret
        exact ⟨ret_bool hf.out.symm, hb⟩
    · have hf := Lib.hid (show pieceB m l0 l1 l2 l3 = false by rw [HD.out, HH2.out, decide_eq_false h3]; simp)
      clear HD HH2
      have h4' : (40 : Int) < (n2 : Int) := by omega
      go_enter Tryd.func58, Tryd.ntmps58
      go_wp2_with (go_at_call 90; refine (inRange_b _ _ _ _).mono ?_; rintro e w1 ⟨rfl, rfl⟩)
      refine (HA.out _ (HR.out _ (by repeat' (first | (with_reducible exact Below.refl _ _) | (with_reducible assumption) | (with_reducible refine below_drewN ?_ _) | (with_reducible refine Below.drew ?_) | (with_reducible refine Below.alloc ?_ ?_ _) | (with_reducible refine Below.setCell ?_ ?_ _) | go_size)))).mono ?_
      rintro e w2 ⟨rfl, h2⟩
      have K := Blk.fresh h2
      have hb := below_next1 (Below.refl _ _) h2
      have cK := K.cell
      have zK := K.lt
      clear h2
      go_wp2_with fail
      refine (HB.out _ (HR.out _ (by repeat' (first | (with_reducible exact Below.refl _ _) | (with_reducible assumption) | (with_reducible refine below_drewN ?_ _) | (with_reducible refine Below.drew ?_) | (with_reducible refine Below.alloc ?_ ?_ _) | (with_reducible refine Below.setCell ?_ ?_ _) | go_size)))).mono ?_
      rintro e w3 ⟨rfl, h3⟩
      replace hb := below_next hb h3
      replace K := K.next h3
      clear cK zK h3
      have cK := K.cell
      have zK := K.lt
      go_wp2
      go_ret
      exact ⟨ret_bool hf.out.symm, hb⟩
end Go.Proofs.YtfapdhfjcnehhaaDoor


/-
  Contracts: whether a piece is right, of the program, continued (impl.splitOk, chunksOk, isRule, PieceOk).
-/
import Derived.Test.YtfapdhfjcnehhaaDoorPieceC
import Derived.Deep.RegionWith
namespace Go.Proofs.YtfapdhfjcnehhaaDoor
open Go.RowKit
set_option linter.unusedVariables false

theorem i64_pred (x : Int) (h0 : 0 ≤ x) (h1 : x ≤ 1000) : IntKind.i64.wrap (x - 1) = x - 1 := by
  rw [IntKind.wrap_i64]; omega
def fromB (l0 : List RuleD) (r f : Int) : Bool := match l0[r.toNat]? with | some d => inB f 1 (d.1 - 1) | none => false
def splitB (l0 : List RuleD) (r f q : Int) : Bool := inB r 0 ((l0.length : Int) - 1) && inB q 0 40 && fromB l0 r f
theorem fromB_at {l0 : List RuleD} {k : Nat} {f x0 x1 : Int} (h : l0[k]? = some (x0, x1)) : fromB l0 (k : Int) f = inB f 1 (x0 - 1) := by
  unfold fromB; rw [show ((k : Int)).toNat = k by omega, h]
theorem inB_ge {a b c : Int} (h : inB a b c = true) : b ≤ a ∧ a ≤ c := of_decide_eq_true h
set_option maxHeartbeats 400000 in
theorem isRule_any (m : Int) (A0 : Option Addr) (n0 c0 : Nat) (l0 : List RuleD) (A1 : Option Addr) (n1 c1 : Nat) (l1 : List ChunkD) (A2 : Option Addr) (n2 c2 : Nat) (l2 : List SpanD) (A3 : Option Addr) (n3 c3 : Nat) (l3 : List TieD) (i : Int) (w : World) (hn : n0 ≤ 1048576) :
    Calls Tryd.prog 93 #[.agg #[.int .i64 m, .slice A0 n0 c0, .slice A1 n1 c1, .slice A2 n2 c2, .slice A3 n3 c3], .int .i64 i] w fun e w' => e = .returned (.bool (inB i 0 ((n0 : Int) - 1))) ∧ Below w.heap.size w w' := by
  go_enter Tryd.func93, Tryd.ntmps93
  go_wp2_with (go_at_call 90; refine (inRange_b _ _ _ _).mono ?_; rintro e w1 ⟨rfl, rfl⟩)
  go_ret
  exact ⟨rfl, (by repeat' (first | (with_reducible exact Below.refl _ _) | (with_reducible assumption) | (with_reducible refine below_drewN ?_ _) | (with_reducible refine Below.drew ?_) | (with_reducible refine Below.alloc ?_ ?_ _) | (with_reducible refine Below.setCell ?_ ?_ _) | go_size))⟩
set_option maxRecDepth 100000 in
set_option maxHeartbeats 1600000 in
theorem splitOk_any (m : Int) (A0 : Option Addr) (n0 c0 : Nat) (l0 : List RuleD) (A1 : Option Addr) (n1 c1 : Nat) (l1 : List ChunkD) (A2 : Option Addr) (n2 c2 : Nat) (l2 : List SpanD) (A3 : Option Addr) (n3 c3 : Nat) (l3 : List TieD) (r f : Int) (s : Bool) (q : Int) (w : World) (hl : Hid (LenP n0 l0 n1 l1 n2 l2 n3 l3)) (hr : RdP w A0 n0 l0 A1 n1 l1 A2 n2 l2 A3 n3 l3) (hn : n0 ≤ 8) (hv : Hid (allIx ruleB l0 = true)) :
    Calls Tryd.prog 116 #[.agg #[.int .i64 m, .slice A0 n0 c0, .slice A1 n1 c1, .slice A2 n2 c2, .slice A3 n3 c3], .agg #[.int .i64 r, .int .i64 f, .bool s, .int .i64 q]] w fun e w' => e = .returned (.bool (splitB l0 r f q)) ∧ Below w.heap.size w w' := by
  have HD : Hid (splitB l0 r f q = (inB r 0 ((n0 : Int) - 1) && inB q 0 40 && fromB l0 r f)) := by
    have := hl.out.1
    exact Lib.hid (by unfold splitB; rw [this])
  have hL := Lib.hid hl.out.1
  have hR := hr.1
  clear hr hl
  cases h0 : inB r 0 ((n0 : Int) - 1) with
  | false =>
    have hf := Lib.hid (show splitB l0 r f q = false by rw [HD.out, h0]; rfl)
    go_enter Tryd.func116, Tryd.ntmps116
    go_wp2_with (go_at_call 90; refine (inRange_b _ _ _ _).mono ?_; rintro e w1 ⟨rfl, rfl⟩)
    go_ret
    exact ⟨ret_bool hf.out.symm, (by repeat' (first | (with_reducible exact Below.refl _ _) | (with_reducible assumption) | (with_reducible refine below_drewN ?_ _) | (with_reducible refine Below.drew ?_) | (with_reducible refine Below.alloc ?_ ?_ _) | (with_reducible refine Below.setCell ?_ ?_ _) | go_size))⟩
  | true =>
    cases h1 : inB q 0 40 with
    | false =>
      have hf := Lib.hid (show splitB l0 r f q = false by rw [HD.out, h0, h1]; rfl)
      go_enter Tryd.func116, Tryd.ntmps116
      go_wp2_with (go_at_call 90; refine (inRange_b _ _ _ _).mono ?_; rintro e w1 ⟨rfl, rfl⟩)
      go_ret
      exact ⟨ret_bool hf.out.symm, (by repeat' (first | (with_reducible exact Below.refl _ _) | (with_reducible assumption) | (with_reducible refine below_drewN ?_ _) | (with_reducible refine Below.drew ?_) | (with_reducible refine Below.alloc ?_ ?_ _) | (with_reducible refine Below.setCell ?_ ?_ _) | go_size))⟩
    | true =>
      obtain ⟨r1, r2⟩ := inB_ge h0
      obtain ⟨k, rfl⟩ := Int.eq_ofNat_of_zero_le r1
      have hlt : k < n0 := by omega
      obtain ⟨⟨x0, x1⟩, hd⟩ : ∃ d, l0[k]? = some d := ⟨_, List.getElem?_eq_getElem (by have := hL.out; omega)⟩
      have hrule := allIx_at hv.out hd
      have hf := Lib.hid (show splitB l0 (k : Int) f q = inB f 1 (x0 - 1) by rw [HD.out, h0, h1, fromB_at hd]; rfl)
      have hv0 : 2 ≤ x0 ∧ x0 ≤ 3 := by
        unfold ruleB at hrule
        have := (Bool.and_eq_true _ _).mp hrule
        exact inB_ge this.1
      obtain ⟨v0, v1⟩ := hv0
      have hw : IntKind.i64.wrap (x0 - 1) = x0 - 1 := i64_pred x0 (by omega) (by omega)
      have hW := Lib.hid hw
      clear hw
      obtain ⟨b, off, hA, hblt, c0, c1⟩ := rule_at ((hR.alloc (.cells #[.int .i64 m, .slice A0 n0 c0, .slice A1 n1 c1, .slice A2 n2 c2, .slice A3 n3 c3] 52)).alloc (.cells #[.int .i64 (k : Int), .int .i64 f, .bool s, .int .i64 q] 94)) hlt hd
      subst hA
      have ik0 : (0 : Int) ≤ (k : Int) := by omega
      have ik1 : (k : Int) < (n0 : Int) := by omega
      clear hd hrule hR
      go_enter Tryd.func116, Tryd.ntmps116
      go_wp2_with (go_at_call 90; refine (inRange_b _ _ _ _).mono ?_; rintro e w1 ⟨rfl, rfl⟩)
      have hw := hW.out
      go_quiet ((go_at_call 90; exact Calls.quiet_of_same ((inRange_b _ _ _ _).mono fun _ _ h => ⟨h.1, h.2.symm⟩)))
      go_wp2
      go_ret
      exact ⟨ret_bool hf.out.symm, (by repeat' (first | (with_reducible exact Below.refl _ _) | (with_reducible assumption) | (with_reducible refine below_drewN ?_ _) | (with_reducible refine Below.drew ?_) | (with_reducible refine Below.alloc ?_ ?_ _) | (with_reducible refine Below.setCell ?_ ?_ _) | go_size))⟩

def chunkB (l0 : List RuleD) (n k : Nat) (d : ChunkD) : Bool := plainB d.1 && (decide (n ≤ k + 1) || splitB l0 d.2.1 d.2.2.1 d.2.2.2.2)
def zeroB (d : ChunkD) : Bool := decide (d.2.1 = 0) && decide (d.2.2.1 = 0) && !d.2.2.2.1 && decide (d.2.2.2.2 = 0)
def lastB (l1 : List ChunkD) : Bool := match l1[l1.length - 1]? with | some d => zeroB d | none => false
def chunksB (l0 : List RuleD) (l1 : List ChunkD) : Bool := inB l1.length 1 80 && allIx (chunkB l0 l1.length) l1 && lastB l1
set_option maxRecDepth 100000 in
set_option maxHeartbeats 3200000 in
theorem chunksOk_any (m : Int) (A0 : Option Addr) (n0 c0 : Nat) (l0 : List RuleD) (A1 : Option Addr) (n1 c1 : Nat) (l1 : List ChunkD) (A2 : Option Addr) (n2 c2 : Nat) (l2 : List SpanD) (A3 : Option Addr) (n3 c3 : Nat) (l3 : List TieD) (w : World) (hl : Hid (LenP n0 l0 n1 l1 n2 l2 n3 l3)) (hr : RdP w A0 n0 l0 A1 n1 l1 A2 n2 l2 A3 n3 l3) (hn : n0 ≤ 8) (hn1 : n1 ≤ 1048576) (hv : Hid (allIx ruleB l0 = true)) (hs : Hid (∀ d ∈ l1, d.1.size ≤ maxLen)) :
    Calls Tryd.prog 92 #[.agg #[.int .i64 m, .slice A0 n0 c0, .slice A1 n1 c1, .slice A2 n2 c2, .slice A3 n3 c3]] w fun e w' => e = .returned (.bool (chunksB l0 l1)) ∧ Below w.heap.size w w' := by
  have HR := Lib.hid (fun W (hW : Below w.heap.size w W) => hr.next hW)
  have HD : Hid (chunksB l0 l1 = (inB (n1 : Int) 1 80 && allIx (chunkB l0 n1) l1 && lastB l1)) := by
    have := hl.out.2.1
    exact Lib.hid (by unfold chunksB; rw [this])
  have hL := Lib.hid hl.out.2.1
  clear hr
  cases hi : inB (n1 : Int) 1 80 with
  | false =>
    have hf := Lib.hid (show chunksB l0 l1 = false by rw [HD.out, hi]; rfl)
    go_enter Tryd.func92, Tryd.ntmps92
    go_wp2_with (go_at_call 90; refine (inRange_b _ _ _ _).mono ?_; rintro e w1 ⟨rfl, rfl⟩)
    go_ret
    exact ⟨ret_bool hf.out.symm, (by repeat' (first | (with_reducible exact Below.refl _ _) | (with_reducible assumption) | (with_reducible refine below_drewN ?_ _) | (with_reducible refine Below.drew ?_) | (with_reducible refine Below.alloc ?_ ?_ _) | (with_reducible refine Below.setCell ?_ ?_ _) | go_size))⟩
  | true =>
    obtain ⟨i1, i2⟩ := inB_ge hi
    have HI := Lib.hid hi
    go_enter Tryd.func92, Tryd.ntmps92
    go_wp2_with (go_at_call 90; refine (inRange_b _ _ _ _).mono ?_; rintro e w1 ⟨rfl, rfl⟩)
    clear hi
    go_loopw [4, 15] (fun _ i wr => ∃ k : Nat, k ≤ n1 ∧ AllK (chunkB l0 n1) l1 k ∧ i = .int .i64 k ∧ Blk wr w.heap.size 52 #[.int .i64 m, .slice A0 n0 c0, .slice A1 n1 c1, .slice A2 n2 c2, .slice A3 n3 c3] ∧ Below w.heap.size w wr) (fun _ i _ => n1 - (intOf i).toNat)
    case atStart => exact ⟨0, Nat.zero_le _, allK_zero _ _, rfl, Blk.new _ _ _, (by repeat' (first | (with_reducible exact Below.refl _ _) | (with_reducible assumption) | (with_reducible refine below_drewN ?_ _) | (with_reducible refine Below.drew ?_) | (with_reducible refine Below.alloc ?_ ?_ _) | (with_reducible refine Below.setCell ?_ ?_ _) | go_size))⟩
    case round =>
      obtain ⟨k, hk, ha, rfl, K, hb⟩ := hrel
      by_cases hlt : k < n1
      · obtain ⟨⟨x0, x1, x2, x3, x4⟩, hd⟩ : ∃ d, l1[k]? = some d := ⟨_, List.getElem?_eq_getElem (by have := hL.out; omega)⟩
        obtain ⟨b, off, hA, hblt, c0, c1, c2, c3, c4⟩ := chunk_at (HR.out _ hb).2.1 hlt hd
        have HX := Lib.hid (hs.out _ (List.mem_of_getElem? hd))
        have HA := Lib.hid ha
        have HDk := Lib.hid hd
        have HP : Hid (chunkB l0 n1 k (x0, x1, x2, x3, x4) = (plainB x0 && (decide (n1 ≤ k + 1) || splitB l0 x1 x2 x4))) := rfl
        have cK := K.cell
        have zK := K.lt
        have hz := hb.size
        subst hA
        clear ha hd
        cases h0 : plainB x0 with
        | false =>
          have hf := Lib.hid (show chunksB l0 l1 = false by rw [HD.out, HI.out, allK_no HDk.out (by rw [HP.out, h0]; rfl)]; rfl)
          go_wp2_with (go_at_call 115; refine (isPlain_any _ _ HX.out).mono ?_; rintro e w1 ⟨rfl, rfl⟩)
          go_ret
          exact ⟨ret_bool hf.out.symm, (by repeat' (first | (with_reducible exact Below.refl _ _) | (with_reducible assumption) | (with_reducible refine below_drewN ?_ _) | (with_reducible refine Below.drew ?_) | (with_reducible refine Below.alloc ?_ ?_ _) | (with_reducible refine Below.setCell ?_ ?_ _) | go_size))⟩
        | true =>
          by_cases hlast : n1 ≤ k + 1
          · have hst := allK_step HA.out HDk.out (by rw [HP.out, h0, decide_eq_true hlast]; rfl)
            have hq : ¬ ((k : Int) < (n1 : Int) - 1) := by omega
            go_wp2_with (go_at_call 115; refine (isPlain_any _ _ HX.out).mono ?_; rintro e w1 ⟨rfl, rfl⟩)
            go_roundw
            case rel => exact ⟨k + 1, by omega, hst, by go_num, K.alloc _, (by repeat' (first | (with_reducible exact Below.refl _ _) | (with_reducible assumption) | (with_reducible refine below_drewN ?_ _) | (with_reducible refine Below.drew ?_) | (with_reducible refine Below.alloc ?_ ?_ _) | (with_reducible refine Below.setCell ?_ ?_ _) | go_size))⟩
            case measure => simp [intOf]; omega
          · have hq : ((k : Int) < (n1 : Int) - 1) := by omega
            have hr2 := Lib.hid (HR.out _ hb)
            go_wp2_with (go_at_call 115; refine (isPlain_any _ _ HX.out).mono ?_; rintro e w1 ⟨rfl, rfl⟩)
            refine (splitOk_any _ _ _ _ _ _ _ _ _ _ _ _ _ _ _ _ _ _ _ _ _ _ hl (hr2.out.alloc _) hn hv).mono ?_
            rintro e w2 ⟨rfl, h2⟩
            have hb2 := below_next1 hb h2
            have K2 := K.next1 h2
            cases h1 : splitB l0 x1 x2 x4 with
            | false =>
              have hf := Lib.hid (show chunksB l0 l1 = false by rw [HD.out, HI.out, allK_no HDk.out (by rw [HP.out, h0, h1, decide_eq_false hlast]; rfl)]; rfl)
              clear cK
              go_wp2
              go_ret
              exact ⟨ret_bool hf.out.symm, hb2⟩
            | true =>
              have hst := allK_step HA.out HDk.out (by rw [HP.out, h0, h1]; simp)
              clear cK
              go_wp2
              go_roundw
              case rel => exact ⟨k + 1, by omega, hst, by go_num, K2, hb2⟩
              case measure => simp [intOf]; omega
      · obtain ⟨⟨x0, x1, x2, x3, x4⟩, hd⟩ : ∃ d, l1[n1 - 1]? = some d := ⟨_, List.getElem?_eq_getElem (by have := hL.out; omega)⟩
        have hlt2 : n1 - 1 < n1 := by omega
        obtain ⟨b, off, hA, hblt, c0, c1, c2, c3, c4⟩ := chunk_at (HR.out _ hb).2.1 hlt2 hd
        have hf := Lib.hid (show chunksB l0 l1 = zeroB (x0, x1, x2, x3, x4) by rw [HD.out, HI.out, allK_all ha (by have := hL.out; omega)]; unfold lastB; rw [hL.out, hd]; rfl)
        have cK := K.cell
        have zK := K.lt
        have hz := hb.size
        subst hA
        clear ha hd
        have j0 : ((n1 - 1 : Nat) : Int) = (n1 : Int) - 1 := by omega
        have J0 := Lib.hid j0
        clear j0
        by_cases e1 : x1 = 0
        · subst e1
          by_cases e2 : x2 = 0
          · subst e2
            cases x3 with
            | true =>
              have hf2 := Lib.hid (show chunksB l0 l1 = false by rw [hf.out]; simp [zeroB])
              go_wp2
              go_ret
              exact ⟨ret_bool hf2.out.symm, hb⟩
            | false =>
              by_cases e4 : x4 = 0
              · subst e4
                have hf2 := Lib.hid (show chunksB l0 l1 = true by rw [hf.out]; rfl)
                go_wp2
                go_ret
                exact ⟨ret_bool hf2.out.symm, hb⟩
              ·
                have hf2 := Lib.hid (show chunksB l0 l1 = false by rw [hf.out]; simp [zeroB, e4])
                have be4 : (x4 == 0) = false := beq_eq_false_iff_ne.2 e4
                go_wp2
                go_ret
                exact ⟨ret_bool hf2.out.symm, hb⟩
          ·
            have hf2 := Lib.hid (show chunksB l0 l1 = false by rw [hf.out]; simp [zeroB, e2])
            have be2 : (x2 == 0) = false := beq_eq_false_iff_ne.2 e2
            go_wp2
            go_ret
            exact ⟨ret_bool hf2.out.symm, hb⟩
        ·
          have hf2 := Lib.hid (show chunksB l0 l1 = false by rw [hf.out]; simp [zeroB, e1])
          have be1 : (x1 == 0) = false := beq_eq_false_iff_ne.2 e1
          go_wp2
          go_ret
          exact ⟨ret_bool hf2.out.symm, hb⟩
end Go.Proofs.YtfapdhfjcnehhaaDoor

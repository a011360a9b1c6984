
/-
  Contracts: whether a piece is right, of the reference (spec.l08Split).
-/
import Derived.Test.YtfapdhfjcnehhaaDoorPieceF
namespace Go.Proofs.YtfapdhfjcnehhaaDoor
open Go.RowKit
set_option linter.unusedVariables false

theorem l01In_is {a b c : Int} {v : Bool} (h : inB a b c = v) (w : World) : Calls Tryd.prog 44 #[.int .i64 a, .int .i64 b, .int .i64 c] w fun e w' => e = .returned (.bool v) ∧ w' = w := by
  rw [← h]; exact (l01In_b a b c w).mono fun _ _ h => ⟨h.1, h.2.symm⟩
set_option maxRecDepth 100000 in
set_option maxHeartbeats 800000 in
theorem l08Split_any (m : Int) (A0 : Option Addr) (n0 c0 : Nat) (l0 : List RuleD) (A1 : Option Addr) (n1 c1 : Nat) (l1 : List ChunkD) (A2 : Option Addr) (n2 c2 : Nat) (l2 : List SpanD) (A3 : Option Addr) (n3 c3 : Nat) (l3 : List TieD) (r f : Int) (s : Bool) (q : Int) (w : World) (hl : Hid (LenP n0 l0 n1 l1 n2 l2 n3 l3)) (hr : RdP w A0 n0 l0 A1 n1 l1 A2 n2 l2 A3 n3 l3) (hn : n0 ≤ 8) (hv : Hid (allIx ruleB l0 = true)) :
    Calls Tryd.prog 98 #[.agg #[.int .i64 m, .slice A0 n0 c0, .slice A1 n1 c1, .slice A2 n2 c2, .slice A3 n3 c3], .agg #[.int .i64 r, .int .i64 f, .bool s, .int .i64 q]] w fun e w' => e = .returned (.bool (splitB l0 r f q)) ∧ Below w.heap.size w w' := by
  have HD : Hid (splitB l0 r f q = (inB r 0 ((n0 : Int) - 1) && inB q 0 40 && fromB l0 r f)) := by
    have := hl.out.1
    exact Lib.hid (by unfold splitB; rw [this])
  have hL := Lib.hid hl.out.1
  have hR := hr.1
  clear hr hl
  have k0 : IntKind.i64.wrap ((n0 : Int) - 1) = (n0 : Int) - 1 := by rw [IntKind.wrap_i64]; omega
  have K0 := Lib.hid k0
  clear k0
  cases h0 : inB r 0 ((n0 : Int) - 1) with
  | false =>
    have hf := Lib.hid (show splitB l0 r f q = false by rw [HD.out, h0]; rfl)
    go_enter Tryd.func98, Tryd.ntmps98
    go_wp2
    have k0 := K0.out
    go_quiet ((go_at_call 44; first | (with_reducible exact Calls.quiet_of_same (l01In_is h0 _)) | exact Calls.quiet_of_same (l01In_is rfl _)))
    go_wp2
    go_ret
    exact ⟨ret_bool hf.out.symm, (by repeat' (first | (with_reducible exact Below.refl _ _) | (with_reducible assumption) | (with_reducible refine below_drewN ?_ _) | (with_reducible refine Below.drew ?_) | (with_reducible refine Below.alloc ?_ ?_ _) | (with_reducible refine Below.setCell ?_ ?_ _) | go_size))⟩
  | true =>
    obtain ⟨r1, r2⟩ := inB_ge h0
    obtain ⟨k, rfl⟩ := Int.eq_ofNat_of_zero_le r1
    have hlt : k < n0 := by omega
    obtain ⟨⟨x0, x1⟩, hd⟩ : ∃ d, l0[k]? = some d := ⟨_, List.getElem?_eq_getElem (by have := hL.out; omega)⟩
    have hrule := allIx_at hv.out hd
    have hf := Lib.hid (show splitB l0 (k : Int) f q = (inB q 0 40 && inB f 1 (x0 - 1)) by rw [HD.out, h0, fromB_at hd, Bool.true_and])
    have hv0 : 2 ≤ x0 ∧ x0 ≤ 3 := by
      unfold ruleB at hrule
      have := (Bool.and_eq_true _ _).mp hrule
      exact inB_ge this.1
    obtain ⟨v0, v1⟩ := hv0
    have hw : IntKind.i64.wrap (x0 - 1) = x0 - 1 := i64_pred x0 (by omega) (by omega)
    have hW := Lib.hid hw
    clear hw
    obtain ⟨b, off, hA, hblt, c0, c1⟩ := rule_at ((hR.alloc (.cells #[.int .i64 m, .slice A0 n0 c0, .slice A1 n1 c1, .slice A2 n2 c2, .slice A3 n3 c3] 52)).alloc (.cells #[.int .i64 (k : Int), .int .i64 f, .bool s, .int .i64 q] 94)) hlt hd
    subst hA
    have ik0 : (0 : Int) ≤ (k : Int) := by omega
    have ik1 : (k : Int) < (n0 : Int) := by omega
    clear hd hrule hR
    cases h1 : inB f 1 (x0 - 1) with
    | false =>
      have hf2 := Lib.hid (show splitB l0 (k : Int) f q = false by rw [hf.out, h1, Bool.and_false])
      go_enter Tryd.func98, Tryd.ntmps98
      go_wp2
      have k0 := K0.out
      have hw := hW.out
      go_quiet ((go_at_call 44; first | (with_reducible exact Calls.quiet_of_same (l01In_is h0 _)) | (with_reducible exact Calls.quiet_of_same (l01In_is h1 _)) | exact Calls.quiet_of_same (l01In_is rfl _)))
      go_wp2
      go_ret
      exact ⟨ret_bool hf2.out.symm, (by repeat' (first | (with_reducible exact Below.refl _ _) | (with_reducible assumption) | (with_reducible refine below_drewN ?_ _) | (with_reducible refine Below.drew ?_) | (with_reducible refine Below.alloc ?_ ?_ _) | (with_reducible refine Below.setCell ?_ ?_ _) | go_size))⟩
    | true =>
      have hf2 := Lib.hid (show splitB l0 (k : Int) f q = inB q 0 40 by rw [hf.out, h1, Bool.and_true])
      go_enter Tryd.func98, Tryd.ntmps98
      go_wp2
      have k0 := K0.out
      have hw := hW.out
      go_quiet ((go_at_call 44; first | (with_reducible exact Calls.quiet_of_same (l01In_is h0 _)) | (with_reducible exact Calls.quiet_of_same (l01In_is h1 _)) | exact Calls.quiet_of_same (l01In_is rfl _)))
      go_wp2
      go_ret
      exact ⟨ret_bool hf2.out.symm, (by repeat' (first | (with_reducible exact Below.refl _ _) | (with_reducible assumption) | (with_reducible refine below_drewN ?_ _) | (with_reducible refine Below.drew ?_) | (with_reducible refine Below.alloc ?_ ?_ _) | (with_reducible refine Below.setCell ?_ ?_ _) | go_size))⟩
end Go.Proofs.YtfapdhfjcnehhaaDoor


/-
  Contracts and the law: whether wishes are right (chapter 30).
-/
import Derived.Test.YtpfanhheodiamaaGreatDoorBase
import Derived.Test.YtpfanhheodiamaaGreatDoorChecked
namespace Go.Proofs.YtpfanhheodiamaaGreatDoor
open Go.RowKit
set_option linter.unusedVariables false

def inB (n a b : Int) : Bool := decide (a ≤ n ∧ n ≤ b)
theorem inB_yes {n a b : Int} (h : a ≤ n) (h' : n ≤ b) : inB n a b = true := decide_eq_true ⟨h, h'⟩
theorem inB_lo {n a b : Int} (h : ¬ a ≤ n) : inB n a b = false := decide_eq_false (fun g => h g.1)
theorem inB_hi {n a b : Int} (h : ¬ n ≤ b) : inB n a b = false := decide_eq_false (fun g => h g.2)

set_option maxHeartbeats 400000 in
theorem l01In_b (a b c : Int) (w : World) : Calls Tryz.prog 20 #[.int .i64 a, .int .i64 b, .int .i64 c] w fun e w' => e = .returned (.bool (inB a b c)) ∧ w = w' := by
  by_cases h0 : b ≤ a
  · by_cases h1 : a ≤ c
    · rw [inB_yes h0 h1]
      go_enter Tryz.func20, Tryz.ntmps20
      go_wp2
      go_ret
      exact ⟨rfl, rfl⟩
    · rw [inB_hi h1]
      go_enter Tryz.func20, Tryz.ntmps20
      go_wp2
      go_ret
      exact ⟨rfl, rfl⟩
  · rw [inB_lo h0]
    go_enter Tryz.func20, Tryz.ntmps20
    go_wp2
    go_ret
    exact ⟨rfl, rfl⟩
set_option maxHeartbeats 400000 in
theorem inRange_b (a b c : Int) (w : World) : Calls Tryz.prog 30 #[.int .i64 a, .int .i64 b, .int .i64 c] w fun e w' => e = .returned (.bool (inB a b c)) ∧ w = w' := by
  by_cases h0 : b ≤ a
  · by_cases h1 : a ≤ c
    · rw [inB_yes h0 h1]
      go_enter Tryz.func30, Tryz.ntmps30
      go_wp2
      go_ret
      exact ⟨rfl, rfl⟩
    · rw [inB_hi h1]
      go_enter Tryz.func30, Tryz.ntmps30
      go_wp2
      go_ret
      exact ⟨rfl, rfl⟩
  · rw [inB_lo h0]
    go_enter Tryz.func30, Tryz.ntmps30
    go_wp2
    go_ret
    exact ⟨rfl, rfl⟩

def optOk (a b : Int) : Bool := inB a 10 200 && inB b 0 100000
set_option maxHeartbeats 400000 in
theorem toOptions_any (a b : Int) (c d e : Bool) (w : World) : Calls Tryz.prog 14 #[.agg #[.int .i64 a, .int .i64 b, .bool c, .bool d, .bool e]] w fun x w' => x = .returned (.agg #[.int .i64 a, .int .i64 b, .bool c, .bool d, .bool e]) ∧ Below w.heap.size w w' := by
  go_enter Tryz.func14, Tryz.ntmps14
  go_wp2
  go_returns
  exact ⟨rfl, (by repeat' (first | (with_reducible exact Below.refl _ _) | (with_reducible assumption) | (with_reducible refine below_drewN ?_ _) | (with_reducible refine Below.drew ?_) | (with_reducible refine Below.alloc ?_ ?_ _) | (with_reducible refine Below.setCell ?_ ?_ _) | go_size))⟩
end Go.Proofs.YtpfanhheodiamaaGreatDoor

/-
  Contracts and the law: whether wishes are right (chapter 30).
-/
import Derived.Test.YtbddfbgbjlfocaaBase
import Derived.Test.YtbddfbgbjlfocaaChecked
namespace Go.Proofs.Ytbddfbgbjlfocaa
open Go.RowKit
set_option linter.unusedVariables false

def inB (n a b : Int) : Bool := decide (a ≤ n ∧ n ≤ b)
theorem inB_yes {n a b : Int} (h : a ≤ n) (h' : n ≤ b) : inB n a b = true := decide_eq_true ⟨h, h'⟩
theorem inB_lo {n a b : Int} (h : ¬ a ≤ n) : inB n a b = false := decide_eq_false (fun g => h g.1)
theorem inB_hi {n a b : Int} (h : ¬ n ≤ b) : inB n a b = false := decide_eq_false (fun g => h g.2)

set_option maxHeartbeats 400000 in
theorem l01In_b (a b c : Int) (w : World) : Calls Try.prog 77 #[.int .i64 a, .int .i64 b, .int .i64 c] w fun e w' => e = .returned (.bool (inB a b c)) ∧ w = w' := by
  by_cases h0 : b ≤ a
  · by_cases h1 : a ≤ c
    · rw [inB_yes h0 h1]
      go_enter Try.func77, Try.ntmps77
      go_wp2
      go_ret
      exact ⟨rfl, rfl⟩
    · rw [inB_hi h1]
      go_enter Try.func77, Try.ntmps77
      go_wp2
      go_ret
      exact ⟨rfl, rfl⟩
  · rw [inB_lo h0]
    go_enter Try.func77, Try.ntmps77
    go_wp2
    go_ret
    exact ⟨rfl, rfl⟩
set_option maxHeartbeats 400000 in
theorem inRange_b (a b c : Int) (w : World) : Calls Try.prog 97 #[.int .i64 a, .int .i64 b, .int .i64 c] w fun e w' => e = .returned (.bool (inB a b c)) ∧ w = w' := by
  by_cases h0 : b ≤ a
  · by_cases h1 : a ≤ c
    · rw [inB_yes h0 h1]
      go_enter Try.func97, Try.ntmps97
      go_wp2
      go_ret
      exact ⟨rfl, rfl⟩
    · rw [inB_hi h1]
      go_enter Try.func97, Try.ntmps97
      go_wp2
      go_ret
      exact ⟨rfl, rfl⟩
  · rw [inB_lo h0]
    go_enter Try.func97, Try.ntmps97
    go_wp2
    go_ret
    exact ⟨rfl, rfl⟩

def optOk (a b : Int) : Bool := inB a 10 200 && inB b 0 100000
set_option maxHeartbeats 400000 in
theorem specOptionsOk_any (a b : Int) (c d e : Bool) (w : World) : Calls Try.prog 26 #[.agg #[.int .i64 a, .int .i64 b, .bool c, .bool d, .bool e]] w fun e w' => e = .returned (.bool (optOk a b)) ∧ Below w.heap.size w w' := by
  unfold optOk
  cases h1 : inB a 10 200 with
  | true =>
    go_enter Try.func26, Try.ntmps26
    go_wp2_with (go_at_call 77; refine (l01In_b _ _ _ _).mono ?_; rintro e w1 ⟨rfl, rfl⟩)
    go_ret
    exact ⟨rfl, (by repeat' (first | (with_reducible exact Below.refl _ _) | (with_reducible assumption) | (with_reducible refine below_drewN ?_ _) | (with_reducible refine Below.drew ?_) | (with_reducible refine Below.alloc ?_ ?_ _) | (with_reducible refine Below.setCell ?_ ?_ _) | go_size))⟩
  | false =>
    go_enter Try.func26, Try.ntmps26
    go_wp2_with (go_at_call 77; refine (l01In_b _ _ _ _).mono ?_; rintro e w1 ⟨rfl, rfl⟩)
    go_ret
    exact ⟨rfl, (by repeat' (first | (with_reducible exact Below.refl _ _) | (with_reducible assumption) | (with_reducible refine below_drewN ?_ _) | (with_reducible refine Below.drew ?_) | (with_reducible refine Below.alloc ?_ ?_ _) | (with_reducible refine Below.setCell ?_ ?_ _) | go_size))⟩
set_option maxHeartbeats 400000 in
theorem implAreBounds_any (a b : Int) (w : World) : Calls Try.prog 78 #[.int .i64 a, .int .i64 b] w fun e w' => e = .returned (.bool (optOk a b)) ∧ w = w' := by
  unfold optOk
  cases h1 : inB a 10 200 with
  | true =>
    go_enter Try.func78, Try.ntmps78
    go_wp2_with (go_at_call 97; refine (inRange_b _ _ _ _).mono ?_; rintro e w1 ⟨rfl, rfl⟩)
    go_ret
    exact ⟨rfl, rfl⟩
  | false =>
    go_enter Try.func78, Try.ntmps78
    go_wp2_with (go_at_call 97; refine (inRange_b _ _ _ _).mono ?_; rintro e w1 ⟨rfl, rfl⟩)
    go_ret
    exact ⟨rfl, rfl⟩
set_option maxHeartbeats 400000 in
theorem implOptionsOk_any (a b : Int) (c d e : Bool) (w : World) : Calls Try.prog 28 #[.agg #[.int .i64 a, .int .i64 b, .bool c, .bool d, .bool e]] w fun e w' => e = .returned (.bool (optOk a b)) ∧ Below w.heap.size w w' := by
  go_enter Try.func28, Try.ntmps28
  go_wp2_with (go_at_call 78; refine (implAreBounds_any _ _ _).mono ?_; rintro e w1 ⟨rfl, rfl⟩)
  go_ret
  exact ⟨rfl, (by repeat' (first | (with_reducible exact Below.refl _ _) | (with_reducible assumption) | (with_reducible refine below_drewN ?_ _) | (with_reducible refine Below.drew ?_) | (with_reducible refine Below.alloc ?_ ?_ _) | (with_reducible refine Below.setCell ?_ ?_ _) | go_size))⟩
set_option maxHeartbeats 400000 in
theorem toOptions_any (a b : Int) (c d e : Bool) (w : World) : Calls Try.prog 27 #[.agg #[.int .i64 a, .int .i64 b, .bool c, .bool d, .bool e]] w fun x w' => x = .returned (.agg #[.int .i64 a, .int .i64 b, .bool c, .bool d, .bool e]) ∧ Below w.heap.size w w' := by
  go_enter Try.func27, Try.ntmps27
  go_wp2
  go_returns
  exact ⟨rfl, (by repeat' (first | (with_reducible exact Below.refl _ _) | (with_reducible assumption) | (with_reducible refine below_drewN ?_ _) | (with_reducible refine Below.drew ?_) | (with_reducible refine Below.alloc ?_ ?_ _) | (with_reducible refine Below.setCell ?_ ?_ _) | go_size))⟩
set_option maxHeartbeats 400000 in
theorem lawOptionsOk (a b : Int) (c d e : Bool) (w : World) (wa : (Lit.int .i64 a).wf = true) (wb : (Lit.int .i64 b).wf = true) : Calls Try.prog 5 #[.agg #[.int .i64 a, .int .i64 b, .bool c, .bool d, .bool e]] w fun e w' => e = .returned (.bool true) ∧ Below w.heap.size w w' := by
  have hb := Below.refl w.heap.size w
  go_enter Try.func5, Try.ntmps5
  go_wp2_with fail
  refine (toOptions_any _ _ _ _ _ _).mono ?_
  rintro e w2 ⟨rfl, h2⟩
  have A1 := Blk.fresh h2
  replace hb := by first | exact below_next hb h2 | exact below_next1 hb h2 | exact below_next2 hb h2
  clear h2
  have cA1 := A1.cell
  have fA1 := A1.frozen
  have zA1 := A1.lt
  go_wp2_with fail
  refine (specOptionsOk_any _ _ _ _ _ _).mono ?_
  rintro e w2 ⟨rfl, h2⟩
  clear cA1 fA1 zA1
  replace A1 := by first | exact A1.next h2 | exact A1.next1 h2 | exact A1.next2 h2
  replace hb := by first | exact below_next hb h2 | exact below_next1 hb h2 | exact below_next2 hb h2
  clear h2
  have cA1 := A1.cell
  have fA1 := A1.frozen
  have zA1 := A1.lt
  go_wp2_with fail
  refine (toOptions_any _ _ _ _ _ _).mono ?_
  rintro e w2 ⟨rfl, h2⟩
  clear cA1 fA1 zA1
  replace A1 := by first | exact A1.next h2 | exact A1.next1 h2 | exact A1.next2 h2
  replace hb := by first | exact below_next hb h2 | exact below_next1 hb h2 | exact below_next2 hb h2
  clear h2
  have cA1 := A1.cell
  have fA1 := A1.frozen
  have zA1 := A1.lt
  go_wp2_with fail
  refine (implOptionsOk_any _ _ _ _ _ _).mono ?_
  rintro e w2 ⟨rfl, h2⟩
  clear cA1 fA1 zA1
  replace A1 := by first | exact A1.next h2 | exact A1.next1 h2 | exact A1.next2 h2
  replace hb := by first | exact below_next hb h2 | exact below_next1 hb h2 | exact below_next2 hb h2
  clear h2
  have cA1 := A1.cell
  have fA1 := A1.frozen
  have zA1 := A1.lt
  go_wp2
  go_ret
  exact ⟨rfl, (by repeat' (first | (with_reducible exact Below.refl _ _) | (with_reducible assumption) | (with_reducible refine below_drewN ?_ _) | (with_reducible refine Below.drew ?_) | (with_reducible refine Below.alloc ?_ ?_ _) | (with_reducible refine Below.setCell ?_ ?_ _) | go_size))⟩
end Go.Proofs.Ytbddfbgbjlfocaa

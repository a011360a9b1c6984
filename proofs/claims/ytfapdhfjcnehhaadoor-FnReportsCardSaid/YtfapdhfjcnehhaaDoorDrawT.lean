
/-
  Contracts: what a state is called; whether a text begins with another one.
-/
import Derived.Test.YtfapdhfjcnehhaaDoorBase
import Derived.Test.YtfapdhfjcnehhaaDoorChecked
namespace Go.Proofs.YtfapdhfjcnehhaaDoor
open Go.RowKit
set_option linter.unusedVariables false

/-- What a state is called. -/
def stateT (n : Int) : ByteArray := if n = 1 then ⟨#[98, 101, 115, 116]⟩ else if n = 2 then ⟨#[115, 111, 102, 97, 114]⟩ else ⟨#[110, 111, 110, 101]⟩
set_option maxHeartbeats 400000 in
theorem begins_yes (a b : ByteArray) (w : World) (h : a.size ≤ b.size ∧ b.extract 0 a.size = a) (hs : b.size ≤ 2097152) :
    Calls Tryd.prog 33 #[.string a, .string b] w fun e w' => e = .returned (.bool true) ∧ Below w.heap.size w w' := by
  obtain ⟨h1, h2⟩ := h
  have h1' : (a.size : Int) ≤ b.size := by omega
  have d1 : decide ((a.size : Int) ≤ b.size) = true := decide_eq_true h1'
  have d2 : decide ((a.size : Int) < 0) = false := decide_eq_false (by omega)
  have d3 : decide (b.size < a.size) = false := decide_eq_false (by omega)
  have d4 : ¬ b.size < a.size := by omega
  go_enter Tryd.func33, Tryd.ntmps33
  go_wp2
  go_ret
  refine ⟨ret_bool ?_, (by repeat' (first | (with_reducible exact Below.refl _ _) | (with_reducible assumption) | (with_reducible refine below_drewN ?_ _) | (with_reducible refine Below.drew ?_) | (with_reducible refine Below.alloc ?_ ?_ _) | (with_reducible refine Below.setCell ?_ ?_ _) | go_size))⟩
  simp
set_option maxHeartbeats 400000 in
theorem implShowState_any (n : Int) (w : World) (h : -1 ≤ n ∧ n ≤ 3) :
    Calls Tryd.prog 36 #[.int .i64 n] w fun e w' => e = .returned (.string (stateT n)) ∧ Below w.heap.size w w' := by
  have h2 : n = -1 ∨ n = 0 ∨ n = 1 ∨ n = 2 ∨ n = 3 := by omega
  rcases h2 with rfl | rfl | rfl | rfl | rfl
  all_goals
    go_enter Tryd.func36, Tryd.ntmps36
    go_wp2
    all_goals go_ret
    all_goals exact ⟨rfl, (by repeat' (first | (with_reducible exact Below.refl _ _) | (with_reducible assumption) | (with_reducible refine below_drewN ?_ _) | (with_reducible refine Below.drew ?_) | (with_reducible refine Below.alloc ?_ ?_ _) | (with_reducible refine Below.setCell ?_ ?_ _) | go_size))⟩
set_option maxHeartbeats 400000 in
theorem specShowState_any (n : Int) (w : World) (h : -1 ≤ n ∧ n ≤ 3) :
    Calls Tryd.prog 37 #[.int .i64 n] w fun e w' => e = .returned (.string (stateT n)) ∧ Below w.heap.size w w' := by
  have h2 : n = -1 ∨ n = 0 ∨ n = 1 ∨ n = 2 ∨ n = 3 := by omega
  rcases h2 with rfl | rfl | rfl | rfl | rfl
  all_goals
    go_enter Tryd.func37, Tryd.ntmps37
    go_wp2
    all_goals go_ret
    all_goals exact ⟨rfl, (by repeat' (first | (with_reducible exact Below.refl _ _) | (with_reducible assumption) | (with_reducible refine below_drewN ?_ _) | (with_reducible refine Below.drew ?_) | (with_reducible refine Below.alloc ?_ ?_ _) | (with_reducible refine Below.setCell ?_ ?_ _) | go_size))⟩
end Go.Proofs.YtfapdhfjcnehhaaDoor


/-
  ShapeK put together (merge.py): ShapeC0, ShapeC1, ShapeC2, ShapeC3, ShapeC4, ShapeC5, ShapeC6, ShapeC7.
-/
import Derived.Test.YtpfanhheodiamaaGreatDoorShapeC
namespace Go.Proofs.YtpfanhheodiamaaGreatDoor
open Go.RowKit
set_option linter.unusedVariables false
set_option linter.unusedSimpArgs false

set_option maxRecDepth 100000 in
set_option maxHeartbeats 3200000 in
theorem kf_none (A : Option Addr) (n c : Nat) (l : List Int) (w : World) (hn : n ≤ 4096) (hc : n ≤ c) (hl : Hid (l.length = n)) (hr : Rd w 1 A n (intCells l)) (kind : Int) (hk : kind = 1 ∨ kind = 2 ∨ kind = 3 ∨ kind = 19) :
    Calls Tryz.prog 109 #[.int .i64 kind, .slice A n c] w fun e w' => e = .returned (.bool (kfB kind l)) ∧ Below w.heap.size w w' := by
  have HV := Lib.hid (fun c => all_value A n c l w (by omega) hl hr)
  have hb : kfB kind l = ((n : Int) == (0 : Nat)) := by rw [nat_eq_beq]; unfold kfB; rw [if_pos hk, hl.out]
  rw [hb]
  clear hb hr hl
  generalize l.all valueK = u at HV
  rcases hk with rfl | rfl | rfl | rfl
  all_goals
    go_enter Tryz.func109, Tryz.ntmps109
    go_wp2_with (go_at_call 147; refine (HV.out _).mono ?_; rintro e w1 ⟨rfl, h2⟩)
    go_ret
    refine ⟨ret_bool ?_, h2⟩
    rfl
set_option maxRecDepth 100000 in
set_option maxHeartbeats 3200000 in
theorem kf_list (A : Option Addr) (n c : Nat) (l : List Int) (w : World) (hn : n ≤ 4096) (hc : n ≤ c) (hl : Hid (l.length = n)) (hr : Rd w 1 A n (intCells l)) :
    Calls Tryz.prog 109 #[.int .i64 4, .slice A n c] w fun e w' => e = .returned (.bool (kfB 4 l)) ∧ Below w.heap.size w w' := by
  have HV := Lib.hid (fun c => all_value A n c l w (by omega) hl hr)
  have hb : kfB 4 l = l.all valueK := rfl
  rw [hb]
  clear hb hr hl
  generalize l.all valueK = u at HV ⊢
  go_enter Tryz.func109, Tryz.ntmps109
  go_wp2_with (go_at_call 147; refine (HV.out _).mono ?_; rintro e w1 ⟨rfl, h2⟩)
  go_ret
  exact ⟨rfl, h2⟩
set_option maxRecDepth 100000 in
set_option maxHeartbeats 3200000 in
theorem kf_call (A : Option Addr) (n c : Nat) (l : List Int) (w : World) (hn : n ≤ 4096) (hc : n ≤ c) (hl : Hid (l.length = n)) (hr : Rd w 1 A n (intCells l)) (kind : Int) (hk : kind = 5) :
    Calls Tryz.prog 109 #[.int .i64 kind, .slice A n c] w fun e w' => e = .returned (.bool (kfB kind l)) ∧ Below w.heap.size w w' := by
  have HV := Lib.hid (fun c => all_value A n c l w (by omega) hl hr)
  have hb : kfB kind l = (decide (1 ≤ n) && l.all valueK) := by rw [← hl.out]; rcases hk with rfl <;> rfl
  rw [hb]
  clear hb hr hl
  generalize l.all valueK = u at HV ⊢
  by_cases ht : 1 ≤ n
  · rw [decide_eq_true ht, Bool.true_and]
    have i1 : (1 : Int) ≤ n := by omega
    rcases hk with rfl
    all_goals
      go_enter Tryz.func109, Tryz.ntmps109
      go_wp2_with (go_at_call 147; refine (HV.out _).mono ?_; rintro e w1 ⟨rfl, h2⟩)
      go_ret
      exact ⟨rfl, h2⟩
  · rw [decide_eq_false ht, Bool.false_and]
    have i1 : ¬ (1 : Int) ≤ n := by omega
    rcases hk with rfl
    all_goals
      go_enter Tryz.func109, Tryz.ntmps109
      go_wp2_with (go_at_call 147; refine (HV.out _).mono ?_; rintro e w1 ⟨rfl, h2⟩)
      go_ret
      exact ⟨rfl, h2⟩
set_option maxRecDepth 100000 in
set_option maxHeartbeats 3200000 in
theorem kf_chain (A : Option Addr) (n c : Nat) (l : List Int) (w : World) (hn : n ≤ 4096) (hc : n ≤ c) (hl : Hid (l.length = n)) (hr : Rd w 1 A n (intCells l)) (kind : Int) (hk : kind = 7) :
    Calls Tryz.prog 109 #[.int .i64 kind, .slice A n c] w fun e w' => e = .returned (.bool (kfB kind l)) ∧ Below w.heap.size w w' := by
  have HV := Lib.hid (fun c => all_value A n c l w (by omega) hl hr)
  have hb : kfB kind l = (decide (2 ≤ n) && l.all valueK) := by rw [← hl.out]; rcases hk with rfl <;> rfl
  rw [hb]
  clear hb hr hl
  generalize l.all valueK = u at HV ⊢
  by_cases ht : 2 ≤ n
  · rw [decide_eq_true ht, Bool.true_and]
    have i1 : (2 : Int) ≤ n := by omega
    rcases hk with rfl
    all_goals
      go_enter Tryz.func109, Tryz.ntmps109
      go_wp2_with (go_at_call 147; refine (HV.out _).mono ?_; rintro e w1 ⟨rfl, h2⟩)
      go_ret
      exact ⟨rfl, h2⟩
  · rw [decide_eq_false ht, Bool.false_and]
    have i1 : ¬ (2 : Int) ≤ n := by omega
    rcases hk with rfl
    all_goals
      go_enter Tryz.func109, Tryz.ntmps109
      go_wp2_with (go_at_call 147; refine (HV.out _).mono ?_; rintro e w1 ⟨rfl, h2⟩)
      go_ret
      exact ⟨rfl, h2⟩
set_option maxRecDepth 100000 in
set_option maxHeartbeats 3200000 in
theorem kf_pick (A : Option Addr) (n c : Nat) (l : List Int) (w : World) (hn : n ≤ 4096) (hc : n ≤ c) (hl : Hid (l.length = n)) (hr : Rd w 1 A n (intCells l)) (kind : Int) (hk : kind = 8) :
    Calls Tryz.prog 109 #[.int .i64 kind, .slice A n c] w fun e w' => e = .returned (.bool (kfB kind l)) ∧ Below w.heap.size w w' := by
  have HV := Lib.hid (fun c => all_value A n c l w (by omega) hl hr)
  have hb : kfB kind l = (decide (n = 3) && l.all valueK) := by rw [← hl.out]; rcases hk with rfl <;> rfl
  rw [hb]
  clear hb hr hl
  generalize l.all valueK = u at HV ⊢
  by_cases ht : n = 3
  · rw [decide_eq_true ht, Bool.true_and]
    obtain rfl : n = 3 := ht
    rcases hk with rfl
    all_goals
      go_enter Tryz.func109, Tryz.ntmps109
      go_wp2_with (go_at_call 147; refine (HV.out _).mono ?_; rintro e w1 ⟨rfl, h2⟩)
      go_ret
      exact ⟨rfl, h2⟩
  · rw [decide_eq_false ht, Bool.false_and]
    have i1 : ((n : Int) == 3) = false := by rw [beq_eq_false_iff_ne]; omega
    rcases hk with rfl
    all_goals
      go_enter Tryz.func109, Tryz.ntmps109
      go_wp2_with (go_at_call 147; refine (HV.out _).mono ?_; rintro e w1 ⟨rfl, h2⟩)
      go_ret
      exact ⟨rfl, h2⟩
set_option maxRecDepth 100000 in
set_option maxHeartbeats 3200000 in
theorem kf_one (A : Option Addr) (n c : Nat) (l : List Int) (w : World) (hn : n ≤ 4096) (hc : n ≤ c) (hl : Hid (l.length = n)) (hr : Rd w 1 A n (intCells l)) (kind : Int) (hk : kind = 6 ∨ kind = 11 ∨ kind = 13 ∨ kind = 14) :
    Calls Tryz.prog 109 #[.int .i64 kind, .slice A n c] w fun e w' => e = .returned (.bool (kfB kind l)) ∧ Below w.heap.size w w' := by
  have HV := Lib.hid (fun c => all_value A n c l w (by omega) hl hr)
  have hb : kfB kind l = (decide (n = 1) && l.all valueK) := by rw [← hl.out]; rcases hk with rfl | rfl | rfl | rfl <;> rfl
  rw [hb]
  clear hb hr hl
  generalize l.all valueK = u at HV ⊢
  by_cases ht : n = 1
  · rw [decide_eq_true ht, Bool.true_and]
    obtain rfl : n = 1 := ht
    rcases hk with rfl | rfl | rfl | rfl
    all_goals
      go_enter Tryz.func109, Tryz.ntmps109
      go_wp2_with (go_at_call 147; refine (HV.out _).mono ?_; rintro e w1 ⟨rfl, h2⟩)
      go_ret
      exact ⟨rfl, h2⟩
  · rw [decide_eq_false ht, Bool.false_and]
    have i1 : ((n : Int) == 1) = false := by rw [beq_eq_false_iff_ne]; omega
    rcases hk with rfl | rfl | rfl | rfl
    all_goals
      go_enter Tryz.func109, Tryz.ntmps109
      go_wp2_with (go_at_call 147; refine (HV.out _).mono ?_; rintro e w1 ⟨rfl, h2⟩)
      go_ret
      exact ⟨rfl, h2⟩
set_option maxRecDepth 100000 in
set_option maxHeartbeats 3200000 in
theorem kf_var (A : Option Addr) (n c : Nat) (l : List Int) (w : World) (hn : n ≤ 4096) (hc : n ≤ c) (hl : Hid (l.length = n)) (hr : Rd w 1 A n (intCells l)) (kind : Int) (hk : kind = 12 ∨ kind = 15) :
    Calls Tryz.prog 109 #[.int .i64 kind, .slice A n c] w fun e w' => e = .returned (.bool (kfB kind l)) ∧ Below w.heap.size w w' := by
  have HV := Lib.hid (fun c => all_value A n c l w (by omega) hl hr)
  have hb : kfB kind l = (decide (n ≤ 1) && l.all valueK) := by rw [← hl.out]; rcases hk with rfl | rfl <;> rfl
  rw [hb]
  clear hb hr hl
  generalize l.all valueK = u at HV ⊢
  by_cases ht : n ≤ 1
  · rw [decide_eq_true ht, Bool.true_and]
    have i1 : (n : Int) ≤ 1 := by omega
    rcases hk with rfl | rfl
    all_goals
      go_enter Tryz.func109, Tryz.ntmps109
      go_wp2_with (go_at_call 147; refine (HV.out _).mono ?_; rintro e w1 ⟨rfl, h2⟩)
      go_ret
      exact ⟨rfl, h2⟩
  · rw [decide_eq_false ht, Bool.false_and]
    have i1 : ¬ (n : Int) ≤ 1 := by omega
    rcases hk with rfl | rfl
    all_goals
      go_enter Tryz.func109, Tryz.ntmps109
      go_wp2_with (go_at_call 147; refine (HV.out _).mono ?_; rintro e w1 ⟨rfl, h2⟩)
      go_ret
      exact ⟨rfl, h2⟩
set_option maxRecDepth 100000 in
set_option maxHeartbeats 3200000 in
theorem kf_fn (A : Option Addr) (n c : Nat) (l : List Int) (w : World) (hn : n ≤ 4096) (hc : n ≤ c) (hl : Hid (l.length = n)) (hr : Rd w 1 A n (intCells l)) :
    Calls Tryz.prog 109 #[.int .i64 9, .slice A n c] w fun e w' => e = .returned (.bool (kfB 9 l)) ∧ Below w.heap.size w w' := by
  have HV := Lib.hid (fun c => all_value A n c l w (by omega) hl hr)
  have HL := Lib.hid (fun w1 (h : Below w.heap.size w w1) c hc => last_value A n c l w1 (by omega) hc hl (hr.next h))
  have hb : kfB 9 l = lastB (valueK) l := rfl
  rw [hb]
  clear hb hr hl
  generalize l.all valueK = u at HV
  generalize lastB (valueK) l = v at HL ⊢
  go_enter Tryz.func109, Tryz.ntmps109
  go_wp2_with (first | (go_at_call 147; refine (HV.out _).mono ?_; rintro e w1 ⟨rfl, h2⟩) | (go_at_call 148; refine (HL.out _ h2 _ hc).mono ?_; rintro e w3 ⟨rfl, h3⟩))
  go_ret
  exact ⟨rfl, below_next h2 h3⟩
set_option maxRecDepth 100000 in
set_option maxHeartbeats 3200000 in
theorem kf_method (A : Option Addr) (n c : Nat) (l : List Int) (w : World) (hn : n ≤ 4096) (hc : n ≤ c) (hl : Hid (l.length = n)) (hr : Rd w 1 A n (intCells l)) :
    Calls Tryz.prog 109 #[.int .i64 20, .slice A n c] w fun e w' => e = .returned (.bool (kfB 20 l)) ∧ Below w.heap.size w w' := by
  have HV := Lib.hid (fun c => all_value A n c l w (by omega) hl hr)
  have HL := Lib.hid (fun w1 (h : Below w.heap.size w w1) c hc => last_block A n c l w1 (by omega) hc hl (hr.next h))
  have hb : kfB 20 l = lastB (isK 18) l := rfl
  rw [hb]
  clear hb hr hl
  generalize l.all valueK = u at HV
  generalize lastB (isK 18) l = v at HL ⊢
  go_enter Tryz.func109, Tryz.ntmps109
  go_wp2_with (first | (go_at_call 147; refine (HV.out _).mono ?_; rintro e w1 ⟨rfl, h2⟩) | (go_at_call 148; refine (HL.out _ h2 _ hc).mono ?_; rintro e w3 ⟨rfl, h3⟩))
  go_ret
  exact ⟨rfl, below_next h2 h3⟩
set_option maxRecDepth 100000 in
set_option maxHeartbeats 3200000 in
theorem kf_block (A : Option Addr) (n c : Nat) (l : List Int) (w : World) (hn : n ≤ 4096) (hc : n ≤ c) (hl : Hid (l.length = n)) (hr : Rd w 1 A n (intCells l)) :
    Calls Tryz.prog 109 #[.int .i64 18, .slice A n c] w fun e w' => e = .returned (.bool (kfB 18 l)) ∧ Below w.heap.size w w' := by
  have HV := Lib.hid (fun c => all_value A n c l w (by omega) hl hr)
  have HL := Lib.hid (fun w1 (h : Below w.heap.size w w1) c => all_stmt A n c l w1 (by omega) hl (hr.next h))
  have hb : kfB 18 l = l.all (stmtK) := rfl
  rw [hb]
  clear hb hr hl
  generalize l.all valueK = u at HV
  generalize l.all (stmtK) = v at HL ⊢
  go_enter Tryz.func109, Tryz.ntmps109
  go_wp2_with fail
  refine (HV.out _).mono ?_
  rintro e w1 ⟨rfl, h2⟩
  go_wp2_with fail
  refine (HL.out _ h2 _).mono ?_
  rintro e w3 ⟨rfl, h3⟩
  go_wp2
  go_ret
  exact ⟨rfl, below_next h2 h3⟩
set_option maxRecDepth 100000 in
set_option maxHeartbeats 3200000 in
theorem kf_class (A : Option Addr) (n c : Nat) (l : List Int) (w : World) (hn : n ≤ 4096) (hc : n ≤ c) (hl : Hid (l.length = n)) (hr : Rd w 1 A n (intCells l)) :
    Calls Tryz.prog 109 #[.int .i64 21, .slice A n c] w fun e w' => e = .returned (.bool (kfB 21 l)) ∧ Below w.heap.size w w' := by
  have HV := Lib.hid (fun c => all_value A n c l w (by omega) hl hr)
  have HL := Lib.hid (fun w1 (h : Below w.heap.size w w1) c => all_member A n c l w1 (by omega) hl (hr.next h))
  have hb : kfB 21 l = l.all (memberK) := rfl
  rw [hb]
  clear hb hr hl
  generalize l.all valueK = u at HV
  generalize l.all (memberK) = v at HL ⊢
  go_enter Tryz.func109, Tryz.ntmps109
  go_wp2_with fail
  refine (HV.out _).mono ?_
  rintro e w1 ⟨rfl, h2⟩
  go_wp2_with fail
  refine (HL.out _ h2 _).mono ?_
  rintro e w3 ⟨rfl, h3⟩
  go_wp2
  go_ret
  exact ⟨rfl, below_next h2 h3⟩
set_option maxRecDepth 100000 in
set_option maxHeartbeats 3200000 in
theorem kf_file (A : Option Addr) (n c : Nat) (l : List Int) (w : World) (hn : n ≤ 4096) (hc : n ≤ c) (hl : Hid (l.length = n)) (hr : Rd w 1 A n (intCells l)) :
    Calls Tryz.prog 109 #[.int .i64 22, .slice A n c] w fun e w' => e = .returned (.bool (kfB 22 l)) ∧ Below w.heap.size w w' := by
  have HV := Lib.hid (fun c => all_value A n c l w (by omega) hl hr)
  have HL := Lib.hid (fun w1 (h : Below w.heap.size w w1) c => all_top A n c l w1 (by omega) hl (hr.next h))
  have hb : kfB 22 l = l.all (topK) := rfl
  rw [hb]
  clear hb hr hl
  generalize l.all valueK = u at HV
  generalize l.all (topK) = v at HL ⊢
  go_enter Tryz.func109, Tryz.ntmps109
  go_wp2_with fail
  refine (HV.out _).mono ?_
  rintro e w1 ⟨rfl, h2⟩
  go_wp2_with fail
  refine (HL.out _ h2 _).mono ?_
  rintro e w3 ⟨rfl, h3⟩
  go_wp2
  go_ret
  exact ⟨rfl, below_next h2 h3⟩
set_option maxRecDepth 100000 in
set_option maxHeartbeats 3200000 in
theorem kf_rest (A : Option Addr) (n c : Nat) (l : List Int) (w : World) (hn : n ≤ 4096) (hc : n ≤ c) (hl : Hid (l.length = n)) (hr : Rd w 1 A n (intCells l)) (kind : Int) (hk : ¬ (1 ≤ kind ∧ kind ≤ 22)) :
    Calls Tryz.prog 109 #[.int .i64 kind, .slice A n c] w fun e w' => e = .returned (.bool (kfB kind l)) ∧ Below w.heap.size w w' := by
  have HV := Lib.hid (fun c => all_value A n c l w (by omega) hl hr)
  have d1 : (kind == 1) = false := by rw [beq_eq_false_iff_ne]; omega
  have d2 : (kind == 2) = false := by rw [beq_eq_false_iff_ne]; omega
  have d3 : (kind == 3) = false := by rw [beq_eq_false_iff_ne]; omega
  have d4 : (kind == 4) = false := by rw [beq_eq_false_iff_ne]; omega
  have d5 : (kind == 5) = false := by rw [beq_eq_false_iff_ne]; omega
  have d6 : (kind == 6) = false := by rw [beq_eq_false_iff_ne]; omega
  have d7 : (kind == 7) = false := by rw [beq_eq_false_iff_ne]; omega
  have d8 : (kind == 8) = false := by rw [beq_eq_false_iff_ne]; omega
  have d9 : (kind == 9) = false := by rw [beq_eq_false_iff_ne]; omega
  have d10 : (kind == 10) = false := by rw [beq_eq_false_iff_ne]; omega
  have d11 : (kind == 11) = false := by rw [beq_eq_false_iff_ne]; omega
  have d12 : (kind == 12) = false := by rw [beq_eq_false_iff_ne]; omega
  have d13 : (kind == 13) = false := by rw [beq_eq_false_iff_ne]; omega
  have d14 : (kind == 14) = false := by rw [beq_eq_false_iff_ne]; omega
  have d15 : (kind == 15) = false := by rw [beq_eq_false_iff_ne]; omega
  have d16 : (kind == 16) = false := by rw [beq_eq_false_iff_ne]; omega
  have d17 : (kind == 17) = false := by rw [beq_eq_false_iff_ne]; omega
  have d18 : (kind == 18) = false := by rw [beq_eq_false_iff_ne]; omega
  have d19 : (kind == 19) = false := by rw [beq_eq_false_iff_ne]; omega
  have d20 : (kind == 20) = false := by rw [beq_eq_false_iff_ne]; omega
  have d21 : (kind == 21) = false := by rw [beq_eq_false_iff_ne]; omega
  have d22 : (kind == 22) = false := by rw [beq_eq_false_iff_ne]; omega
  have hb : kfB kind l = false := by
    unfold kfB
    rw [if_neg (by omega), if_neg (by omega), if_neg (by omega), if_neg (by omega), if_neg (by omega), if_neg (by omega), if_neg (by omega), if_neg (by omega), if_neg (by omega), if_neg (by omega), if_neg (by omega), if_neg (by omega), if_neg (by omega), if_neg (by omega), if_neg (by omega)]
  rw [hb]
  clear hb hr hl hk
  generalize l.all valueK = u at HV
  go_enter Tryz.func109, Tryz.ntmps109
  go_wp2_with (go_at_call 147; refine (HV.out _).mono ?_; rintro e w1 ⟨rfl, h2⟩)
  go_ret
  exact ⟨rfl, h2⟩
end Go.Proofs.YtpfanhheodiamaaGreatDoor


/-
  Contracts: impl.kindsFit, continued: cascades, ifs, whiles; and at every kind.
-/
import Derived.Test.YtpfanhheodiamaaGreatDoorShapeK
namespace Go.Proofs.YtpfanhheodiamaaGreatDoor
open Go.RowKit
set_option linter.unusedVariables false
set_option linter.unusedSimpArgs false

theorem head_cons {l : List Int} {n : Nat} (hl : l.length = n) (hn : 0 < n) : ∃ x r, l = x :: r ∧ l[0]? = some x ∧ r.length + 1 = n := by
  match l, hl with
  | [], hl => simp at hl; omega
  | x :: r, hl => exact ⟨x, r, rfl, rfl, by simpa using hl⟩
set_option maxRecDepth 100000 in
set_option maxHeartbeats 3200000 in
theorem kf_cascade (A : Option Addr) (n c : Nat) (l : List Int) (w : World) (hn : n ≤ 4096) (hc : n ≤ c) (hl : Hid (l.length = n)) (hr : Rd w 1 A n (intCells l)) :
    Calls Tryz.prog 109 #[.int .i64 10, .slice A n c] w fun e w' => e = .returned (.bool (kfB 10 l)) ∧ Below w.heap.size w w' := by
  have HV := Lib.hid (fun c => all_value A n c l w (by omega) hl hr)
  have hb : kfB 10 l = (decide (2 ≤ n) && headB valueK l && (l.drop 1).all (isK 5)) := by rw [← hl.out]; rfl
  rw [hb]
  clear hb
  by_cases ht : 2 ≤ n
  · rw [decide_eq_true ht, Bool.true_and]
    obtain ⟨x, r, hx, hd, hrl⟩ := head_cons hl.out (by omega)
    obtain ⟨b, off, rfl, hblt, c0⟩ := int_at hr (by omega) hd
    have hR := Lib.hid (rd1_drop hr hl.out (by omega : n - 1 + 1 = n))
    have HC := Lib.hid (fun (v : Bool) (hb : valueK x = v) (W : World) => show Calls Tryz.prog 76 #[.int .i64 x] W fun e w' => e = .returned (.bool v) ∧ W = w' by rw [← hb]; exact isValue_any _ W)
    have hh : headB valueK l = valueK x := by rw [hx]; rfl
    rw [hh]
    have i1 : (2 : Int) ≤ n := by omega
    simp only [Nat.add_zero] at c0
    cases hp : valueK x with
    | false =>
      have HC2 := Lib.hid (HC.out _ hp)
      rw [Bool.false_and]
      clear HC hp hd hr hh hx hR
      generalize l.all valueK = u at HV
      go_enter Tryz.func109, Tryz.ntmps109
      go_wp2_with fail
      refine (HV.out _).mono ?_
      rintro e w1 ⟨rfl, h2⟩
      obtain ⟨hcc, hff⟩ := bcell h2
      go_wp2_with (go_at_call 76; refine (HC2.out _).mono ?_; rintro e w1 ⟨rfl, rfl⟩)
      go_ret
      exact ⟨rfl, h2⟩
    | true =>
      have HC2 := Lib.hid (HC.out _ hp)
      rw [Bool.true_and]
      have HL := Lib.hid (fun w1 (h : Below w.heap.size w w1) c => all_call (some ⟨b, off + 1, none⟩) (n - 1) c (l.drop 1) w1 (by omega) (Lib.hid (by rw [List.length_drop, hl.out])) (hR.out.next h))
      have e1 : (n : Int) - 1 = ((n - 1 : Nat) : Int) := by omega
      clear HC hp hd hr hh hx hR
      generalize l.all valueK = u at HV
      generalize (l.drop 1).all (isK 5) = v at HL ⊢
      go_enter Tryz.func109, Tryz.ntmps109
      go_wp2_with fail
      refine (HV.out _).mono ?_
      rintro e w1 ⟨rfl, h2⟩
      obtain ⟨hcc, hff⟩ := bcell h2
      go_wp2_with fail
      refine (HC2.out _).mono ?_
      rintro e w1 ⟨rfl, rfl⟩
      go_wp2_with fail
      refine (HL.out _ h2 _).mono ?_
      rintro e w3 ⟨rfl, h3⟩
      go_wp2
      go_ret
      exact ⟨rfl, below_next h2 h3⟩
  · rw [decide_eq_false ht, Bool.false_and, Bool.false_and]
    have i1 : ¬ (2 : Int) ≤ n := by omega
    clear hr
    generalize l.all valueK = u at HV
    go_enter Tryz.func109, Tryz.ntmps109
    go_wp2_with (go_at_call 147; refine (HV.out _).mono ?_; rintro e w1 ⟨rfl, h2⟩)
    go_ret
    exact ⟨rfl, h2⟩
set_option maxRecDepth 100000 in
set_option maxHeartbeats 3200000 in
theorem kf_if (A : Option Addr) (n c : Nat) (l : List Int) (w : World) (hn : n ≤ 4096) (hc : n ≤ c) (hl : Hid (l.length = n)) (hr : Rd w 1 A n (intCells l)) :
    Calls Tryz.prog 109 #[.int .i64 16, .slice A n c] w fun e w' => e = .returned (.bool (kfB 16 l)) ∧ Below w.heap.size w w' := by
  have HV := Lib.hid (fun c => all_value A n c l w (by omega) hl hr)
  have hb : kfB 16 l = (decide (2 ≤ n ∧ n ≤ 3) && headB valueK l && (l.drop 1).all (isK 18)) := by rw [← hl.out]; rfl
  rw [hb]
  clear hb
  by_cases ht : 2 ≤ n ∧ n ≤ 3
  · rw [decide_eq_true ht, Bool.true_and]
    obtain ⟨x, r, hx, hd, hrl⟩ := head_cons hl.out (by omega)
    obtain ⟨b, off, rfl, hblt, c0⟩ := int_at hr (by omega) hd
    have hR := Lib.hid (rd1_drop hr hl.out (by omega : n - 1 + 1 = n))
    have HC := Lib.hid (fun (v : Bool) (hb : valueK x = v) (W : World) => show Calls Tryz.prog 76 #[.int .i64 x] W fun e w' => e = .returned (.bool v) ∧ W = w' by rw [← hb]; exact isValue_any _ W)
    have hh : headB valueK l = valueK x := by rw [hx]; rfl
    rw [hh]
    have HI := Lib.hid (fun W => inRange_is (show inB (n : Int) 2 3 = true from decide_eq_true (by omega)) W)
    simp only [Nat.add_zero] at c0
    cases hp : valueK x with
    | false =>
      have HC2 := Lib.hid (HC.out _ hp)
      rw [Bool.false_and]
      clear HC hp hd hr hh hx hR
      generalize l.all valueK = u at HV
      go_enter Tryz.func109, Tryz.ntmps109
      go_wp2_with fail
      refine (HV.out _).mono ?_
      rintro e w1 ⟨rfl, h2⟩
      obtain ⟨hcc, hff⟩ := bcell h2
      go_wp2_with fail
      refine (HI.out _).mono ?_
      rintro e w5 ⟨rfl, rfl⟩
      go_wp2_with fail
      refine (HC2.out _).mono ?_
      rintro e w1 ⟨rfl, rfl⟩
      go_wp2
      go_ret
      exact ⟨rfl, h2⟩
    | true =>
      have HC2 := Lib.hid (HC.out _ hp)
      rw [Bool.true_and]
      have HL := Lib.hid (fun w1 (h : Below w.heap.size w w1) c => all_block (some ⟨b, off + 1, none⟩) (n - 1) c (l.drop 1) w1 (by omega) (Lib.hid (by rw [List.length_drop, hl.out])) (hR.out.next h))
      have e1 : (n : Int) - 1 = ((n - 1 : Nat) : Int) := by omega
      clear HC hp hd hr hh hx hR
      generalize l.all valueK = u at HV
      generalize (l.drop 1).all (isK 18) = v at HL ⊢
      go_enter Tryz.func109, Tryz.ntmps109
      go_wp2_with fail
      refine (HV.out _).mono ?_
      rintro e w1 ⟨rfl, h2⟩
      obtain ⟨hcc, hff⟩ := bcell h2
      go_wp2_with fail
      refine (HI.out _).mono ?_
      rintro e w5 ⟨rfl, rfl⟩
      go_wp2_with fail
      refine (HC2.out _).mono ?_
      rintro e w1 ⟨rfl, rfl⟩
      go_wp2_with fail
      refine (HL.out _ h2 _).mono ?_
      rintro e w3 ⟨rfl, h3⟩
      go_wp2
      go_ret
      exact ⟨rfl, below_next h2 h3⟩
  · rw [decide_eq_false ht, Bool.false_and, Bool.false_and]
    have HI := Lib.hid (fun W => inRange_is (show inB (n : Int) 2 3 = false from decide_eq_false (by omega)) W)
    clear hr
    generalize l.all valueK = u at HV
    go_enter Tryz.func109, Tryz.ntmps109
    go_wp2_with fail
    refine (HV.out _).mono ?_
    rintro e w1 ⟨rfl, h2⟩
    go_wp2_with fail
    refine (HI.out _).mono ?_
    rintro e w5 ⟨rfl, rfl⟩
    go_wp2
    go_ret
    exact ⟨rfl, h2⟩
set_option maxRecDepth 100000 in
set_option maxHeartbeats 3200000 in
theorem kf_while (A : Option Addr) (n c : Nat) (l : List Int) (w : World) (hn : n ≤ 4096) (hc : n ≤ c) (hl : Hid (l.length = n)) (hr : Rd w 1 A n (intCells l)) :
    Calls Tryz.prog 109 #[.int .i64 17, .slice A n c] w fun e w' => e = .returned (.bool (kfB 17 l)) ∧ Below w.heap.size w w' := by
  have HV := Lib.hid (fun c => all_value A n c l w (by omega) hl hr)
  have hb : kfB 17 l = (decide (n = 2) && headB valueK l && (l.drop 1).all (isK 18)) := by rw [← hl.out]; rfl
  rw [hb]
  clear hb
  by_cases ht : n = 2
  · rw [decide_eq_true ht, Bool.true_and]
    obtain rfl : n = 2 := ht
    obtain ⟨x, y, hx⟩ : ∃ x y, l = [x, y] := by
      match l, hl.out with
      | [x, y], _ => exact ⟨x, y, rfl⟩
    obtain ⟨b, off, rfl, hblt, c0⟩ := int_at (k := 0) (x := x) hr (by omega) (by rw [hx]; rfl)
    obtain ⟨b', off', e4, hblt', c1⟩ := int_at (k := 1) (x := y) hr (by omega) (by rw [hx]; rfl)
    injection e4 with e4
    injection e4 with e41 e42
    subst e41; subst e42
    have HC := Lib.hid (fun (v : Bool) (hb : valueK x = v) (W : World) => show Calls Tryz.prog 76 #[.int .i64 x] W fun e w' => e = .returned (.bool v) ∧ W = w' by rw [← hb]; exact isValue_any _ W)
    have HB := Lib.hid (fun (W : World) => isBlock_any y W)
    have hh : (headB valueK l && (l.drop 1).all (isK 18)) = (valueK x && isK 18 y) := by rw [hx]; simp [headB]
    rw [hh]
    simp only [Nat.add_zero] at c0
    cases hp : valueK x with
    | false =>
      have HC2 := Lib.hid (HC.out _ hp)
      rw [Bool.false_and]
      clear HC hp hr hh hx
      generalize l.all valueK = u at HV
      go_enter Tryz.func109, Tryz.ntmps109
      go_wp2_with fail
      refine (HV.out _).mono ?_
      rintro e w1 ⟨rfl, h2⟩
      obtain ⟨hcc, hff⟩ := bcell h2
      go_wp2_with fail
      refine (HC2.out _).mono ?_
      rintro e w1 ⟨rfl, rfl⟩
      go_wp2
      go_ret
      exact ⟨rfl, h2⟩
    | true =>
      have HC2 := Lib.hid (HC.out _ hp)
      rw [Bool.true_and]
      clear HC hp hr hh hx
      generalize l.all valueK = u at HV
      generalize isK 18 y = v at HB ⊢
      go_enter Tryz.func109, Tryz.ntmps109
      go_wp2_with fail
      refine (HV.out _).mono ?_
      rintro e w1 ⟨rfl, h2⟩
      obtain ⟨hcc, hff⟩ := bcell h2
      go_wp2_with fail
      refine (HC2.out _).mono ?_
      rintro e w1 ⟨rfl, rfl⟩
      go_wp2_with fail
      refine (HB.out _).mono ?_
      rintro e w1 ⟨rfl, rfl⟩
      go_wp2
      go_ret
      exact ⟨rfl, h2⟩
  · rw [decide_eq_false ht, Bool.false_and, Bool.false_and]
    have i1 : ((n : Int) == 2) = false := by rw [beq_eq_false_iff_ne]; omega
    clear hr
    generalize l.all valueK = u at HV
    go_enter Tryz.func109, Tryz.ntmps109
    go_wp2_with fail
    refine (HV.out _).mono ?_
    rintro e w1 ⟨rfl, h2⟩
    go_wp2
    go_ret
    exact ⟨rfl, h2⟩
theorem kindsFit_any (kind : Int) (A : Option Addr) (n c : Nat) (l : List Int) (w : World) (hn : n ≤ 4096) (hc : n ≤ c) (hl : Hid (l.length = n)) (hr : Rd w 1 A n (intCells l)) :
    Calls Tryz.prog 109 #[.int .i64 kind, .slice A n c] w fun e w' => e = .returned (.bool (kfB kind l)) ∧ Below w.heap.size w w' := by
  by_cases h : 1 ≤ kind ∧ kind ≤ 22
  · have h2 : kind = 1 ∨ kind = 2 ∨ kind = 3 ∨ kind = 4 ∨ kind = 5 ∨ kind = 6 ∨ kind = 7 ∨ kind = 8 ∨ kind = 9 ∨ kind = 10 ∨ kind = 11 ∨ kind = 12 ∨ kind = 13 ∨ kind = 14 ∨ kind = 15 ∨ kind = 16 ∨ kind = 17 ∨ kind = 18 ∨ kind = 19 ∨ kind = 20 ∨ kind = 21 ∨ kind = 22 := by omega
    rcases h2 with rfl | rfl | rfl | rfl | rfl | rfl | rfl | rfl | rfl | rfl | rfl | rfl | rfl | rfl | rfl | rfl | rfl | rfl | rfl | rfl | rfl | rfl
    · exact kf_none A n c l w hn hc hl hr 1 (by omega)
    · exact kf_none A n c l w hn hc hl hr 2 (by omega)
    · exact kf_none A n c l w hn hc hl hr 3 (by omega)
    · exact kf_list A n c l w hn hc hl hr
    · exact kf_call A n c l w hn hc hl hr 5 (by omega)
    · exact kf_one A n c l w hn hc hl hr 6 (by omega)
    · exact kf_chain A n c l w hn hc hl hr 7 (by omega)
    · exact kf_pick A n c l w hn hc hl hr 8 (by omega)
    · exact kf_fn A n c l w hn hc hl hr
    · exact kf_cascade A n c l w hn hc hl hr
    · exact kf_one A n c l w hn hc hl hr 11 (by omega)
    · exact kf_var A n c l w hn hc hl hr 12 (by omega)
    · exact kf_one A n c l w hn hc hl hr 13 (by omega)
    · exact kf_one A n c l w hn hc hl hr 14 (by omega)
    · exact kf_var A n c l w hn hc hl hr 15 (by omega)
    · exact kf_if A n c l w hn hc hl hr
    · exact kf_while A n c l w hn hc hl hr
    · exact kf_block A n c l w hn hc hl hr
    · exact kf_none A n c l w hn hc hl hr 19 (by omega)
    · exact kf_method A n c l w hn hc hl hr
    · exact kf_class A n c l w hn hc hl hr
    · exact kf_file A n c l w hn hc hl hr
  · exact kf_rest A n c l w hn hc hl hr kind h
end Go.Proofs.YtpfanhheodiamaaGreatDoor


/-
  Contracts: the kinds of a node's kids fit it (impl.lastIs, kindsFit). Written by program (gen_shapeb.py).
-/
import Derived.Test.YtpfanhheodiamaaGreatDoorShapeA
namespace Go.Proofs.YtpfanhheodiamaaGreatDoor
open Go.RowKit
set_option linter.unusedVariables false
set_option linter.unusedSimpArgs false

theorem rd1_take {w : World} {A : Option Addr} {m n : Nat} {l : List Int} (h : Rd w 1 A n (intCells l)) (hl : l.length = n) (hm : m ≤ n) : Rd w 1 A m (intCells (l.take m)) := by
  refine ⟨by simp [intCells]; omega, fun hne => ?_⟩
  obtain ⟨b, off, e, hb, hc⟩ := h.2 (by omega)
  refine ⟨b, off, e, hb, fun j u hj => hc j u ?_⟩
  unfold intCells at hj ⊢
  rw [List.getElem?_map, List.getElem?_take] at hj
  split at hj
  · rw [List.getElem?_map]; exact hj
  · cases hj
theorem rd1_drop {w : World} {b off m n : Nat} {l : List Int} (h : Rd w 1 (some ⟨b, off, none⟩) n (intCells l)) (hl : l.length = n) (hm : m + 1 = n) : Rd w 1 (some ⟨b, off + 1, none⟩) m (intCells (l.drop 1)) := by
  refine ⟨by simp [intCells]; omega, fun hne => ?_⟩
  obtain ⟨b', off', e, hb, hc⟩ := h.2 (by omega)
  injection e with e
  injection e with e1 e2 _
  subst e1; subst e2
  refine ⟨b, off + 1, rfl, hb, fun j u hj => ?_⟩
  have h2 := hc (j + 1) u (by
    unfold intCells at hj ⊢
    rw [List.getElem?_map, List.getElem?_drop] at hj
    rw [List.getElem?_map, Nat.add_comm j 1]; exact hj)
  rwa [show off + (j + 1) = off + 1 + j by omega] at h2
def lastB (p : Int → Bool) (l : List Int) : Bool := match l.getLast? with | some x => p x && (l.take (l.length - 1)).all (isK 1) | none => false
theorem lastB_some {p : Int → Bool} {l : List Int} {m : Nat} {x : Int} (hl : l.length = m + 1) (hx : l[m]? = some x) : lastB p l = (p x && (l.take m).all (isK 1)) := by
  have : l.getLast? = some x := by rw [List.getLast?_eq_getElem?, hl]; exact hx
  unfold lastB; rw [this, hl]; rfl
set_option maxRecDepth 100000 in
set_option maxHeartbeats 1600000 in
theorem last_value (A : Option Addr) (n c : Nat) (l : List Int) (w : World) (hn : n ≤ 4194304) (hc : n ≤ c) (hl : Hid (l.length = n)) (hr : Rd w 1 A n (intCells l)) :
    Calls Tryz.prog 148 #[.slice A n c, .func (.func 76) #[] #[]] w fun e w' => e = .returned (.bool (lastB (valueK) l)) ∧ Below w.heap.size w w' := by
  by_cases h0 : n = 0
  · subst h0
    have hz : l = [] := List.eq_nil_of_length_eq_zero hl.out
    have hr2 : lastB (valueK) l = false := by rw [hz]; rfl
    rw [hr2]
    clear hr hz hr2
    go_enter Tryz.func148, Tryz.ntmps148
    go_wp2
    go_ret
    exact ⟨rfl, (by repeat' (first | (with_reducible exact Below.refl _ _) | (with_reducible assumption) | (with_reducible refine below_drewN ?_ _) | (with_reducible refine Below.drew ?_) | (with_reducible refine Below.alloc ?_ ?_ _) | (with_reducible refine Below.setCell ?_ ?_ _) | go_size))⟩
  · obtain ⟨m, rfl⟩ : ∃ m, n = m + 1 := ⟨n - 1, by omega⟩
    obtain ⟨x, hd⟩ : ∃ d, l[m]? = some d := ⟨_, List.getElem?_eq_getElem (by have := hl.out; omega)⟩
    obtain ⟨b, off, rfl, hblt, c0⟩ := int_at hr (by omega) hd
    have HC := Lib.hid (fun (v : Bool) (hb : valueK x = v) (W : World) => show Calls Tryz.prog 76 #[.int .i64 x] W fun e w' => e = .returned (.bool v) ∧ W = w' by rw [← hb]; exact isValue_any _ W)
    have e1 : ((m + 1 : Nat) : Int) - 1 = (m : Nat) := by omega
    have g1 : (0 : Int) < ((m + 1 : Nat) : Int) := by omega
    rw [lastB_some hl.out hd]
    cases hp : valueK x with
    | false =>
      have HC2 := Lib.hid (HC.out _ hp)
      clear HC hp hd hr
      go_enter Tryz.func148, Tryz.ntmps148
      go_wp2_with (go_at_call 76; refine (HC2.out _).mono ?_; rintro e w1 ⟨rfl, rfl⟩)
      go_ret
      exact ⟨rfl, (by repeat' (first | (with_reducible exact Below.refl _ _) | (with_reducible assumption) | (with_reducible refine below_drewN ?_ _) | (with_reducible refine Below.drew ?_) | (with_reducible refine Below.alloc ?_ ?_ _) | (with_reducible refine Below.setCell ?_ ?_ _) | go_size))⟩
    | true =>
      have HC2 := Lib.hid (HC.out _ hp)
      have HA := Lib.hid (fun c => all_name (some ⟨b, off, none⟩) m c (l.take m) w (by omega) (Lib.hid (by rw [List.length_take, hl.out]; omega)) (rd1_take hr hl.out (by omega)))
      clear HC hp hd hr
      generalize (l.take m).all (isK 1) = u at HA ⊢
      go_enter Tryz.func148, Tryz.ntmps148
      go_wp2_with (first | (go_at_call 147; refine (HA.out _).mono ?_; rintro e w1 ⟨rfl, h2⟩) | (go_at_call 76; refine (HC2.out _).mono ?_; rintro e w1 ⟨rfl, rfl⟩))
      go_ret
      exact ⟨rfl, h2⟩
set_option maxRecDepth 100000 in
set_option maxHeartbeats 1600000 in
theorem last_block (A : Option Addr) (n c : Nat) (l : List Int) (w : World) (hn : n ≤ 4194304) (hc : n ≤ c) (hl : Hid (l.length = n)) (hr : Rd w 1 A n (intCells l)) :
    Calls Tryz.prog 148 #[.slice A n c, .func (.func 150) #[] #[]] w fun e w' => e = .returned (.bool (lastB (isK 18) l)) ∧ Below w.heap.size w w' := by
  by_cases h0 : n = 0
  · subst h0
    have hz : l = [] := List.eq_nil_of_length_eq_zero hl.out
    have hr2 : lastB (isK 18) l = false := by rw [hz]; rfl
    rw [hr2]
    clear hr hz hr2
    go_enter Tryz.func148, Tryz.ntmps148
    go_wp2
    go_ret
    exact ⟨rfl, (by repeat' (first | (with_reducible exact Below.refl _ _) | (with_reducible assumption) | (with_reducible refine below_drewN ?_ _) | (with_reducible refine Below.drew ?_) | (with_reducible refine Below.alloc ?_ ?_ _) | (with_reducible refine Below.setCell ?_ ?_ _) | go_size))⟩
  · obtain ⟨m, rfl⟩ : ∃ m, n = m + 1 := ⟨n - 1, by omega⟩
    obtain ⟨x, hd⟩ : ∃ d, l[m]? = some d := ⟨_, List.getElem?_eq_getElem (by have := hl.out; omega)⟩
    obtain ⟨b, off, rfl, hblt, c0⟩ := int_at hr (by omega) hd
    have HC := Lib.hid (fun (v : Bool) (hb : isK 18 x = v) (W : World) => show Calls Tryz.prog 150 #[.int .i64 x] W fun e w' => e = .returned (.bool v) ∧ W = w' by rw [← hb]; exact isBlock_any _ W)
    have e1 : ((m + 1 : Nat) : Int) - 1 = (m : Nat) := by omega
    have g1 : (0 : Int) < ((m + 1 : Nat) : Int) := by omega
    rw [lastB_some hl.out hd]
    cases hp : isK 18 x with
    | false =>
      have HC2 := Lib.hid (HC.out _ hp)
      clear HC hp hd hr
      go_enter Tryz.func148, Tryz.ntmps148
      go_wp2_with (go_at_call 150; refine (HC2.out _).mono ?_; rintro e w1 ⟨rfl, rfl⟩)
      go_ret
      exact ⟨rfl, (by repeat' (first | (with_reducible exact Below.refl _ _) | (with_reducible assumption) | (with_reducible refine below_drewN ?_ _) | (with_reducible refine Below.drew ?_) | (with_reducible refine Below.alloc ?_ ?_ _) | (with_reducible refine Below.setCell ?_ ?_ _) | go_size))⟩
    | true =>
      have HC2 := Lib.hid (HC.out _ hp)
      have HA := Lib.hid (fun c => all_name (some ⟨b, off, none⟩) m c (l.take m) w (by omega) (Lib.hid (by rw [List.length_take, hl.out]; omega)) (rd1_take hr hl.out (by omega)))
      clear HC hp hd hr
      generalize (l.take m).all (isK 1) = u at HA ⊢
      go_enter Tryz.func148, Tryz.ntmps148
      go_wp2_with (first | (go_at_call 147; refine (HA.out _).mono ?_; rintro e w1 ⟨rfl, h2⟩) | (go_at_call 150; refine (HC2.out _).mono ?_; rintro e w1 ⟨rfl, rfl⟩))
      go_ret
      exact ⟨rfl, h2⟩
end Go.Proofs.YtpfanhheodiamaaGreatDoor


/-
  Contracts: values and others told, at every kind (impl.value, impl.other). Written by program (gen_telle.py).
-/
import Derived.Test.YtpfanhheodiamaaGreatDoorTellIv
import Derived.Test.YtpfanhheodiamaaGreatDoorTellIo
import Derived.Test.YtpfanhheodiamaaGreatDoorTellP
namespace Go.Proofs.YtpfanhheodiamaaGreatDoor
open Go.RowKit
set_option linter.unusedVariables false
set_option linter.unusedSimpArgs false

theorem lit1 {l : List Int} (h : l.length = 1) (hv : ∀ v ∈ l, 0 ≤ v) : ∃ a : Nat, l = [(a : Int)] := by
  match l, h with
  | [x], _ => obtain ⟨a, rfl⟩ := Int.eq_ofNat_of_zero_le (hv x (by simp)); exact ⟨a, rfl⟩
theorem lit2 {l : List Int} (h : l.length = 2) (hv : ∀ v ∈ l, 0 ≤ v) : ∃ a b : Nat, l = [(a : Int), (b : Int)] := by
  match l, h with
  | [x, y], _ =>
    obtain ⟨a, rfl⟩ := Int.eq_ofNat_of_zero_le (hv x (by simp))
    obtain ⟨b, rfl⟩ := Int.eq_ofNat_of_zero_le (hv y (by simp))
    exact ⟨a, b, rfl⟩
theorem lit3 {l : List Int} (h : l.length = 3) (hv : ∀ v ∈ l, 0 ≤ v) : ∃ a b c : Nat, l = [(a : Int), (b : Int), (c : Int)] := by
  match l, h with
  | [x, y, z], _ =>
    obtain ⟨a, rfl⟩ := Int.eq_ofNat_of_zero_le (hv x (by simp))
    obtain ⟨b, rfl⟩ := Int.eq_ofNat_of_zero_le (hv y (by simp))
    obtain ⟨c, rfl⟩ := Int.eq_ofNat_of_zero_le (hv z (by simp))
    exact ⟨a, b, c, rfl⟩
theorem implValue_any (T Sb : Nat) (A : Option Addr) (n c : Nat) (w0 w : World) (ps : List PN) (f : Nat) (x : PN) (A' : Option Addr) (c' : Nat) (s fin : TS) (hN : NodeC 54 52 T Sb A n c w0 ps f) (h : TL 52 T Sb A n c w0 s w) (hr : Rd w0 1 A' x.kids.length (intCells x.kids)) (hcap : x.kids.length ≤ c') (hv : Hid (∀ v ∈ x.kids, 0 ≤ v ∧ v < (f : Int) ∧ v < (n : Int))) (hk : 1 ≤ x.kind ∧ x.kind ≤ 11) (hlo : cntLo x.kind ≤ (x.kids.length : Int)) (hhi : (x.kids.length : Int) ≤ cntHi x.kind) (hL : LeftE (tellF ps f) s (evs x) fin) :
    Calls Tryz.prog 77 #[.pointer (some ⟨T, 0, none⟩), .agg #[.int .i64 x.kind, .string x.text, .slice A' x.kids.length c', .bool x.blank]] w (Puts 52 T Sb A n c w0 w fin) := by
  have hv0 : ∀ v ∈ x.kids, 0 ≤ v := fun v h => (hv.out v h).1
  obtain ⟨kind, text, l, z⟩ := x
  dsimp only at *
  have h2 : kind = 1 ∨ kind = 2 ∨ kind = 3 ∨ kind = 4 ∨ kind = 5 ∨ kind = 6 ∨ kind = 7 ∨ kind = 8 ∨ kind = 9 ∨ kind = 10 ∨ kind = 11 := by omega
  rcases h2 with rfl | rfl | rfl | rfl | rfl | rfl | rfl | rfl | rfl | rfl | rfl
  · have hlo' : (0 : Int) ≤ (l.length : Int) := hlo
    have hhi' : (l.length : Int) ≤ (0 : Int) := hhi
    clear hlo hhi
    exact iv_1 T Sb A n c w0 w ps f text A' c' z s fin l.length l (Lib.hid rfl) (by omega) (by omega) hN h hr hcap hv hL
  · have hlo' : (0 : Int) ≤ (l.length : Int) := hlo
    have hhi' : (l.length : Int) ≤ (0 : Int) := hhi
    clear hlo hhi
    exact iv_2 T Sb A n c w0 w ps f text A' l.length c' z s fin h hL
  · have hlo' : (0 : Int) ≤ (l.length : Int) := hlo
    have hhi' : (l.length : Int) ≤ (0 : Int) := hhi
    clear hlo hhi
    exact iv_3 T Sb A n c w0 w ps f text A' l.length c' z s fin h hL
  · have hlo' : (0 : Int) ≤ (l.length : Int) := hlo
    have hhi' : (l.length : Int) ≤ (12 : Int) := hhi
    clear hlo hhi
    exact iv_4 T Sb A n c w0 w ps f text A' c' z s fin l.length l (Lib.hid rfl) (by omega) (by omega) hN h hr hcap hv hL
  · have hlo' : (1 : Int) ≤ (l.length : Int) := hlo
    have hhi' : (l.length : Int) ≤ (12 : Int) := hhi
    clear hlo hhi
    by_cases h1 : l.length = 1
    · obtain ⟨va, rfl⟩ := lit1 h1 hv0
      exact iv_5n T Sb A n c w0 w ps f text A' c' z s fin va hN h hr hcap hv hL
    · exact iv_5 T Sb A n c w0 w ps f text A' c' z s fin l.length l (Lib.hid rfl) (by omega) (by omega) hN h hr hcap hv hL
  · have hlo' : (1 : Int) ≤ (l.length : Int) := hlo
    have hhi' : (l.length : Int) ≤ (1 : Int) := hhi
    clear hlo hhi
    obtain ⟨va, rfl⟩ := lit1 (show l.length = 1 by omega) hv0
    exact iv_6 T Sb A n c w0 w ps f text A' c' z s fin va hN h hr hcap hv hL
  · have hlo' : (2 : Int) ≤ (l.length : Int) := hlo
    have hhi' : (l.length : Int) ≤ (12 : Int) := hhi
    clear hlo hhi
    exact iv_7 T Sb A n c w0 w ps f text A' c' z s fin l.length l (Lib.hid rfl) (by omega) (by omega) hN h hr hcap hv (by rw [List.append_nil]; exact hL)
  · have hlo' : (3 : Int) ≤ (l.length : Int) := hlo
    have hhi' : (l.length : Int) ≤ (3 : Int) := hhi
    clear hlo hhi
    obtain ⟨va, vb, vc, rfl⟩ := lit3 (show l.length = 3 by omega) hv0
    exact iv_8 T Sb A n c w0 w ps f text A' c' z s fin va vb vc hN h hr hcap hv hL
  · have hlo' : (1 : Int) ≤ (l.length : Int) := hlo
    have hhi' : (l.length : Int) ≤ (12 : Int) := hhi
    clear hlo hhi
    exact iv_9 T Sb A n c w0 w ps f text A' c' z s fin l.length l (Lib.hid rfl) (by omega) (by omega) hN h hr hcap hv hL
  · have hlo' : (2 : Int) ≤ (l.length : Int) := hlo
    have hhi' : (l.length : Int) ≤ (12 : Int) := hhi
    clear hlo hhi
    exact iv_10 T Sb A n c w0 w ps f text A' c' z s fin l.length l (Lib.hid rfl) (by omega) (by omega) hN h hr hcap hv (by rw [List.append_nil]; exact hL)
  · have hlo' : (1 : Int) ≤ (l.length : Int) := hlo
    have hhi' : (l.length : Int) ≤ (1 : Int) := hhi
    clear hlo hhi
    obtain ⟨va, rfl⟩ := lit1 (show l.length = 1 by omega) hv0
    exact iv_11 T Sb A n c w0 w ps f text A' c' z s fin va hN h hr hcap hv hL
theorem implOther_any (T Sb : Nat) (A : Option Addr) (n c : Nat) (w0 w : World) (ps : List PN) (f : Nat) (x : PN) (A' : Option Addr) (c' : Nat) (s fin : TS) (hN : NodeC 54 52 T Sb A n c w0 ps f) (h : TL 52 T Sb A n c w0 s w) (hr : Rd w0 1 A' x.kids.length (intCells x.kids)) (hcap : x.kids.length ≤ c') (hv : Hid (∀ v ∈ x.kids, 0 ≤ v ∧ v < (f : Int) ∧ v < (n : Int))) (hk : 12 ≤ x.kind ∧ x.kind ≤ 22) (hlo : cntLo x.kind ≤ (x.kids.length : Int)) (hhi : (x.kids.length : Int) ≤ cntHi x.kind) (hL : LeftE (tellF ps f) s (evs x) fin) :
    Calls Tryz.prog 78 #[.pointer (some ⟨T, 0, none⟩), .agg #[.int .i64 x.kind, .string x.text, .slice A' x.kids.length c', .bool x.blank]] w (Puts 52 T Sb A n c w0 w fin) := by
  have hv0 : ∀ v ∈ x.kids, 0 ≤ v := fun v h => (hv.out v h).1
  obtain ⟨kind, text, l, z⟩ := x
  dsimp only at *
  have h2 : kind = 12 ∨ kind = 13 ∨ kind = 14 ∨ kind = 15 ∨ kind = 16 ∨ kind = 17 ∨ kind = 18 ∨ kind = 19 ∨ kind = 20 ∨ kind = 21 ∨ kind = 22 := by omega
  rcases h2 with rfl | rfl | rfl | rfl | rfl | rfl | rfl | rfl | rfl | rfl | rfl
  · have hlo' : (0 : Int) ≤ (l.length : Int) := hlo
    have hhi' : (l.length : Int) ≤ (1 : Int) := hhi
    clear hlo hhi
    by_cases h1 : l.length = 0
    · obtain rfl : l = [] := List.eq_nil_of_length_eq_zero h1
      exact io_12n T Sb A n c w0 w ps f text A' c' z s fin hN h hr hcap hv hL
    · obtain ⟨va, rfl⟩ := lit1 (show l.length = 1 by omega) hv0
      exact io_12 T Sb A n c w0 w ps f text A' c' z s fin 1 [(va : Int)] (Lib.hid rfl) (by omega) (by omega) hN h hr hcap hv hL
  · have hlo' : (1 : Int) ≤ (l.length : Int) := hlo
    have hhi' : (l.length : Int) ≤ (1 : Int) := hhi
    clear hlo hhi
    obtain ⟨va, rfl⟩ := lit1 (show l.length = 1 by omega) hv0
    exact io_13 T Sb A n c w0 w ps f text A' c' z s fin 1 [(va : Int)] (Lib.hid rfl) (by omega) (by omega) hN h hr hcap hv hL
  · have hlo' : (1 : Int) ≤ (l.length : Int) := hlo
    have hhi' : (l.length : Int) ≤ (1 : Int) := hhi
    clear hlo hhi
    exact io_14 T Sb A n c w0 w ps f text A' c' z s fin l.length l (Lib.hid rfl) (by omega) (by omega) hN h hr hcap hv hL
  · have hlo' : (0 : Int) ≤ (l.length : Int) := hlo
    have hhi' : (l.length : Int) ≤ (1 : Int) := hhi
    clear hlo hhi
    exact io_15 T Sb A n c w0 w ps f text A' c' z s fin l.length l (Lib.hid rfl) (by omega) (by omega) hN h hr hcap hv hL
  · have hlo' : (2 : Int) ≤ (l.length : Int) := hlo
    have hhi' : (l.length : Int) ≤ (3 : Int) := hhi
    clear hlo hhi
    by_cases h1 : l.length = 2
    · obtain ⟨va, vb, rfl⟩ := lit2 h1 hv0
      exact io_16 T Sb A n c w0 w ps f text A' c' z s fin va vb hN h hr hcap hv hL
    · obtain ⟨va, vb, vc, rfl⟩ := lit3 (show l.length = 3 by omega) hv0
      exact io_16e T Sb A n c w0 w ps f text A' c' z s fin va vb vc hN h hr hcap hv hL
  · have hlo' : (2 : Int) ≤ (l.length : Int) := hlo
    have hhi' : (l.length : Int) ≤ (2 : Int) := hhi
    clear hlo hhi
    obtain ⟨va, vb, rfl⟩ := lit2 (show l.length = 2 by omega) hv0
    exact io_17 T Sb A n c w0 w ps f text A' c' z s fin va vb hN h hr hcap hv hL
  · have hlo' : (0 : Int) ≤ (l.length : Int) := hlo
    have hhi' : (l.length : Int) ≤ (12 : Int) := hhi
    clear hlo hhi
    exact io_18 T Sb A n c w0 w ps f text A' c' z s fin l.length l (Lib.hid rfl) (by omega) (by omega) hN h hr hcap hv hL
  · have hlo' : (0 : Int) ≤ (l.length : Int) := hlo
    have hhi' : (l.length : Int) ≤ (0 : Int) := hhi
    clear hlo hhi
    exact io_19 T Sb A n c w0 w ps f text A' l.length c' z s fin h hL
  · have hlo' : (1 : Int) ≤ (l.length : Int) := hlo
    have hhi' : (l.length : Int) ≤ (12 : Int) := hhi
    clear hlo hhi
    exact io_20 T Sb A n c w0 w ps f text A' c' z s fin l.length l (Lib.hid rfl) (by omega) (by omega) hN h hr hcap hv hL
  · have hlo' : (0 : Int) ≤ (l.length : Int) := hlo
    have hhi' : (l.length : Int) ≤ (12 : Int) := hhi
    clear hlo hhi
    exact io_21 T Sb A n c w0 w ps f text A' c' z s fin l.length l (Lib.hid rfl) (by omega) (by omega) hN h hr hcap hv hL
  · have hlo' : (0 : Int) ≤ (l.length : Int) := hlo
    have hhi' : (l.length : Int) ≤ (12 : Int) := hhi
    clear hlo hhi
    exact io_22 T Sb A n c w0 w ps f text A' c' z s fin l.length l (Lib.hid rfl) (by omega) (by omega) hN h hr hcap hv (by rw [List.append_nil]; exact hL)
end Go.Proofs.YtpfanhheodiamaaGreatDoor

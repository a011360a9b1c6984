
/-
  Contracts: values told, at every kind (spec.l07Flat.value). Written by program (gen_telle.py).
-/
import Derived.Test.YtpfanhheodiamaaGreatDoorTellE
import Derived.Test.YtpfanhheodiamaaGreatDoorTellSv
import Derived.Test.YtpfanhheodiamaaGreatDoorTellQ
namespace Go.Proofs.YtpfanhheodiamaaGreatDoor
open Go.RowKit
set_option linter.unusedVariables false
set_option linter.unusedSimpArgs false

theorem specValue_node (T Sb : Nat) (A : Option Addr) (n c : Nat) (w0 w : World) (ps : List PN) (f : Nat) (x : PN) (A' : Option Addr) (c' : Nat) (s fin : TS) (hN : NodeC 21 46 T Sb A n c w0 ps f) (h : TL 46 T Sb A n c w0 s w) (hr : Rd w0 1 A' x.kids.length (intCells x.kids)) (hcap : x.kids.length ≤ c') (hv : Hid (∀ v ∈ x.kids, 0 ≤ v ∧ v < (f : Int) ∧ v < (n : Int))) (hk : 1 ≤ x.kind ∧ x.kind ≤ 11) (hlo : cntLo x.kind ≤ (x.kids.length : Int)) (hhi : (x.kids.length : Int) ≤ cntHi x.kind) (hL : LeftE (tellF ps f) s (evs x) fin) :
    Calls Tryz.prog 51 #[.pointer (some ⟨T, 0, none⟩), .agg #[.int .i64 x.kind, .string x.text, .slice A' x.kids.length c', .bool x.blank]] w (Puts 46 T Sb A n c w0 w fin) := by
  have hv0 : ∀ v ∈ x.kids, 0 ≤ v := fun v h => (hv.out v h).1
  obtain ⟨kind, text, l, z⟩ := x
  dsimp only at *
  have h2 : kind = 1 ∨ kind = 2 ∨ kind = 3 ∨ kind = 4 ∨ kind = 5 ∨ kind = 6 ∨ kind = 7 ∨ kind = 8 ∨ kind = 9 ∨ kind = 10 ∨ kind = 11 := by omega
  rcases h2 with rfl | rfl | rfl | rfl | rfl | rfl | rfl | rfl | rfl | rfl | rfl
  · have hlo' : (0 : Int) ≤ (l.length : Int) := hlo
    have hhi' : (l.length : Int) ≤ (0 : Int) := hhi
    clear hlo hhi
    exact sv_1 T Sb A n c w0 w ps f text A' c' z s fin l.length l (Lib.hid rfl) (by omega) (by omega) hN h hr hcap hv hL
  · have hlo' : (0 : Int) ≤ (l.length : Int) := hlo
    have hhi' : (l.length : Int) ≤ (0 : Int) := hhi
    clear hlo hhi
    exact sv_2 T Sb A n c w0 w ps f text A' c' z s fin l.length l (Lib.hid rfl) (by omega) (by omega) hN h hr hcap hv hL
  · have hlo' : (0 : Int) ≤ (l.length : Int) := hlo
    have hhi' : (l.length : Int) ≤ (0 : Int) := hhi
    clear hlo hhi
    exact sv_3 T Sb A n c w0 w ps f text A' c' z s fin l.length l (Lib.hid rfl) (by omega) (by omega) hN h hr hcap hv hL
  · have hlo' : (0 : Int) ≤ (l.length : Int) := hlo
    have hhi' : (l.length : Int) ≤ (12 : Int) := hhi
    clear hlo hhi
    exact sv_4 T Sb A n c w0 w ps f text A' c' z s fin l.length l (Lib.hid rfl) (by omega) (by omega) hN h hr hcap hv hL
  · have hlo' : (1 : Int) ≤ (l.length : Int) := hlo
    have hhi' : (l.length : Int) ≤ (12 : Int) := hhi
    clear hlo hhi
    by_cases h1 : l.length = 1
    · obtain ⟨va, rfl⟩ := lit1 h1 hv0
      exact sv_5n T Sb A n c w0 w ps f text A' c' z s fin va hN h hr hcap hv hL
    · exact sv_5 T Sb A n c w0 w ps f text A' c' z s fin l.length l (Lib.hid rfl) (by omega) (by omega) hN h hr hcap hv hL
  · have hlo' : (1 : Int) ≤ (l.length : Int) := hlo
    have hhi' : (l.length : Int) ≤ (1 : Int) := hhi
    clear hlo hhi
    obtain ⟨va, rfl⟩ := lit1 (show l.length = 1 by omega) hv0
    exact sv_6 T Sb A n c w0 w ps f text A' c' z s fin va hN h hr hcap hv hL
  · have hlo' : (2 : Int) ≤ (l.length : Int) := hlo
    have hhi' : (l.length : Int) ≤ (12 : Int) := hhi
    clear hlo hhi
    exact sv_7 T Sb A n c w0 w ps f text A' c' z s fin l.length l (Lib.hid rfl) (by omega) (by omega) hN h hr hcap hv hL
  · have hlo' : (3 : Int) ≤ (l.length : Int) := hlo
    have hhi' : (l.length : Int) ≤ (3 : Int) := hhi
    clear hlo hhi
    obtain ⟨va, vb, vc, rfl⟩ := lit3 (show l.length = 3 by omega) hv0
    exact sv_8 T Sb A n c w0 w ps f text A' c' z s fin va vb vc hN h hr hcap hv hL
  · have hlo' : (1 : Int) ≤ (l.length : Int) := hlo
    have hhi' : (l.length : Int) ≤ (12 : Int) := hhi
    clear hlo hhi
    exact sv_9 T Sb A n c w0 w ps f text A' c' z s fin l.length l (Lib.hid rfl) (by omega) (by omega) hN h hr hcap hv hL
  · have hlo' : (2 : Int) ≤ (l.length : Int) := hlo
    have hhi' : (l.length : Int) ≤ (12 : Int) := hhi
    clear hlo hhi
    exact sv_10 T Sb A n c w0 w ps f text A' c' z s fin l.length l (Lib.hid rfl) (by omega) (by omega) hN h hr hcap hv hL
  · have hlo' : (1 : Int) ≤ (l.length : Int) := hlo
    have hhi' : (l.length : Int) ≤ (1 : Int) := hhi
    clear hlo hhi
    obtain ⟨va, rfl⟩ := lit1 (show l.length = 1 by omega) hv0
    exact sv_11 T Sb A n c w0 w ps f text A' c' z s fin va hN h hr hcap hv hL
end Go.Proofs.YtpfanhheodiamaaGreatDoor

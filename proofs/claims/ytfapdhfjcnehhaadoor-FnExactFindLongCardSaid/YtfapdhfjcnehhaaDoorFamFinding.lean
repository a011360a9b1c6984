
/-
  Contracts: sizes, copies and equality of Finding (laws.szFinding, toFinding, eqFinding) and of slices of them. Written by program (family.py).
-/
import Derived.Test.YtfapdhfjcnehhaaDoorMem
import Derived.Test.YtfapdhfjcnehhaaDoorChecked
import Derived.Outline
import Derived.Deep.Cut
namespace Go.Proofs.YtfapdhfjcnehhaaDoor
open Go.RowKit
set_option linter.unusedVariables false

abbrev FindingD := Int × Int × ByteArray
def findingCells (d : FindingD) : List Value := [.int .i64 (d.1), .int .i64 (d.2.1), .string (d.2.2)]
theorem findingCells_len (d : FindingD) : (findingCells d).length = 3 := rfl
def szFinding (d : FindingD) : Nat := d.2.2.size
def szFindingL (l : List FindingD) : Nat := l.length + (l.map szFinding).sum
def OkFinding (d : FindingD) : Prop := d.2.2.size ≤ maxLen
theorem finding_at {w : World} {A : Option Addr} {n k : Nat} {l : List FindingD} {x0 : Int} {x1 : Int} {x2 : ByteArray} (h : Rd w 3 A n (l.flatMap findingCells)) (hk : k < n) (hd : l[k]? = some (x0, x1, x2)) :
    ∃ b off, A = some ⟨b, off, none⟩ ∧ b < w.heap.size ∧ w.cell? ⟨b, off + k * 3, none⟩ = some (.int .i64 x0) ∧ w.cell? ⟨b, off + k * 3 + 1, none⟩ = some (.int .i64 x1) ∧ w.cell? ⟨b, off + k * 3 + 2, none⟩ = some (.string x2) := by
  obtain ⟨b, off, e, hb, hc⟩ := h.at_ (by omega)
  exact ⟨b, off, e, hb, hc _ _ (flat_get findingCells findingCells_len hd (j := 0) rfl), hc _ _ (flat_get findingCells findingCells_len hd (j := 1) rfl), hc _ _ (flat_get findingCells findingCells_len hd (j := 2) rfl)⟩
set_option maxHeartbeats 400000 in
theorem szFinding_ok (x0 : Int) (x1 : Int) (x2 : ByteArray) (left : Int) (w : World) (hl1 : left ≤ 1048576) (hle : (szFinding (x0, x1, x2) : Nat) ≤ left) :
    Calls Tryd.prog 10 #[.agg #[.int .i64 x0, .int .i64 x1, .string x2], .int .i64 left] w fun e w' => e = .returned (.int .i64 (left - (szFinding (x0, x1, x2) : Nat))) ∧ Below w.heap.size w w' := by
  have hs : szFinding (x0, x1, x2) = x2.size := rfl
  rw [hs] at hle ⊢
  clear hs
  rw [show left - ((x2.size : Nat) : Int) = left - x2.size by omega]
  have g2 : (0 : Int) ≤ left - x2.size := by omega
  go_enter Tryd.func10, Tryd.ntmps10
  go_wp2
  go_ret
  exact ⟨rfl, (by repeat' (first | (with_reducible exact Below.refl _ _) | (with_reducible assumption) | (with_reducible refine below_drewN ?_ _) | (with_reducible refine Below.drew ?_) | (with_reducible refine Below.alloc ?_ ?_ _) | (with_reducible refine Below.setCell ?_ ?_ _) | go_size))⟩
set_option maxHeartbeats 400000 in
theorem szFinding_big (x0 : Int) (x1 : Int) (x2 : ByteArray) (left : Int) (w : World) (hl0 : 0 ≤ left) (hl1 : left ≤ 1048576) (h2 : x2.size ≤ maxLen) (hle : left < (szFinding (x0, x1, x2) : Nat)) :
    Calls Tryd.prog 10 #[.agg #[.int .i64 x0, .int .i64 x1, .string x2], .int .i64 left] w fun e w' => e = .returned (.int .i64 (-1)) ∧ Below w.heap.size w w' := by
  unfold maxLen at h2
  have hs : szFinding (x0, x1, x2) = x2.size := rfl
  rw [hs] at hle
  clear hs
  have g2 : left < x2.size := by omega
  go_enter Tryd.func10, Tryd.ntmps10
  go_wp2
  go_ret
  exact ⟨rfl, (by repeat' (first | (with_reducible exact Below.refl _ _) | (with_reducible assumption) | (with_reducible refine below_drewN ?_ _) | (with_reducible refine Below.drew ?_) | (with_reducible refine Below.alloc ?_ ?_ _) | (with_reducible refine Below.setCell ?_ ?_ _) | go_size))⟩
set_option maxHeartbeats 400000 in
theorem toFinding_any (x0 : Int) (x1 : Int) (x2 : ByteArray) (w : World) :
    Calls Tryd.prog 12 #[.agg #[.int .i64 x0, .int .i64 x1, .string x2]] w fun e w' => e = .returned (.agg #[.int .i64 x0, .int .i64 x1, .string x2]) ∧ Below w.heap.size w w' := by
  go_enter Tryd.func12, Tryd.ntmps12
  go_wp2
  go_returns
  exact ⟨rfl, (by repeat' (first | (with_reducible exact Below.refl _ _) | (with_reducible assumption) | (with_reducible refine below_drewN ?_ _) | (with_reducible refine Below.drew ?_) | (with_reducible refine Below.alloc ?_ ?_ _) | (with_reducible refine Below.setCell ?_ ?_ _) | go_size))⟩
set_option maxHeartbeats 400000 in
theorem eqFinding_same (x0 : Int) (x1 : Int) (x2 : ByteArray) (w : World) :
    Calls Tryd.prog 54 #[.agg #[.int .i64 x0, .int .i64 x1, .string x2], .agg #[.int .i64 x0, .int .i64 x1, .string x2]] w fun e w' => e = .returned (.bool true) ∧ Below w.heap.size w w' := by
  go_enter Tryd.func54, Tryd.ntmps54
  go_wp2
  go_ret
  exact ⟨rfl, (by repeat' (first | (with_reducible exact Below.refl _ _) | (with_reducible assumption) | (with_reducible refine below_drewN ?_ _) | (with_reducible refine Below.drew ?_) | (with_reducible refine Below.alloc ?_ ?_ _) | (with_reducible refine Below.setCell ?_ ?_ _) | go_size))⟩
theorem infoFinding : (Tryd.prog.info? 26).map (fun i => (i.zero, i.size, i.bytes)) = some (some (.agg #[.int .i64 0, .int .i64 0, .string ⟨#[]⟩]), 3, 32) := by kernel_rfl
theorem finding_take (l : List FindingD) (k : Nat) (d : FindingD) (h : l[k]? = some d) : (l.take (k + 1)).flatMap findingCells = (l.take k).flatMap findingCells ++ findingCells d := by
  rw [List.take_add_one, h]; simp
def findingTo (l : List FindingD) (k : Nat) : List Value := (l.take k).flatMap findingCells
set_option maxRecDepth 100000 in
set_option maxHeartbeats 800000 in
theorem eqFindingS_same (A B : Option Addr) (n c c' : Nat) (l : List FindingD) (w : World) (hn : n ≤ 4194304) (hl : l.length = n) (ha : Rd w 3 A n (l.flatMap findingCells)) (hb : Rd w 3 B n (l.flatMap findingCells)) :
    Calls Tryd.prog 23 #[.slice A n c, .slice B n c'] w fun e w' => e = .returned (.bool true) ∧ Below w.heap.size w w' := by
  have HL := Lib.hid hl
  clear hl
  go_enter Tryd.func23, Tryd.ntmps23
  go_wp2
  go_loopw [5] (fun i wr => ∃ k : Nat, k ≤ n ∧ i = .int .i64 k ∧ Below w.heap.size w wr) (fun i _ => n - (intOf i).toNat)
  case atStart => exact ⟨0, Nat.zero_le _, rfl, Below.refl _ _⟩
  case round =>
    obtain ⟨k, hk, rfl, hbb⟩ := hrel
    by_cases hkn : k < n
    · obtain ⟨⟨x0, x1, x2⟩, hd⟩ : ∃ d, l[k]? = some d := ⟨_, List.getElem?_eq_getElem (by have := HL.out; omega)⟩
      obtain ⟨b, off, rfl, hblt, c0, c1, c2⟩ := finding_at (ha.below hbb) hkn hd
      obtain ⟨b', off', rfl, hblt', c0b, c1b, c2b⟩ := finding_at (hb.below hbb) hkn hd
      clear ha hb hd
      go_upto_region 6 with fail
      go_still_tail 8, (by kernel_rfl)
      change wpList _ _ _ _ _ wr.drew
      go_wp2_with fail
      refine (eqFinding_same _ _ _ _).mono ?_
      rintro e w2 ⟨rfl, h2⟩
      have hb2 : Below w.heap.size w w2 := hbb.drew.trans (h2.mono hbb.size)
      clear hblt hblt' c0 c1 c2 c0b c1b c2b
      go_wp2
      go_roundw
      case rel => exact ⟨k + 1, by omega, by go_num, (by repeat' (first | (with_reducible exact Below.refl _ _) | (with_reducible assumption) | (with_reducible refine below_drewN ?_ _) | (with_reducible refine Below.drew ?_) | (with_reducible refine Below.alloc ?_ ?_ _) | (with_reducible refine Below.setCell ?_ ?_ _) | go_size))⟩
      case measure => simp [intOf]; omega
    · obtain rfl : k = n := by omega
      go_wp2
      go_ret
      exact ⟨rfl, hbb⟩
end Go.Proofs.YtfapdhfjcnehhaaDoor

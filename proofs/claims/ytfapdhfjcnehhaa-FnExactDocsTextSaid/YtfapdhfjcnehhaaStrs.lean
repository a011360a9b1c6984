
/-
  Contracts: lists of texts: equality, marks (laws.eqStringS, markStringS, heldStringS).
-/
import Derived.Test.YtfapdhfjcnehhaaMine
import Derived.Test.YtfapdhfjcnehhaaMkString
namespace Go.Proofs.Ytfapdhfjcnehhaa
open Go.RowKit
set_option linter.unusedVariables false

set_option maxHeartbeats 400000 in
theorem eqStringS_same (A B : Option Addr) (n c c' : Nat) (l : List ByteArray) (w : World) (hn : n ≤ 4194304) (hl : Hid (l.length = n)) (ha : Rd w 1 A n (strCells l)) (hb : Rd w 1 B n (strCells l)) :
    Calls Try.prog 11 #[.slice A n c, .slice B n c'] w fun e w' => e = .returned (.bool true) ∧ Below w.heap.size w w' := by
  have HA := Lib.hid ha
  have HB := Lib.hid hb
  clear ha hb
  go_enter Try.func11, Try.ntmps11
  go_wp2
  go_loopw [5] (fun i wr => ∃ k : Nat, k ≤ n ∧ i = .int .i64 k ∧ Below w.heap.size w wr) (fun i _ => n - (intOf i).toNat)
  case atStart => exact ⟨0, Nat.zero_le _, rfl, Below.refl _ _⟩
  case round =>
    obtain ⟨k, hk, rfl, hbb⟩ := hrel
    by_cases hkn : k < n
    · obtain ⟨x, hd⟩ : ∃ d, l[k]? = some d := ⟨_, List.getElem?_eq_getElem (by have := hl.out; omega)⟩
      obtain ⟨b, off, rfl, hblt, c0⟩ := str_at (HA.out.below hbb) hkn hd
      obtain ⟨b', off', rfl, hblt', c1⟩ := str_at (HB.out.below hbb) hkn hd
      clear hd
      go_wp2
      go_quiet (fail)
      go_wp2
      go_roundw
      case rel => exact ⟨k + 1, by omega, by go_num, (by repeat' (first | (with_reducible exact Below.refl _ _) | (with_reducible assumption) | (with_reducible refine below_drewN ?_ _) | (with_reducible refine Below.drew ?_) | (with_reducible refine Below.alloc ?_ ?_ _) | (with_reducible refine Below.setCell ?_ ?_ _) | go_size))⟩
      case measure => simp [intOf]; omega
    · obtain rfl : k = n := by omega
      go_wp2
      go_ret
      exact ⟨rfl, hbb⟩

/-- Marks written into texts of the call's own. -/
def MarkP (w : World) (B : Nat) (t : TypeId) (s : Nat) (A : Option Addr) (n c : Nat) (row : Int → List Value) (k : Int) (e : Ending) (w' : World) : Prop :=
  e = .returned (.int .i64 (k + (s * n : Nat))) ∧ Mine w' B t s A n c (marksOf row s k n) ∧ w.grownBy w' (A.map (·.block))
theorem markStringS_mine (A : Option Addr) (n c B : Nat) (k : Int) (xs : List Value) (w : World) (hm : Mine w B 9 1 A n c xs) (h0 : 1 ≤ k) (h1 : k + (1 * n : Nat) ≤ 1073741824) :
    Calls Try.prog 14 #[.slice A n c, .int .i64 k] w (MarkP w B 9 1 A n c stringMk k) := by
  have hl := hm.len
  rcases hm.own with ⟨rfl, rfl, rfl⟩ | ⟨g, rfl, hB, hn, hc, ho⟩
  · refine (markStringS_nil none 0 k w).mono ?_
    rintro e w' ⟨rfl, rfl⟩
    exact ⟨by simp, by simpa [marksOf] using Mine.mk_nil _ _ _ _, World.grownBy.refl _ _⟩
  · refine (markStringS_any g n c (c * 1) k xs w ho hl h0 h1).mono ?_
    rintro e w' ⟨rfl, ho', hg⟩
    exact ⟨rfl, Mine.mk_own ho' (by rw [marks_len stringMk_len]) hB hn hc, hg⟩
end Go.Proofs.Ytfapdhfjcnehhaa

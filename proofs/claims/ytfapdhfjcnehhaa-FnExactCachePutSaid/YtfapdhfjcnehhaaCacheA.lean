
/-
  Contracts: kept results (chapter 29), the law on a new one; equality and marks of caches.
-/
import Derived.Test.YtfapdhfjcnehhaaFamEntry
import Derived.Test.YtfapdhfjcnehhaaMkEntry
namespace Go.Proofs.Ytfapdhfjcnehhaa
open Go.RowKit
set_option linter.unusedVariables false

set_option maxHeartbeats 400000 in
theorem eqCache_same (m h k : Int) (A B : Option Addr) (n c c' : Nat) (l : List EntryD) (w : World) (hn : n ≤ 4194304) (hl : Hid (l.length = n)) (ha : Rd w 5 A n (l.flatMap entryCells)) (hb : Rd w 5 B n (l.flatMap entryCells)) :
    Calls Try.prog 24 #[.agg #[.int .i64 m, .slice A n c, .int .i64 h, .int .i64 k], .agg #[.int .i64 m, .slice B n c', .int .i64 h, .int .i64 k]] w fun e w' => e = .returned (.bool true) ∧ Below w.heap.size w w' := by
  have hbw := Below.refl w.heap.size w
  go_enter Try.func24, Try.ntmps24
  go_wp2_with fail
  refine (eqEntryS_same A B n c c' l _ hn hl.out ((ha.alloc _).alloc _) ((hb.alloc _).alloc _)).mono ?_
  rintro e w2 ⟨rfl, h2⟩
  clear ha hb
  have K1 := Blk.fresh2 h2
  have K2 := Blk.fresh h2
  simp only [World.size_alloc] at K2
  replace hbw := below_next2 hbw h2
  have cK1 := K1.cell
  have cK2 := K2.cell
  go_wp2
  go_ret
  exact ⟨rfl, hbw⟩

set_option maxHeartbeats 400000 in
theorem markCache_nil (m h k q : Int) (A : Option Addr) (c : Nat) (w : World) :
    Calls Try.prog 25 #[.agg #[.int .i64 m, .slice A 0 c, .int .i64 h, .int .i64 k], .int .i64 q] w fun e w' => e = .returned (.int .i64 q) ∧ Below w.heap.size w w' := by
  go_enter Try.func25, Try.ntmps25
  go_wp2_with fail
  refine (markEntryS_nil A c q _).mono ?_
  rintro e w2 ⟨rfl, rfl⟩
  go_wp2
  go_ret
  exact ⟨rfl, (by repeat' (first | (with_reducible exact Below.refl _ _) | (with_reducible assumption) | (with_reducible refine below_drewN ?_ _) | (with_reducible refine Below.drew ?_) | (with_reducible refine Below.alloc ?_ ?_ _) | (with_reducible refine Below.setCell ?_ ?_ _) | go_size))⟩
set_option maxHeartbeats 400000 in
theorem markCache_any (m h k q : Int) (g n c cap : Nat) (xs : List Value) (w : World) (hown : Own w g 47 cap xs) (hlen : Hid (xs.length = n * 5)) (h0 : 1 ≤ q) (h1 : q + (5 * n : Nat) ≤ 1073741824) :
    Calls Try.prog 25 #[.agg #[.int .i64 m, .slice (some ⟨g, 0, none⟩) n c, .int .i64 h, .int .i64 k], .int .i64 q] w fun e w' => e = .returned (.int .i64 (q + (5 * n : Nat))) ∧ Own w' g 47 cap (marksOf entryMk 5 q n) ∧ w.grownBy w' (some g) := by
  have H1 := Lib.hid h1
  clear h1
  go_enter Try.func25, Try.ntmps25
  go_wp2_with fail
  refine (markEntryS_any g n c cap q xs _ (hown.alloc _) hlen.out h0 H1.out).mono ?_
  rintro e w2 ⟨rfl, ho, hg⟩
  go_wp2
  go_ret
  exact ⟨rfl, ho, grownBy_trans' (World.grownBy_alloc w _ _) hg⟩
set_option maxHeartbeats 400000 in
theorem heldCache_any (m h k q : Int) (A : Option Addr) (n c : Nat) (w : World) (hr : Rd w 5 A n (marksOf entryMk 5 q n)) (h0 : 1 ≤ q) (h1 : q + (5 * n : Nat) ≤ 1073741824) :
    Calls Try.prog 26 #[.agg #[.int .i64 m, .slice A n c, .int .i64 h, .int .i64 k], .int .i64 q] w fun e w' => e = .returned (.int .i64 (q + (5 * n : Nat))) ∧ Below w.heap.size w w' := by
  have hbw := Below.refl w.heap.size w
  have H1 := Lib.hid h1
  have hp : ¬ q + (5 * n : Nat) < 0 := by omega
  clear h1
  go_enter Try.func26, Try.ntmps26
  go_wp2_with fail
  refine (heldEntryS_any A n c q _ (hr.alloc _) h0 H1.out).mono ?_
  rintro e w2 ⟨rfl, h2⟩
  replace hbw := below_next1 hbw h2
  clear hr
  go_wp2
  go_ret
  exact ⟨rfl, hbw⟩

def clampC (x : Int) : Int := if x < 1 then 1 else if 8 < x then 8 else x
theorem clampC_lo {x : Int} (h : x < 1) : clampC x = 1 := by unfold clampC; rw [if_pos h]
theorem clampC_hi {x : Int} (h : ¬ x < 1) (h' : 8 < x) : clampC x = 8 := by unfold clampC; rw [if_neg h, if_pos h']
theorem clampC_in {x : Int} (h : ¬ x < 1) (h' : ¬ 8 < x) : clampC x = x := by unfold clampC; rw [if_neg h, if_neg h']
end Go.Proofs.Ytfapdhfjcnehhaa


/-
  The law on where a kept result stands; sizes of caches.
-/
import Derived.Test.YtfapdhfjcnehhaaCacheC
import Derived.Deep.DeepCutAuto
import Derived.Deep.RegionWith
namespace Go.Proofs.Ytfapdhfjcnehhaa
open Go.RowKit
set_option linter.unusedVariables false

set_option maxHeartbeats 400000 in
theorem szCache_fit (m h k : Int) (A : Option Addr) (n c : Nat) (l : List EntryD) (w : World) (hl : Hid (l.length = n)) (hr : Rd w 5 A n (l.flatMap entryCells)) (hle : Hid (szEntryL l ≤ 1048576)) :
    Calls Try.prog 18 #[.agg #[.int .i64 m, .slice A n c, .int .i64 h, .int .i64 k], .int .i64 1048576] w fun e w' => e = .returned (.int .i64 (1048576 - (szEntryL l : Nat))) ∧ Below w.heap.size w w' := by
  have hbw := Below.refl w.heap.size w
  have g0 : (0 : Int) ≤ 1048576 - (szEntryL l : Nat) := by have := hle.out; omega
  go_enter Try.func18, Try.ntmps18
  go_wp2_with fail
  refine (szEntryS_ok A n c l 1048576 _ (by omega) hl.out (hr.alloc _) (by have := hle.out; omega)).mono ?_
  rintro e w2 ⟨rfl, h2⟩
  replace hbw := below_next1 hbw h2
  clear hr
  go_wp2
  go_ret
  exact ⟨rfl, hbw⟩
set_option maxHeartbeats 400000 in
theorem szCache_over (m h k : Int) (A : Option Addr) (n c : Nat) (l : List EntryD) (w : World) (hn : Hid (n ≤ maxLen)) (hl : Hid (l.length = n)) (hr : Rd w 5 A n (l.flatMap entryCells)) (hs : Hid (∀ d ∈ l, OkEntry d)) (hle : Hid (1048576 < szEntryL l)) :
    Calls Try.prog 18 #[.agg #[.int .i64 m, .slice A n c, .int .i64 h, .int .i64 k], .int .i64 1048576] w fun e w' => e = .returned (.int .i64 (-1)) ∧ Below w.heap.size w w' := by
  have hbw := Below.refl w.heap.size w
  go_enter Try.func18, Try.ntmps18
  go_wp2_with fail
  refine (szEntryS_big A n c l 1048576 _ (by omega) (by omega) hn.out hl.out (hr.alloc _) hs.out (by have := hle.out; omega)).mono ?_
  rintro e w2 ⟨rfl, h2⟩
  replace hbw := below_next1 hbw h2
  clear hr
  go_wp2
  go_ret
  exact ⟨rfl, hbw⟩

end Go.Proofs.Ytfapdhfjcnehhaa

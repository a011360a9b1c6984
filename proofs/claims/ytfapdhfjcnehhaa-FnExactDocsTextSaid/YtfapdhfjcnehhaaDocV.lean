
/-
  The law on files as one text: the walk.
-/
import Derived.Test.YtfapdhfjcnehhaaDocU
import Derived.Test.YtfapdhfjcnehhaaDocF
namespace Go.Proofs.Ytfapdhfjcnehhaa
open Go.RowKit
set_option linter.unusedVariables false

set_option maxRecDepth 100000 in
set_option maxHeartbeats 1600000 in
theorem lawDocsText (A : Option Addr) (n c : Nat) (l : List DocD) (w : World) (ha : l.length = n ∧ n ≤ maxLen ∧ Rd w 2 A n (l.flatMap docCells) ∧ ∀ d ∈ l, OkDoc d) :
    Calls Try.prog 4 #[.slice A n c] w fun e w' => e = .returned (.bool true) ∧ Below w.heap.size w w' := by
  obtain ⟨hl, hn, hr, hs⟩ := ha
  have HL := Lib.hid hl
  have HS := Lib.hid hs
  have HN := Lib.hid hn
  have hb := Below.refl w.heap.size w
  clear hl hs hn
  by_cases h1 : 1048576 < szDocL l
  · have HZ := Lib.hid (show (1048576 : Int) < (szDocL l : Int) by omega)
    clear h1
    go_enter Try.func4, Try.ntmps4
    go_wp2_with fail
    refine (szDocS_none _ _ _ _ _ _ (by omega) (by omega) HN HL hr HS HZ).mono ?_
    rintro e w2 ⟨rfl, h2⟩
    replace hb := by first | exact below_next hb h2 | exact below_next1 hb h2 | exact below_next2 hb h2
    clear h2
    go_wp2
    go_ret
    exact ⟨rfl, (by repeat' (first | (with_reducible exact Below.refl _ _) | (with_reducible assumption) | (with_reducible refine below_drewN ?_ _) | (with_reducible refine Below.drew ?_) | (with_reducible refine Below.alloc ?_ ?_ _) | (with_reducible refine Below.setCell ?_ ?_ _) | go_size))⟩
  · have HZ := Lib.hid (show (szDocL l : Int) ≤ (1048576 : Int) by omega)
    have g0 : (0 : Int) ≤ 1048576 - (szDocL l : Nat) := by omega
    have g1 : n ≤ 1048576 := by have := (ok_of_szDoc (show szDocL l ≤ 1048576 by omega)).1; have := HL.out; omega
    obtain ⟨t, ht⟩ : ∃ t, docsText l = t := ⟨_, rfl⟩
    have HI := Lib.hid (fun X c1 W x1 => show Calls Try.prog 17 #[.slice X n c1] W (fun e w' => e = .returned (.string t) ∧ Below W.heap.size W w') from (by rw [← ht]; exact implDocsText_any X n c1 l W (by omega) HL x1 HS))
    have HP := Lib.hid (fun X c1 W x1 => show Calls Try.prog 16 #[.slice X n c1] W (fun e w' => e = .returned (.string t) ∧ Below W.heap.size W w') from (by rw [← ht]; exact specDocsText_any X n c1 l W (by omega) HL x1 HS))
    clear h1 ht
    go_enter Try.func4, Try.ntmps4
    go_wp2_with fail
    refine (szDocS_left _ _ _ _ _ _ (by omega) HL hr HZ).mono ?_
    rintro e w2 ⟨rfl, h2⟩
    replace hr := by first | exact hr.next h2 | exact hr.next1 h2 | exact hr.next2 h2
    replace hb := by first | exact below_next hb h2 | exact below_next1 hb h2 | exact below_next2 hb h2
    clear h2
    go_wp2_with fail
    refine (toDocS_o _ _ _ _ _ g1 HL hr).mono ?_
    rintro e w2 ⟨g1x, rfl, o1, hg1, h2⟩
    replace hr := by first | exact hr.next h2 | exact hr.next1 h2 | exact hr.next2 h2
    replace hb := by first | exact below_next hb h2 | exact below_next1 hb h2 | exact below_next2 hb h2
    clear h2
    go_wp2_with fail
    refine (HP.out _ _ _ (docs_rd o1 HL)).mono ?_
    rintro e w2 ⟨rfl, h2⟩
    replace hr := by first | exact hr.next h2 | exact hr.next1 h2 | exact hr.next2 h2
    replace hb := by first | exact below_next hb h2 | exact below_next1 hb h2 | exact below_next2 hb h2
    clear h2
    clear o1 hg1
    go_wp2_with fail
    refine (toDocS_o _ _ _ _ _ g1 HL hr).mono ?_
    rintro e w2 ⟨g1x, rfl, o1, hg1, h2⟩
    replace hr := by first | exact hr.next h2 | exact hr.next1 h2 | exact hr.next2 h2
    replace hb := by first | exact below_next hb h2 | exact below_next1 hb h2 | exact below_next2 hb h2
    clear h2
    go_wp2_with fail
    refine (HI.out _ _ _ (docs_rd o1 HL)).mono ?_
    rintro e w2 ⟨rfl, h2⟩
    replace hr := by first | exact hr.next h2 | exact hr.next1 h2 | exact hr.next2 h2
    replace o1 := by first | exact o1.next h2 | exact o1.next1 h2 | exact o1.next2 h2
    replace hb := by first | exact below_next hb h2 | exact below_next1 hb h2 | exact below_next2 hb h2
    clear h2
    go_wp2_with fail
    refine (toDocS_o _ _ _ _ _ g1 HL hr).mono ?_
    rintro e w2 ⟨g3x, rfl, o3, hg3, h2⟩
    replace o1 := by first | exact o1.next h2 | exact o1.next1 h2 | exact o1.next2 h2
    replace hb := by first | exact below_next hb h2 | exact below_next1 hb h2 | exact below_next2 hb h2
    clear h2
    go_wp2_with fail
    refine (eqDocS_same _ _ _ _ _ _ _ (by omega) HL.out (docs_rd o1 HL) (docs_rd o3 HL)).mono ?_
    rintro e w2 ⟨rfl, h2⟩
    replace hb := by first | exact below_next hb h2 | exact below_next1 hb h2 | exact below_next2 hb h2
    clear h2
    go_wp2
    go_ret
    exact ⟨rfl, (by repeat' (first | (with_reducible exact Below.refl _ _) | (with_reducible assumption) | (with_reducible refine below_drewN ?_ _) | (with_reducible refine Below.drew ?_) | (with_reducible refine Below.alloc ?_ ?_ _) | (with_reducible refine Below.setCell ?_ ?_ _) | go_size))⟩
end Go.Proofs.Ytfapdhfjcnehhaa

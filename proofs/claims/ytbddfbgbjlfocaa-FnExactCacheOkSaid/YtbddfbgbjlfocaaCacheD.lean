/-
  The law on where a kept result stands; sizes of caches.
-/
import Derived.Test.YtbddfbgbjlfocaaCacheC
import Derived.Deep.DeepCutAuto
import Derived.Deep.RegionWith
namespace Go.Proofs.Ytbddfbgbjlfocaa
open Go.RowKit
set_option linter.unusedVariables false

set_option maxHeartbeats 400000 in
theorem szCache_fit (m h k : Int) (A : Option Addr) (n c : Nat) (l : List EntryD) (w : World) (hl : Hid (l.length = n)) (hr : Rd w 5 A n (l.flatMap entryCells)) (hle : Hid (szEntryL l ≤ 1048576)) :
    Calls Try.prog 56 #[.agg #[.int .i64 m, .slice A n c, .int .i64 h, .int .i64 k], .int .i64 1048576] w fun e w' => e = .returned (.int .i64 (1048576 - (szEntryL l : Nat))) ∧ Below w.heap.size w w' := by
  have hbw := Below.refl w.heap.size w
  have g0 : (0 : Int) ≤ 1048576 - (szEntryL l : Nat) := by have := hle.out; omega
  go_enter Try.func56, Try.ntmps56
  go_wp2_with fail
  refine (szEntryS_ok A n c l 1048576 _ (by omega) hl.out (hr.alloc _) (by have := hle.out; omega)).mono ?_
  rintro e w2 ⟨rfl, h2⟩
  replace hbw := below_next1 hbw h2
  clear hr
  go_wp2
  go_ret
  exact ⟨rfl, hbw⟩
set_option maxHeartbeats 400000 in
theorem szCache_over (m h k : Int) (A : Option Addr) (n c : Nat) (l : List EntryD) (w : World) (hn : Hid (n ≤ maxLen)) (hl : Hid (l.length = n)) (hr : Rd w 5 A n (l.flatMap entryCells)) (hs : Hid (∀ d ∈ l, OkEntry d)) (hle : Hid (1048576 < szEntryL l)) :
    Calls Try.prog 56 #[.agg #[.int .i64 m, .slice A n c, .int .i64 h, .int .i64 k], .int .i64 1048576] w fun e w' => e = .returned (.int .i64 (-1)) ∧ Below w.heap.size w w' := by
  have hbw := Below.refl w.heap.size w
  go_enter Try.func56, Try.ntmps56
  go_wp2_with fail
  refine (szEntryS_big A n c l 1048576 _ (by omega) (by omega) hn.out hl.out (hr.alloc _) hs.out (by have := hle.out; omega)).mono ?_
  rintro e w2 ⟨rfl, h2⟩
  replace hbw := below_next1 hbw h2
  clear hr
  go_wp2
  go_ret
  exact ⟨rfl, hbw⟩

set_option maxRecDepth 100000 in
set_option maxHeartbeats 1600000 in
theorem lawCacheAt (m : Int) (A : Option Addr) (n c : Nat) (l : List EntryD) (h k : Int) (t : ByteArray) (a b : Int) (w : World) (hh : l.length = n ∧ n ≤ maxLen ∧ Rd w 5 A n (l.flatMap entryCells) ∧ ∀ d ∈ l, OkEntry d) (ht : t.size ≤ maxLen) :
    Calls Try.prog 14 #[.agg #[.int .i64 m, .slice A n c, .int .i64 h, .int .i64 k], .string t, .int .i64 a, .int .i64 b] w fun e w' => e = .returned (.bool true) ∧ Below w.heap.size w w' := by
  obtain ⟨hl, hn, hr, hs⟩ := hh
  have hb := Below.refl w.heap.size w
  by_cases h0 : 1048576 < t.size
  · clear hl hn hs hr
    unfold maxLen at ht
    go_enter Try.func14, Try.ntmps14
    go_wp2
    go_ret
    exact ⟨rfl, (by repeat' (first | (with_reducible exact Below.refl _ _) | (with_reducible assumption) | (with_reducible refine below_drewN ?_ _) | (with_reducible refine Below.drew ?_) | (with_reducible refine Below.alloc ?_ ?_ _) | (with_reducible refine Below.setCell ?_ ?_ _) | go_size))⟩
  have HT : t.size ≤ 1048576 := by omega
  have HL := Lib.hid hl
  have HS := Lib.hid hs
  have HN := Lib.hid hn
  by_cases hsz : szEntryL l ≤ 1048576
  · have HZ := Lib.hid hsz
    have g0 : (0 : Int) ≤ 1048576 - (szEntryL l : Nat) := by omega
    have g1 : n ≤ 1048576 := by unfold szEntryL at hsz; omega
    clear hsz hl hs hn ht h0
    go_enter Try.func14, Try.ntmps14
    go_wp2_with fail
    refine (szCache_fit _ _ _ _ _ _ _ _ HL (hr.alloc _) HZ).mono ?_
    rintro e w2 ⟨rfl, h2⟩
    replace hr := by first | exact hr.next h2 | exact hr.next1 h2 | exact hr.next2 h2
    have K1 := Blk.fresh h2
    replace hb := by first | exact below_next hb h2 | exact below_next1 hb h2 | exact below_next2 hb h2
    clear h2
    have cK1 := K1.cell
    have fK1 := K1.frozen
    have zK1 := K1.lt
    go_wp2_with fail
    refine (toCache_any _ _ _ _ _ _ _ _ g1 HL hr).mono ?_
    rintro e w2 ⟨g1x, rfl, o1, hg1, h2⟩
    clear cK1 fK1 zK1
    replace K1 := by first | exact K1.next h2 | exact K1.next1 h2 | exact K1.next2 h2
    replace hr := by first | exact hr.next h2 | exact hr.next1 h2 | exact hr.next2 h2
    replace hb := by first | exact below_next hb h2 | exact below_next1 hb h2 | exact below_next2 hb h2
    clear h2
    have cK1 := K1.cell
    have fK1 := K1.frozen
    have zK1 := K1.lt
    have r1 := Own.rd (size := 5) (n := n) o1 (by rw [flat_len entryCells entryCells_len, HL.out])
    go_wp2_with fail
    refine (specCacheAt_any _ _ _ _ _ _ _ _ _ _ _ (by omega) HL r1).mono ?_
    rintro e w2 ⟨rfl, h2⟩
    clear cK1 fK1 zK1
    replace K1 := by first | exact K1.next h2 | exact K1.next1 h2 | exact K1.next2 h2
    replace hr := by first | exact hr.next h2 | exact hr.next1 h2 | exact hr.next2 h2
    replace hb := by first | exact below_next hb h2 | exact below_next1 hb h2 | exact below_next2 hb h2
    clear h2
    have cK1 := K1.cell
    have fK1 := K1.frozen
    have zK1 := K1.lt
    clear r1 o1
    go_wp2_with fail
    refine (toCache_any _ _ _ _ _ _ _ _ g1 HL hr).mono ?_
    rintro e w2 ⟨g2x, rfl, o2, hg2, h2⟩
    clear cK1 fK1 zK1
    replace K1 := by first | exact K1.next h2 | exact K1.next1 h2 | exact K1.next2 h2
    replace hr := by first | exact hr.next h2 | exact hr.next1 h2 | exact hr.next2 h2
    replace hb := by first | exact below_next hb h2 | exact below_next1 hb h2 | exact below_next2 hb h2
    clear h2
    have cK1 := K1.cell
    have fK1 := K1.frozen
    have zK1 := K1.lt
    have r2 := Own.rd (size := 5) (n := n) o2 (by rw [flat_len entryCells entryCells_len, HL.out])
    clear o2
    go_wp2_with fail
    refine (implCacheAt_any _ _ _ _ _ _ _ _ _ _ _ (by omega) HL (r2.alloc _)).mono ?_
    rintro e w2 ⟨rfl, h2⟩
    clear cK1 fK1 zK1
    replace K1 := by first | exact K1.next h2 | exact K1.next1 h2 | exact K1.next2 h2
    replace hr := by first | exact hr.next h2 | exact hr.next1 h2 | exact hr.next2 h2
    replace r2 := by first | exact r2.next h2 | exact r2.next1 h2 | exact r2.next2 h2
    have K2 := Blk.fresh h2
    replace hb := by first | exact below_next hb h2 | exact below_next1 hb h2 | exact below_next2 hb h2
    clear h2
    have cK1 := K1.cell
    have fK1 := K1.frozen
    have zK1 := K1.lt
    have cK2 := K2.cell
    have fK2 := K2.frozen
    have zK2 := K2.lt
    go_upto_region 12 with fail
    go_cut [41] (fun s wx => s = .bool false ∧ Below w.heap.size w wx)
    case first =>
      go_region_with (first
        | (go_at_call 58; refine (toCache_any _ _ _ _ _ _ _ _ g1 HL (by first | exact hr | exact hr.drew)).mono ?_; rintro e w9 ⟨g9, rfl, o9, hg9, h9⟩
           have h9' : Below w2.heap.size w2 w9 := (by first | exact h9 | exact (Below.refl _ w2).drew.trans h9)
           have r9 := Own.rd (size := 5) (n := n) o9 (by rw [flat_len entryCells entryCells_len, HL.out])
           have r2' := r2.next h9'
           have b2 := K2.next h9'
           have y2 := b2.cell
           have zz := b2.lt
           clear h9)
        | (go_at_call 53; refine (eqCache_same _ _ _ _ _ _ _ _ _ _ (by omega) HL r2' r9).mono ?_; rintro e w10 ⟨rfl, h10⟩
           have hbb := below_next (hb.trans (h9'.mono hb.size)) h10))
      all_goals (go_wp2_with fail; go_meet; exact ⟨rfl, hbb⟩)
    case rest =>
      obtain ⟨rfl, hb2⟩ := hcut
      go_wp2
      go_ret
      exact ⟨rfl, hb2⟩
  · have HZ := Lib.hid (show 1048576 < szEntryL l by omega)
    clear hsz hl hs hn ht h0
    go_enter Try.func14, Try.ntmps14
    go_wp2_with fail
    refine (szCache_over _ _ _ _ _ _ _ _ HN HL (hr.alloc _) HS HZ).mono ?_
    rintro e w2 ⟨rfl, h2⟩
    have K1 := Blk.fresh h2
    replace hb := by first | exact below_next hb h2 | exact below_next1 hb h2 | exact below_next2 hb h2
    clear h2
    have cK1 := K1.cell
    have fK1 := K1.frozen
    have zK1 := K1.lt
    go_wp2
    go_ret
    exact ⟨rfl, (by repeat' (first | (with_reducible exact Below.refl _ _) | (with_reducible assumption) | (with_reducible refine below_drewN ?_ _) | (with_reducible refine Below.drew ?_) | (with_reducible refine Below.alloc ?_ ?_ _) | (with_reducible refine Below.setCell ?_ ?_ _) | go_size))⟩
end Go.Proofs.Ytbddfbgbjlfocaa

/-
  Contracts: where a place is behind a change; two changes that are one.
-/
import Derived.Test.YtbddfbgbjlfocaaChangeB
namespace Go.Proofs.Ytbddfbgbjlfocaa
open Go.RowKit
set_option linter.unusedVariables false

set_option maxHeartbeats 400000 in
theorem eqChange1 (a b : Int) (s : ByteArray) (w : World) :
    Calls Try.prog 35 #[.agg #[.int .i64 a, .int .i64 b, .string s], .agg #[.int .i64 a, .int .i64 b, .string s]] w fun e w' => e = .returned (.bool true) ∧ Below w.heap.size w w' := by
  go_enter Try.func35, Try.ntmps35
  go_wp2
  go_ret
  exact ⟨rfl, (by repeat' (first | (with_reducible exact Below.refl _ _) | (with_reducible assumption) | (with_reducible refine below_drewN ?_ _) | (with_reducible refine Below.drew ?_) | (with_reducible refine Below.alloc ?_ ?_ _) | (with_reducible refine Below.setCell ?_ ?_ _) | go_size))⟩

def moved (a b x : Int) (n : Nat) : Int := if x ≤ a then x else if x < b then a else wrap64 (wrap64 (x + n) - wrap64 (b - a))
set_option maxHeartbeats 400000 in
theorem specMovedBy_any (a b x : Int) (s : ByteArray) (w : World) :
    Calls Try.prog 29 #[.agg #[.int .i64 a, .int .i64 b, .string s], .int .i64 x] w fun e w' => e = .returned (.int .i64 (moved a b x s.size)) ∧ Below w.heap.size w w' := by
  unfold moved
  by_cases h1 : x ≤ a
  · rw [if_pos h1]
    go_enter Try.func29, Try.ntmps29
    go_wp2
    go_ret
    exact ⟨rfl, (by repeat' (first | (with_reducible exact Below.refl _ _) | (with_reducible assumption) | (with_reducible refine below_drewN ?_ _) | (with_reducible refine Below.drew ?_) | (with_reducible refine Below.alloc ?_ ?_ _) | (with_reducible refine Below.setCell ?_ ?_ _) | go_size))⟩
  · rw [if_neg h1]
    by_cases h2 : x < b
    · rw [if_pos h2]
      go_enter Try.func29, Try.ntmps29
      go_wp2
      go_ret
      exact ⟨rfl, (by repeat' (first | (with_reducible exact Below.refl _ _) | (with_reducible assumption) | (with_reducible refine below_drewN ?_ _) | (with_reducible refine Below.drew ?_) | (with_reducible refine Below.alloc ?_ ?_ _) | (with_reducible refine Below.setCell ?_ ?_ _) | go_size))⟩
    · rw [if_neg h2]
      go_enter Try.func29, Try.ntmps29
      go_wp2
      go_ret
      exact ⟨rfl, (by repeat' (first | (with_reducible exact Below.refl _ _) | (with_reducible assumption) | (with_reducible refine below_drewN ?_ _) | (with_reducible refine Below.drew ?_) | (with_reducible refine Below.alloc ?_ ?_ _) | (with_reducible refine Below.setCell ?_ ?_ _) | go_size))⟩
set_option maxHeartbeats 400000 in
theorem implMovedBy_any (a b x : Int) (s : ByteArray) (w : World) :
    Calls Try.prog 30 #[.agg #[.int .i64 a, .int .i64 b, .string s], .int .i64 x] w fun e w' => e = .returned (.int .i64 (moved a b x s.size)) ∧ Below w.heap.size w w' := by
  unfold moved
  by_cases h1 : x ≤ a
  · rw [if_pos h1]
    go_enter Try.func30, Try.ntmps30
    go_wp2
    go_ret
    exact ⟨rfl, (by repeat' (first | (with_reducible exact Below.refl _ _) | (with_reducible assumption) | (with_reducible refine below_drewN ?_ _) | (with_reducible refine Below.drew ?_) | (with_reducible refine Below.alloc ?_ ?_ _) | (with_reducible refine Below.setCell ?_ ?_ _) | go_size))⟩
  · rw [if_neg h1]
    by_cases h2 : x < b
    · rw [if_pos h2]
      have h3 : ¬ b ≤ x := by omega
      go_enter Try.func30, Try.ntmps30
      go_wp2
      go_ret
      exact ⟨rfl, (by repeat' (first | (with_reducible exact Below.refl _ _) | (with_reducible assumption) | (with_reducible refine below_drewN ?_ _) | (with_reducible refine Below.drew ?_) | (with_reducible refine Below.alloc ?_ ?_ _) | (with_reducible refine Below.setCell ?_ ?_ _) | go_size))⟩
    · rw [if_neg h2]
      have h3 : b ≤ x := by omega
      go_enter Try.func30, Try.ntmps30
      go_wp2
      go_ret
      exact ⟨rfl, (by repeat' (first | (with_reducible exact Below.refl _ _) | (with_reducible assumption) | (with_reducible refine below_drewN ?_ _) | (with_reducible refine Below.drew ?_) | (with_reducible refine Below.alloc ?_ ?_ _) | (with_reducible refine Below.setCell ?_ ?_ _) | go_size))⟩


/-- The size that is left. -/
theorem szChange1_over (a b : Int) (s : ByteArray) (w : World) (hs : s.size ≤ maxLen) (hl : 1048576 < s.size) :
    Calls Try.prog 22 #[.agg #[.int .i64 a, .int .i64 b, .string s], .int .i64 1048576] w fun e w' => e = .returned (.int .i64 (-1)) ∧ Below w.heap.size w w' := by
  have h := szChange_any a b 1048576 s w (by omega) (by omega) hs
  rwa [if_pos (by omega)] at h
theorem szChange1_fit (a b : Int) (s : ByteArray) (w : World) (hl : s.size ≤ 1048576) :
    Calls Try.prog 22 #[.agg #[.int .i64 a, .int .i64 b, .string s], .int .i64 1048576] w fun e w' => e = .returned (.int .i64 (1048576 - s.size)) ∧ Below w.heap.size w w' := by
  have h := szChange_any a b 1048576 s w (by omega) (by omega) (by unfold maxLen; omega)
  rwa [if_neg (by omega)] at h

set_option maxHeartbeats 400000 in
theorem lawMovedBy (a b : Int) (s : ByteArray) (x : Int) (w : World) (hs : s.size ≤ maxLen) :
    Calls Try.prog 6 #[.agg #[.int .i64 a, .int .i64 b, .string s], .int .i64 x] w fun e w' => e = .returned (.bool true) ∧ Below w.heap.size w w' := by
  by_cases hl : 1048576 < s.size
  · go_enter Try.func6, Try.ntmps6
    go_wp2_with fail
    refine (szChange1_over _ _ _ _ hs hl).mono ?_
    rintro e w2 ⟨rfl, hb1⟩
    obtain ⟨hc, hf⟩ := bcell hb1
    go_wp2
    have hb' := below_box hb1
    go_ret
    exact ⟨rfl, (by repeat' (first | (with_reducible exact Below.refl _ _) | (with_reducible assumption) | (with_reducible refine below_drewN ?_ _) | (with_reducible refine Below.drew ?_) | (with_reducible refine Below.alloc ?_ ?_ _) | (with_reducible refine Below.setCell ?_ ?_ _) | go_size))⟩
  · go_enter Try.func6, Try.ntmps6
    go_wp2_with fail
    refine (szChange1_fit _ _ _ _ (by omega)).mono ?_
    rintro e w2 ⟨rfl, hb1⟩
    obtain ⟨hc, hf⟩ := bcell hb1
    have hl' : (0 : Int) ≤ 1048576 - s.size := by omega
    go_wp2_with fail
    refine (toChange1 _ _ _ _).mono ?_
    rintro e w2 ⟨rfl, h2⟩
    replace hb1 := below_next hb1 h2
    clear hc hf h2
    obtain ⟨hc, hf⟩ := bcell hb1
    go_wp2_with fail
    refine (specMovedBy_any _ _ _ _ _).mono ?_
    rintro e w2 ⟨rfl, h2⟩
    replace hb1 := below_next hb1 h2
    clear hc hf h2
    obtain ⟨hc, hf⟩ := bcell hb1
    go_wp2_with fail
    refine (toChange1 _ _ _ _).mono ?_
    rintro e w2 ⟨rfl, h2⟩
    replace hb1 := below_next hb1 h2
    clear hc hf h2
    obtain ⟨hc, hf⟩ := bcell hb1
    go_wp2_with fail
    refine (implMovedBy_any _ _ _ _ _).mono ?_
    rintro e w2 ⟨rfl, h2⟩
    replace hb1 := below_next hb1 h2
    clear hc hf h2
    obtain ⟨hc, hf⟩ := bcell hb1
    go_wp2
    have hb' := below_box hb1
    go_ret
    exact ⟨rfl, (by repeat' (first | (with_reducible exact Below.refl _ _) | (with_reducible assumption) | (with_reducible refine below_drewN ?_ _) | (with_reducible refine Below.drew ?_) | (with_reducible refine Below.alloc ?_ ?_ _) | (with_reducible refine Below.setCell ?_ ?_ _) | go_size))⟩

set_option maxHeartbeats 400000 in
theorem lawChangeOk (t : ByteArray) (a b : Int) (s : ByteArray) (w : World) (ht : t.size ≤ maxLen) (hs : s.size ≤ maxLen) :
    Calls Try.prog 4 #[.string t, .agg #[.int .i64 a, .int .i64 b, .string s]] w fun e w' => e = .returned (.bool true) ∧ Below w.heap.size w w' := by
  by_cases h0 : 1048576 < t.size
  · go_enter Try.func4, Try.ntmps4
    go_wp2
    go_ret
    exact ⟨rfl, (by repeat' (first | (with_reducible exact Below.refl _ _) | (with_reducible assumption) | (with_reducible refine below_drewN ?_ _) | (with_reducible refine Below.drew ?_) | (with_reducible refine Below.alloc ?_ ?_ _) | (with_reducible refine Below.setCell ?_ ?_ _) | go_size))⟩
  by_cases hl : 1048576 < s.size
  · go_enter Try.func4, Try.ntmps4
    go_wp2_with fail
    refine (szChange1_over _ _ _ _ hs hl).mono ?_
    rintro e w2 ⟨rfl, hb1⟩
    obtain ⟨hc, hf⟩ := bcell hb1
    go_wp2
    have hb' := below_box hb1
    go_ret
    exact ⟨rfl, (by repeat' (first | (with_reducible exact Below.refl _ _) | (with_reducible assumption) | (with_reducible refine below_drewN ?_ _) | (with_reducible refine Below.drew ?_) | (with_reducible refine Below.alloc ?_ ?_ _) | (with_reducible refine Below.setCell ?_ ?_ _) | go_size))⟩
  · go_enter Try.func4, Try.ntmps4
    go_wp2_with fail
    refine (szChange1_fit _ _ _ _ (by omega)).mono ?_
    rintro e w2 ⟨rfl, hb1⟩
    obtain ⟨hc, hf⟩ := bcell hb1
    have hl' : (0 : Int) ≤ 1048576 - s.size := by omega
    go_wp2_with fail
    refine (toChange1 _ _ _ _).mono ?_
    rintro e w2 ⟨rfl, h2⟩
    replace hb1 := below_next hb1 h2
    clear hc hf h2
    obtain ⟨hc, hf⟩ := bcell hb1
    go_wp2_with fail
    refine (specChangeOk_any _ _ _ _ _ ht).mono ?_
    rintro e w2 ⟨rfl, h2⟩
    replace hb1 := below_next hb1 h2
    clear hc hf h2
    obtain ⟨hc, hf⟩ := bcell hb1
    go_wp2_with fail
    refine (toChange1 _ _ _ _).mono ?_
    rintro e w2 ⟨rfl, h2⟩
    replace hb1 := below_next hb1 h2
    clear hc hf h2
    obtain ⟨hc, hf⟩ := bcell hb1
    go_wp2_with fail
    refine (implChangeOk_any _ _ _ _ _).mono ?_
    rintro e w2 ⟨rfl, h2⟩
    replace hb1 := below_next hb1 h2
    clear hc hf h2
    obtain ⟨hc, hf⟩ := bcell hb1
    go_wp2
    have hb' := below_box hb1
    go_ret
    exact ⟨rfl, (by repeat' (first | (with_reducible exact Below.refl _ _) | (with_reducible assumption) | (with_reducible refine below_drewN ?_ _) | (with_reducible refine Below.drew ?_) | (with_reducible refine Below.alloc ?_ ?_ _) | (with_reducible refine Below.setCell ?_ ?_ _) | go_size))⟩

set_option maxHeartbeats 400000 in
theorem lawChanged (t : ByteArray) (a b : Int) (s : ByteArray) (w : World) (ht : t.size ≤ maxLen) (hs : s.size ≤ maxLen) :
    Calls Try.prog 7 #[.string t, .agg #[.int .i64 a, .int .i64 b, .string s]] w fun e w' => e = .returned (.bool true) ∧ Below w.heap.size w w' := by
  by_cases h0 : 1048576 < t.size
  · go_enter Try.func7, Try.ntmps7
    go_wp2
    go_ret
    exact ⟨rfl, (by repeat' (first | (with_reducible exact Below.refl _ _) | (with_reducible assumption) | (with_reducible refine below_drewN ?_ _) | (with_reducible refine Below.drew ?_) | (with_reducible refine Below.alloc ?_ ?_ _) | (with_reducible refine Below.setCell ?_ ?_ _) | go_size))⟩
  by_cases hl : 1048576 < s.size
  · go_enter Try.func7, Try.ntmps7
    go_wp2_with fail
    refine (szChange1_over _ _ _ _ hs hl).mono ?_
    rintro e w2 ⟨rfl, hb1⟩
    obtain ⟨hc, hf⟩ := bcell hb1
    go_wp2
    have hb' := below_box hb1
    go_ret
    exact ⟨rfl, (by repeat' (first | (with_reducible exact Below.refl _ _) | (with_reducible assumption) | (with_reducible refine below_drewN ?_ _) | (with_reducible refine Below.drew ?_) | (with_reducible refine Below.alloc ?_ ?_ _) | (with_reducible refine Below.setCell ?_ ?_ _) | go_size))⟩
  · go_enter Try.func7, Try.ntmps7
    go_wp2_with fail
    refine (szChange1_fit _ _ _ _ (by omega)).mono ?_
    rintro e w2 ⟨rfl, hb1⟩
    obtain ⟨hc, hf⟩ := bcell hb1
    have hl' : (0 : Int) ≤ 1048576 - s.size := by omega
    go_wp2_with fail
    refine (toChange1 _ _ _ _).mono ?_
    rintro e w2 ⟨rfl, h2⟩
    replace hb1 := below_next hb1 h2
    clear hc hf h2
    obtain ⟨hc, hf⟩ := bcell hb1
    go_wp2_with fail
    refine (specChanged_any _ _ _ _ _ (by omega) (by omega)).mono ?_
    rintro e w2 ⟨rfl, h2⟩
    replace hb1 := below_next hb1 h2
    clear hc hf h2
    obtain ⟨hc, hf⟩ := bcell hb1
    go_wp2_with fail
    refine (toChange1 _ _ _ _).mono ?_
    rintro e w2 ⟨rfl, h2⟩
    replace hb1 := below_next hb1 h2
    clear hc hf h2
    obtain ⟨hc, hf⟩ := bcell hb1
    go_wp2_with fail
    refine (implChanged_any _ _ _ _ _ (by omega) (by omega)).mono ?_
    rintro e w2 ⟨rfl, h2⟩
    replace hb1 := below_next hb1 h2
    clear hc hf h2
    obtain ⟨hc, hf⟩ := bcell hb1
    go_wp2
    have hb' := below_box hb1
    go_ret
    exact ⟨rfl, (by repeat' (first | (with_reducible exact Below.refl _ _) | (with_reducible assumption) | (with_reducible refine below_drewN ?_ _) | (with_reducible refine Below.drew ?_) | (with_reducible refine Below.alloc ?_ ?_ _) | (with_reducible refine Below.setCell ?_ ?_ _) | go_size))⟩

set_option maxHeartbeats 400000 in
theorem lawBackChange (t : ByteArray) (a b : Int) (s : ByteArray) (w : World) (ht : t.size ≤ maxLen) (hs : s.size ≤ maxLen) :
    Calls Try.prog 9 #[.string t, .agg #[.int .i64 a, .int .i64 b, .string s]] w fun e w' => e = .returned (.bool true) ∧ Below w.heap.size w w' := by
  by_cases h0 : 1048576 < t.size
  · go_enter Try.func9, Try.ntmps9
    go_wp2
    go_ret
    exact ⟨rfl, (by repeat' (first | (with_reducible exact Below.refl _ _) | (with_reducible assumption) | (with_reducible refine below_drewN ?_ _) | (with_reducible refine Below.drew ?_) | (with_reducible refine Below.alloc ?_ ?_ _) | (with_reducible refine Below.setCell ?_ ?_ _) | go_size))⟩
  by_cases hl : 1048576 < s.size
  · go_enter Try.func9, Try.ntmps9
    go_wp2_with fail
    refine (szChange1_over _ _ _ _ hs hl).mono ?_
    rintro e w2 ⟨rfl, hb1⟩
    obtain ⟨hc, hf⟩ := bcell hb1
    go_wp2
    have hb' := below_box hb1
    go_ret
    exact ⟨rfl, (by repeat' (first | (with_reducible exact Below.refl _ _) | (with_reducible assumption) | (with_reducible refine below_drewN ?_ _) | (with_reducible refine Below.drew ?_) | (with_reducible refine Below.alloc ?_ ?_ _) | (with_reducible refine Below.setCell ?_ ?_ _) | go_size))⟩
  obtain ⟨A, B, S, hV⟩ : ∃ A B S, chBackV t s a b = .agg #[.int .i64 A, .int .i64 B, .string S] := by
    unfold chBackV
    split <;> exact ⟨_, _, _, rfl⟩
  have H1 := fun w : World => specBackChange_any t s a b w (by omega) (by omega)
  have H2 := fun w : World => implBackChange_any t s a b w (by omega) (by omega)
  rw [hV] at H1 H2
  have K1 := Lib.hid H1
  have K2 := Lib.hid H2
  clear H1 H2 hV
  go_enter Try.func9, Try.ntmps9
  have hb := Below.refl w.heap.size w
  have hl' : (0 : Int) ≤ 1048576 - s.size := by omega
  go_wp2_with fail
  refine (szChange1_fit _ _ _ _ (by omega)).mono ?_
  rintro e w2 ⟨rfl, h2⟩
  have A1 := Blk.fresh h2
  replace hb := by first | exact below_next hb h2 | exact below_next1 hb h2 | exact below_next2 hb h2
  clear h2
  have cA1 := A1.cell
  have fA1 := A1.frozen
  have zA1 := A1.lt
  go_wp2_with fail
  refine (toChange1 _ _ _ _).mono ?_
  rintro e w2 ⟨rfl, h2⟩
  clear cA1 fA1 zA1
  replace A1 := by first | exact A1.next h2 | exact A1.next1 h2 | exact A1.next2 h2
  replace hb := by first | exact below_next hb h2 | exact below_next1 hb h2 | exact below_next2 hb h2
  clear h2
  have cA1 := A1.cell
  have fA1 := A1.frozen
  have zA1 := A1.lt
  go_wp2_with fail
  refine (K1.out _).mono ?_
  rintro e w2 ⟨rfl, h2⟩
  clear cA1 fA1 zA1
  replace A1 := by first | exact A1.next h2 | exact A1.next1 h2 | exact A1.next2 h2
  replace hb := by first | exact below_next hb h2 | exact below_next1 hb h2 | exact below_next2 hb h2
  clear h2
  have cA1 := A1.cell
  have fA1 := A1.frozen
  have zA1 := A1.lt
  go_wp2_with fail
  refine (toChange1 _ _ _ _).mono ?_
  rintro e w2 ⟨rfl, h2⟩
  clear cA1 fA1 zA1
  replace A1 := by first | exact A1.next h2 | exact A1.next1 h2 | exact A1.next2 h2
  have A2 := Blk.fresh h2
  replace hb := by first | exact below_next hb h2 | exact below_next1 hb h2 | exact below_next2 hb h2
  clear h2
  have cA1 := A1.cell
  have fA1 := A1.frozen
  have zA1 := A1.lt
  have cA2 := A2.cell
  have fA2 := A2.frozen
  have zA2 := A2.lt
  go_wp2_with fail
  refine (K2.out _).mono ?_
  rintro e w2 ⟨rfl, h2⟩
  clear cA1 fA1 zA1
  replace A1 := by first | exact A1.next h2 | exact A1.next1 h2 | exact A1.next2 h2
  clear cA2 fA2 zA2
  replace A2 := by first | exact A2.next h2 | exact A2.next1 h2 | exact A2.next2 h2
  replace hb := by first | exact below_next hb h2 | exact below_next1 hb h2 | exact below_next2 hb h2
  clear h2
  have cA1 := A1.cell
  have fA1 := A1.frozen
  have zA1 := A1.lt
  have cA2 := A2.cell
  have fA2 := A2.frozen
  have zA2 := A2.lt
  go_wp2_with fail
  refine (eqChange1 _ _ _ _).mono ?_
  rintro e w2 ⟨rfl, h2⟩
  clear cA1 fA1 zA1
  replace A1 := by first | exact A1.next h2 | exact A1.next1 h2 | exact A1.next2 h2
  clear cA2 fA2 zA2
  replace A2 := by first | exact A2.next h2 | exact A2.next1 h2 | exact A2.next2 h2
  have A3 := Blk.fresh h2
  replace hb := by first | exact below_next hb h2 | exact below_next1 hb h2 | exact below_next2 hb h2
  clear h2
  have cA1 := A1.cell
  have fA1 := A1.frozen
  have zA1 := A1.lt
  have cA2 := A2.cell
  have fA2 := A2.frozen
  have zA2 := A2.lt
  have cA3 := A3.cell
  have fA3 := A3.frozen
  have zA3 := A3.lt
  go_wp2
  go_ret
  exact ⟨rfl, (by repeat' (first | (with_reducible exact Below.refl _ _) | (with_reducible assumption) | (with_reducible refine below_drewN ?_ _) | (with_reducible refine Below.drew ?_) | (with_reducible refine Below.alloc ?_ ?_ _) | (with_reducible refine Below.setCell ?_ ?_ _) | go_size))⟩

set_option maxHeartbeats 400000 in
theorem lawChangeOf (a b : ByteArray) (w : World) (ha : a.size ≤ maxLen) (hb : b.size ≤ maxLen) :
    Calls Try.prog 8 #[.string a, .string b] w fun e w' => e = .returned (.bool true) ∧ Below w.heap.size w w' := by
  by_cases h0 : 1048576 < a.size
  · go_enter Try.func8, Try.ntmps8
    go_wp2
    go_ret
    exact ⟨rfl, (by repeat' (first | (with_reducible exact Below.refl _ _) | (with_reducible assumption) | (with_reducible refine below_drewN ?_ _) | (with_reducible refine Below.drew ?_) | (with_reducible refine Below.alloc ?_ ?_ _) | (with_reducible refine Below.setCell ?_ ?_ _) | go_size))⟩
  by_cases h1 : 1048576 < b.size
  · go_enter Try.func8, Try.ntmps8
    go_wp2
    go_ret
    exact ⟨rfl, (by repeat' (first | (with_reducible exact Below.refl _ _) | (with_reducible assumption) | (with_reducible refine below_drewN ?_ _) | (with_reducible refine Below.drew ?_) | (with_reducible refine Below.alloc ?_ ?_ _) | (with_reducible refine Below.setCell ?_ ?_ _) | go_size))⟩
  go_enter Try.func8, Try.ntmps8
  go_wp2_with fail
  refine (specChangeOf_any _ _ _ (by omega) (by omega)).mono ?_
  rintro e w1 ⟨n, m, ⟨hn, hm⟩, rfl, hb⟩
  go_wp2_with fail
  refine (implChangeOf_any _ _ _ (by omega) (by omega)).mono ?_
  rintro e w2 ⟨n', m', ⟨hn', hm'⟩, rfl, h2⟩
  obtain rfl := com_one hn hn'
  obtain rfl := end_one hm hm'
  have A1 := Blk.fresh h2
  replace hb := below_next1 hb h2
  have cA1 := A1.cell
  have zA1 := A1.lt
  have fA1 := A1.frozen
  go_wp2_with fail
  refine (eqChange1 _ _ _ _).mono ?_
  rintro e w2 ⟨rfl, h2⟩
  clear cA1 fA1 zA1
  replace A1 := by first | exact A1.next h2 | exact A1.next1 h2 | exact A1.next2 h2
  have A2 := Blk.fresh h2
  replace hb := by first | exact below_next hb h2 | exact below_next1 hb h2 | exact below_next2 hb h2
  clear h2
  have cA1 := A1.cell
  have fA1 := A1.frozen
  have zA1 := A1.lt
  have cA2 := A2.cell
  have fA2 := A2.frozen
  have zA2 := A2.lt
  go_wp2
  go_ret
  exact ⟨rfl, (by repeat' (first | (with_reducible exact Below.refl _ _) | (with_reducible assumption) | (with_reducible refine below_drewN ?_ _) | (with_reducible refine Below.drew ?_) | (with_reducible refine Below.alloc ?_ ?_ _) | (with_reducible refine Below.setCell ?_ ?_ _) | go_size))⟩
end Go.Proofs.Ytbddfbgbjlfocaa

/-
  Contracts: a change of a text (chapter 28), the small functions.
-/
import Derived.Test.YtbddfbgbjlfocaaBase
import Derived.Test.YtbddfbgbjlfocaaChecked
import Derived.Handy
namespace Go.Proofs.Ytbddfbgbjlfocaa
open Go.RowKit
set_option linter.unusedVariables false

set_option maxHeartbeats 400000 in
theorem szChange_any (a b left : Int) (s : ByteArray) (w : World) (h0 : 0 ≤ left) (h1 : left ≤ 1048576) (hs : s.size ≤ maxLen) :
    Calls Try.prog 22 #[.agg #[.int .i64 a, .int .i64 b, .string s], .int .i64 left] w fun e w' =>
      e = .returned (.int .i64 (if left < s.size then -1 else left - s.size)) ∧ Below w.heap.size w w' := by
  unfold maxLen at hs
  by_cases hl : left < s.size
  · rw [if_pos hl]
    go_enter Try.func22, Try.ntmps22
    go_wp2
    go_ret
    exact ⟨rfl, by go_grown⟩
  · rw [if_neg hl]
    go_enter Try.func22, Try.ntmps22
    go_wp2
    go_ret
    exact ⟨rfl, by go_grown⟩

set_option maxHeartbeats 400000 in
theorem toChange1 (a b : Int) (s : ByteArray) (w : World) :
    Calls Try.prog 24 #[.agg #[.int .i64 a, .int .i64 b, .string s]] w fun e w' =>
      e = .returned (.agg #[.int .i64 a, .int .i64 b, .string s]) ∧ Below w.heap.size w w' := by
  go_enter Try.func24, Try.ntmps24
  go_wp2
  go_returns
  exact ⟨rfl, by go_grown⟩

/-- From not above To, both in 0 .. how many bytes there are. -/
def chOk (n : Nat) (a b : Int) : Bool := decide (0 ≤ a ∧ a ≤ b ∧ b ≤ n)
theorem chOk_yes {n : Nat} {a b : Int} (h0 : 0 ≤ a) (h1 : a ≤ b) (h2 : b ≤ n) : chOk n a b = true := by unfold chOk; exact decide_eq_true ⟨h0, h1, h2⟩
theorem chOk_no {n : Nat} {a b : Int} (h : ¬ (0 ≤ a ∧ a ≤ b ∧ b ≤ n)) : chOk n a b = false := by unfold chOk; exact decide_eq_false h

theorem l01In_any (a b c : Int) (w : World) : Calls Try.prog 77 #[.int .i64 a, .int .i64 b, .int .i64 c] w fun e w' => e = .returned (.bool (decide (b ≤ a ∧ a ≤ c))) ∧ w = w' := by
  by_cases h0 : b ≤ a
  · by_cases h1 : a ≤ c
    · rw [decide_eq_true ⟨h0, h1⟩]
      go_enter Try.func77, Try.ntmps77
      go_wp2
      go_ret
      exact ⟨rfl, rfl⟩
    · rw [decide_eq_false (fun h => h1 h.2)]
      go_enter Try.func77, Try.ntmps77
      go_wp2
      go_ret
      exact ⟨rfl, rfl⟩
  · rw [decide_eq_false (fun h => h0 h.1)]
    go_enter Try.func77, Try.ntmps77
    go_wp2
    go_ret
    exact ⟨rfl, rfl⟩

set_option maxHeartbeats 400000 in
theorem specChangeOk_any (t s : ByteArray) (a b : Int) (w : World) (ht : t.size ≤ maxLen) :
    Calls Try.prog 23 #[.string t, .agg #[.int .i64 a, .int .i64 b, .string s]] w fun e w' => e = .returned (.bool (chOk t.size a b)) ∧ Below w.heap.size w w' := by
  unfold maxLen at ht
  by_cases h0 : 0 ≤ a ∧ a ≤ b
  · have hd : decide (0 ≤ a ∧ a ≤ b) = true := decide_eq_true h0
    obtain ⟨h0, h1⟩ := h0
    by_cases h2 : b ≤ t.size
    · rw [chOk_yes h0 h1 h2]
      go_enter Try.func23, Try.ntmps23
      go_wp2_with (go_at_call 77; refine (l01In_any _ _ _ _).mono ?_; rintro e w' ⟨rfl, rfl⟩)
      go_ret
      exact ⟨rfl, by go_grown⟩
    · rw [chOk_no (by omega)]
      go_enter Try.func23, Try.ntmps23
      go_wp2_with (go_at_call 77; refine (l01In_any _ _ _ _).mono ?_; rintro e w' ⟨rfl, rfl⟩)
      go_ret
      exact ⟨by simp [h2], by go_grown⟩
  · have hd : decide (0 ≤ a ∧ a ≤ b) = false := decide_eq_false h0
    rw [chOk_no (fun h => h0 ⟨h.1, h.2.1⟩)]
    clear h0
    go_enter Try.func23, Try.ntmps23
    go_wp2_with (go_at_call 77; refine (l01In_any _ _ _ _).mono ?_; rintro e w' ⟨rfl, rfl⟩)
    go_ret
    exact ⟨rfl, by go_grown⟩

set_option maxHeartbeats 400000 in
theorem implChangeOk_any (t s : ByteArray) (a b : Int) (w : World) :
    Calls Try.prog 25 #[.string t, .agg #[.int .i64 a, .int .i64 b, .string s]] w fun e w' => e = .returned (.bool (chOk t.size a b)) ∧ Below w.heap.size w w' := by
  by_cases h0 : 0 ≤ a
  · by_cases h1 : a ≤ b
    · by_cases h2 : b ≤ t.size
      · rw [chOk_yes h0 h1 h2]
        go_enter Try.func25, Try.ntmps25
        go_wp2
        go_ret
        exact ⟨rfl, by go_grown⟩
      · rw [chOk_no (by omega)]
        go_enter Try.func25, Try.ntmps25
        go_wp2
        go_ret
        exact ⟨rfl, by go_grown⟩
    · rw [chOk_no (by omega)]
      go_enter Try.func25, Try.ntmps25
      go_wp2
      go_ret
      exact ⟨rfl, by go_grown⟩
  · rw [chOk_no (by omega)]
    go_enter Try.func25, Try.ntmps25
    go_wp2
    go_ret
    exact ⟨rfl, by go_grown⟩

/-- t with s in the place of what is from a to b. -/
def chDo (t s : ByteArray) (a b : Int) : ByteArray := t.extract 0 a.toNat ++ s ++ t.extract b.toNat t.size

set_option maxHeartbeats 400000 in
theorem specChanged_yes (t s : ByteArray) (a b : Int) (w : World) (ht : t.size ≤ 4194304) (hs : s.size ≤ 4194304) (h0 : 0 ≤ a) (h1 : a ≤ b) (h2 : b ≤ t.size) :
    Calls Try.prog 31 #[.string t, .agg #[.int .i64 a, .int .i64 b, .string s]] w fun e w' => e = .returned (.tuple #[.string (chDo t s a b), .bool true]) ∧ Below w.heap.size w w' := by
  have hk := chOk_yes h0 h1 h2
  go_enter Try.func31, Try.ntmps31
  go_wp2_with (go_at_call 23; refine (specChangeOk_any _ _ _ _ _ (by unfold maxLen; omega)).mono ?_; rintro e w1 ⟨rfl, hb⟩; obtain ⟨hc, hf⟩ := bcell hb)
  go_quiet (fail)
  go_wp2
  have hb' := below_box hb
  go_ret2
  exact ⟨rfl, (by repeat' (first | (with_reducible exact Below.refl _ _) | (with_reducible assumption) | (with_reducible refine below_drewN ?_ _) | (with_reducible refine Below.drew ?_) | (with_reducible refine Below.alloc ?_ ?_ _) | (with_reducible refine Below.setCell ?_ ?_ _) | go_size))⟩

set_option maxHeartbeats 400000 in
theorem specChanged_no (t s : ByteArray) (a b : Int) (w : World) (ht : t.size ≤ 4194304) (hk : chOk t.size a b = false) :
    Calls Try.prog 31 #[.string t, .agg #[.int .i64 a, .int .i64 b, .string s]] w fun e w' => e = .returned (.tuple #[.string t, .bool false]) ∧ Below w.heap.size w w' := by
  go_enter Try.func31, Try.ntmps31
  go_wp2_with (go_at_call 23; refine (specChangeOk_any _ _ _ _ _ (by unfold maxLen; omega)).mono ?_; rintro e w1 ⟨rfl, hb⟩; obtain ⟨hc, hf⟩ := bcell hb)
  have hb' := below_box hb
  go_ret2
  exact ⟨rfl, (by repeat' (first | (with_reducible exact Below.refl _ _) | (with_reducible assumption) | (with_reducible refine below_drewN ?_ _) | (with_reducible refine Below.drew ?_) | (with_reducible refine Below.alloc ?_ ?_ _) | (with_reducible refine Below.setCell ?_ ?_ _) | go_size))⟩

set_option maxHeartbeats 400000 in
theorem implChanged_yes (t s : ByteArray) (a b : Int) (w : World) (ht : t.size ≤ 4194304) (hs : s.size ≤ 4194304) (h0 : 0 ≤ a) (h1 : a ≤ b) (h2 : b ≤ t.size) :
    Calls Try.prog 32 #[.string t, .agg #[.int .i64 a, .int .i64 b, .string s]] w fun e w' => e = .returned (.tuple #[.string (chDo t s a b), .bool true]) ∧ Below w.heap.size w w' := by
  have hk := chOk_yes h0 h1 h2
  go_enter Try.func32, Try.ntmps32
  go_wp2_with (go_at_call 25; refine (implChangeOk_any _ _ _ _ _).mono ?_; rintro e w1 ⟨rfl, hb⟩; obtain ⟨hc, hf⟩ := bcell hb)
  go_quiet (fail)
  go_wp2
  have hb' := below_box hb
  go_ret2
  exact ⟨rfl, (by repeat' (first | (with_reducible exact Below.refl _ _) | (with_reducible assumption) | (with_reducible refine below_drewN ?_ _) | (with_reducible refine Below.drew ?_) | (with_reducible refine Below.alloc ?_ ?_ _) | (with_reducible refine Below.setCell ?_ ?_ _) | go_size))⟩

set_option maxHeartbeats 400000 in
theorem implChanged_no (t s : ByteArray) (a b : Int) (w : World) (hk : chOk t.size a b = false) :
    Calls Try.prog 32 #[.string t, .agg #[.int .i64 a, .int .i64 b, .string s]] w fun e w' => e = .returned (.tuple #[.string t, .bool false]) ∧ Below w.heap.size w w' := by
  go_enter Try.func32, Try.ntmps32
  go_wp2_with (go_at_call 25; refine (implChangeOk_any _ _ _ _ _).mono ?_; rintro e w1 ⟨rfl, hb⟩; obtain ⟨hc, hf⟩ := bcell hb)
  have hb' := below_box hb
  go_ret2
  exact ⟨rfl, (by repeat' (first | (with_reducible exact Below.refl _ _) | (with_reducible assumption) | (with_reducible refine below_drewN ?_ _) | (with_reducible refine Below.drew ?_) | (with_reducible refine Below.alloc ?_ ?_ _) | (with_reducible refine Below.setCell ?_ ?_ _) | go_size))⟩

/-- Both as one: the text, and whether it was right. -/
def chText (t s : ByteArray) (a b : Int) : ByteArray := if chOk t.size a b then chDo t s a b else t
theorem specChanged_any (t s : ByteArray) (a b : Int) (w : World) (ht : t.size ≤ 4194304) (hs : s.size ≤ 4194304) :
    Calls Try.prog 31 #[.string t, .agg #[.int .i64 a, .int .i64 b, .string s]] w fun e w' => e = .returned (.tuple #[.string (chText t s a b), .bool (chOk t.size a b)]) ∧ Below w.heap.size w w' := by
  cases hk : chOk t.size a b with
  | true =>
    have h := of_decide_eq_true hk
    simpa [chText, hk] using specChanged_yes t s a b w ht hs h.1 h.2.1 h.2.2
  | false => simpa [chText, hk] using specChanged_no t s a b w ht hk
theorem implChanged_any (t s : ByteArray) (a b : Int) (w : World) (ht : t.size ≤ 4194304) (hs : s.size ≤ 4194304) :
    Calls Try.prog 32 #[.string t, .agg #[.int .i64 a, .int .i64 b, .string s]] w fun e w' => e = .returned (.tuple #[.string (chText t s a b), .bool (chOk t.size a b)]) ∧ Below w.heap.size w w' := by
  cases hk : chOk t.size a b with
  | true =>
    have h := of_decide_eq_true hk
    simpa [chText, hk] using implChanged_yes t s a b w ht hs h.1 h.2.1 h.2.2
  | false => simpa [chText, hk] using implChanged_no t s a b w hk

/-- The change that makes it as it was. -/
def chBackV (t s : ByteArray) (a b : Int) : Value := if chOk t.size a b then .agg #[.int .i64 a, .int .i64 (a + s.size), .string (t.extract a.toNat b.toNat)] else .agg #[.int .i64 0, .int .i64 0, .string ⟨#[]⟩]
set_option maxRecDepth 100000 in
set_option maxHeartbeats 400000 in
theorem specBackChange_any (t s : ByteArray) (a b : Int) (w : World) (ht : t.size ≤ 4194304) (hs : s.size ≤ 4194304) :
    Calls Try.prog 36 #[.string t, .agg #[.int .i64 a, .int .i64 b, .string s]] w fun e w' => e = .returned (chBackV t s a b) ∧ Below w.heap.size w w' := by
  cases hk : chOk t.size a b with
  | true =>
    obtain ⟨h0, h1, h2⟩ := of_decide_eq_true hk
    rw [chBackV, if_pos hk]
    go_enter Try.func36, Try.ntmps36
    go_wp2_with (go_at_call 23; refine (specChangeOk_any _ _ _ _ _ (by unfold maxLen; omega)).mono ?_; rintro e w1 ⟨rfl, hb⟩; obtain ⟨hc, hf⟩ := bcell hb)
    have hz : w.heap.size + 1 < w1.heap.size := by have := hb.size; simp at this; omega
    have c0 : w1.cell? ⟨w.heap.size + 1, 0, none⟩ = some (.int .i64 0) := by rw [hc _ _ (by simp)]; go_cell
    have c1 : w1.cell? ⟨w.heap.size + 1, 1, none⟩ = some (.int .i64 0) := by rw [hc _ _ (by simp)]; go_cell
    have c2 : w1.cell? ⟨w.heap.size + 1, 2, none⟩ = some (.string ⟨#[]⟩) := by rw [hc _ _ (by simp)]; go_cell
    have z : ∀ o, w1.frozen? ⟨w.heap.size + 1, o, none⟩ = false := fun o => by rw [hf _ _ (by simp)]; go_cell
    go_still_tail 15, (by kernel_rfl)
    change wpList _ _ _ _ _ w1.drew
    go_wp2
    have hb' := below_box2 hb
    refine bodyPost_ret (by simp [results, Try.results36, go_sem, c0, c1, c2]; try rfl) rfl ?_
    exact ⟨rfl, (by repeat' (first | (with_reducible exact Below.refl _ _) | (with_reducible assumption) | (with_reducible refine below_drewN ?_ _) | (with_reducible refine Below.drew ?_) | (with_reducible refine Below.alloc ?_ ?_ _) | (with_reducible refine Below.setCell ?_ ?_ _) | go_size))⟩
  | false =>
    rw [chBackV, hk, if_neg (by simp)]
    go_enter Try.func36, Try.ntmps36
    go_wp2_with (go_at_call 23; refine (specChangeOk_any _ _ _ _ _ (by unfold maxLen; omega)).mono ?_; rintro e w1 ⟨rfl, hb⟩; obtain ⟨hc, hf⟩ := bcell hb; have hz : w.heap.size + 1 < w1.heap.size := (by have := hb.size; simp at this; omega); have c0 : w1.cell? ⟨w.heap.size + 1, 0, none⟩ = some (.int .i64 0) := (by rw [hc _ _ (by simp)]; go_cell); have c1 : w1.cell? ⟨w.heap.size + 1, 1, none⟩ = some (.int .i64 0) := (by rw [hc _ _ (by simp)]; go_cell); have c2 : w1.cell? ⟨w.heap.size + 1, 2, none⟩ = some (.string ⟨#[]⟩) := (by rw [hc _ _ (by simp)]; go_cell); have z : ∀ o, w1.frozen? ⟨w.heap.size + 1, o, none⟩ = false := fun o => (by rw [hf _ _ (by simp)]; go_cell))
    have hb' := below_box2 hb
    refine bodyPost_ret (by simp [results, Try.results36, go_sem, c0, c1, c2]; try rfl) rfl ?_
    exact ⟨rfl, (by repeat' (first | (with_reducible exact Below.refl _ _) | (with_reducible assumption) | (with_reducible refine below_drewN ?_ _) | (with_reducible refine Below.drew ?_) | (with_reducible refine Below.alloc ?_ ?_ _) | (with_reducible refine Below.setCell ?_ ?_ _) | go_size))⟩
set_option maxRecDepth 100000 in
set_option maxHeartbeats 400000 in
theorem implBackChange_any (t s : ByteArray) (a b : Int) (w : World) (ht : t.size ≤ 4194304) (hs : s.size ≤ 4194304) :
    Calls Try.prog 37 #[.string t, .agg #[.int .i64 a, .int .i64 b, .string s]] w fun e w' => e = .returned (chBackV t s a b) ∧ Below w.heap.size w w' := by
  cases hk : chOk t.size a b with
  | true =>
    obtain ⟨h0, h1, h2⟩ := of_decide_eq_true hk
    rw [chBackV, if_pos hk]
    go_enter Try.func37, Try.ntmps37
    go_wp2_with (go_at_call 25; refine (implChangeOk_any _ _ _ _ _).mono ?_; rintro e w1 ⟨rfl, hb⟩; obtain ⟨hc, hf⟩ := bcell hb)
    have hz : w.heap.size + 1 < w1.heap.size := by have := hb.size; simp at this; omega
    have c0 : w1.cell? ⟨w.heap.size + 1, 0, none⟩ = some (.int .i64 0) := by rw [hc _ _ (by simp)]; go_cell
    have c1 : w1.cell? ⟨w.heap.size + 1, 1, none⟩ = some (.int .i64 0) := by rw [hc _ _ (by simp)]; go_cell
    have c2 : w1.cell? ⟨w.heap.size + 1, 2, none⟩ = some (.string ⟨#[]⟩) := by rw [hc _ _ (by simp)]; go_cell
    have z : ∀ o, w1.frozen? ⟨w.heap.size + 1, o, none⟩ = false := fun o => by rw [hf _ _ (by simp)]; go_cell
    go_still_tail 15, (by kernel_rfl)
    change wpList _ _ _ _ _ w1.drew
    go_wp2
    have hb' := below_box2 hb
    refine bodyPost_ret (by simp [results, Try.results37, go_sem, c0, c1, c2]; try rfl) rfl ?_
    exact ⟨rfl, (by repeat' (first | (with_reducible exact Below.refl _ _) | (with_reducible assumption) | (with_reducible refine below_drewN ?_ _) | (with_reducible refine Below.drew ?_) | (with_reducible refine Below.alloc ?_ ?_ _) | (with_reducible refine Below.setCell ?_ ?_ _) | go_size))⟩
  | false =>
    rw [chBackV, hk, if_neg (by simp)]
    go_enter Try.func37, Try.ntmps37
    go_wp2_with (go_at_call 25; refine (implChangeOk_any _ _ _ _ _).mono ?_; rintro e w1 ⟨rfl, hb⟩; obtain ⟨hc, hf⟩ := bcell hb; have hz : w.heap.size + 1 < w1.heap.size := (by have := hb.size; simp at this; omega); have c0 : w1.cell? ⟨w.heap.size + 1, 0, none⟩ = some (.int .i64 0) := (by rw [hc _ _ (by simp)]; go_cell); have c1 : w1.cell? ⟨w.heap.size + 1, 1, none⟩ = some (.int .i64 0) := (by rw [hc _ _ (by simp)]; go_cell); have c2 : w1.cell? ⟨w.heap.size + 1, 2, none⟩ = some (.string ⟨#[]⟩) := (by rw [hc _ _ (by simp)]; go_cell); have z : ∀ o, w1.frozen? ⟨w.heap.size + 1, o, none⟩ = false := fun o => (by rw [hf _ _ (by simp)]; go_cell))
    have hb' := below_box2 hb
    refine bodyPost_ret (by simp [results, Try.results37, go_sem, c0, c1, c2]; try rfl) rfl ?_
    exact ⟨rfl, (by repeat' (first | (with_reducible exact Below.refl _ _) | (with_reducible assumption) | (with_reducible refine below_drewN ?_ _) | (with_reducible refine Below.drew ?_) | (with_reducible refine Below.alloc ?_ ?_ _) | (with_reducible refine Below.setCell ?_ ?_ _) | go_size))⟩
end Go.Proofs.Ytbddfbgbjlfocaa


/-
  Contracts: is a text just one sign of a kind (impl.isSign, isName); in plain words: names, numbers, quoted texts, notes.
-/
import Derived.Test.YtpfanhheodiamaaGreatDoorSignD
namespace Go.Proofs.YtpfanhheodiamaaGreatDoor
open Go.RowKit
set_option linter.unusedVariables false
set_option linter.unusedSimpArgs false

def isR (ok : Bool) (k kind : Int) (t s : ByteArray) (z : Int) : Bool := ok && (k == kind) && (t.toList == s.toList) && (z == (s.size : Int))
set_option maxRecDepth 100000 in
set_option maxHeartbeats 1600000 in
theorem isSign_of (s : ByteArray) (kind k z : Int) (t : ByteArray) (ok : Bool) (w : World) (h0 : 0 < s.size)
    (H : Hid (∀ W, Calls Tryz.prog 80 #[.string s] W fun e w' => e = .returned (.tuple #[.int .i64 k, .string t, .int .i64 z, .bool ok]) ∧ Below W.heap.size W w')) :
    Calls Tryz.prog 145 #[.string s, .int .i64 kind] w fun e w' => e = .returned (.bool (isR ok k kind t s z)) ∧ Below w.heap.size w w' := by
  have hne : (s.toList == []) = false := toList_ne_len (show s.size ≠ 0 by omega)
  cases ok with
  | false =>
    have hr : isR false k kind t s z = false := rfl
    rw [hr]
    go_enter Tryz.func145, Tryz.ntmps145
    go_wp2_with (go_at_call 80; refine (H.out _).mono ?_; rintro e w1 ⟨rfl, h2⟩)
    go_ret
    exact ⟨rfl, (by repeat' (first | (with_reducible exact Below.refl _ _) | (with_reducible assumption) | (with_reducible refine below_drewN ?_ _) | (with_reducible refine Below.drew ?_) | (with_reducible refine Below.alloc ?_ ?_ _) | (with_reducible refine Below.setCell ?_ ?_ _) | go_size))⟩
  | true =>
    cases h1 : (k == kind) with
    | false =>
      have hr : isR true k kind t s z = false := by unfold isR; rw [h1]; rfl
      rw [hr]
      go_enter Tryz.func145, Tryz.ntmps145
      go_wp2_with (go_at_call 80; refine (H.out _).mono ?_; rintro e w1 ⟨rfl, h2⟩)
      go_ret
      exact ⟨rfl, (by repeat' (first | (with_reducible exact Below.refl _ _) | (with_reducible assumption) | (with_reducible refine below_drewN ?_ _) | (with_reducible refine Below.drew ?_) | (with_reducible refine Below.alloc ?_ ?_ _) | (with_reducible refine Below.setCell ?_ ?_ _) | go_size))⟩
    | true =>
      cases h3 : (t.toList == s.toList) with
      | false =>
        have hr : isR true k kind t s z = false := by unfold isR; rw [h1, h3]; rfl
        rw [hr]
        go_enter Tryz.func145, Tryz.ntmps145
        go_wp2_with (go_at_call 80; refine (H.out _).mono ?_; rintro e w1 ⟨rfl, h2⟩)
        go_ret
        exact ⟨rfl, (by repeat' (first | (with_reducible exact Below.refl _ _) | (with_reducible assumption) | (with_reducible refine below_drewN ?_ _) | (with_reducible refine Below.drew ?_) | (with_reducible refine Below.alloc ?_ ?_ _) | (with_reducible refine Below.setCell ?_ ?_ _) | go_size))⟩
      | true =>
        have hr : isR true k kind t s z = (z == (s.size : Int)) := by unfold isR; rw [h1, h3]; rfl
        rw [hr]
        go_enter Tryz.func145, Tryz.ntmps145
        go_wp2_with (go_at_call 80; refine (H.out _).mono ?_; rintro e w1 ⟨rfl, h2⟩)
        go_ret
        exact ⟨rfl, (by repeat' (first | (with_reducible exact Below.refl _ _) | (with_reducible assumption) | (with_reducible refine below_drewN ?_ _) | (with_reducible refine Below.drew ?_) | (with_reducible refine Below.alloc ?_ ?_ _) | (with_reducible refine Below.setCell ?_ ?_ _) | go_size))⟩
set_option maxHeartbeats 400000 in
theorem isSign_empty (s : ByteArray) (kind : Int) (w : World) (h0 : s.size = 0) :
    Calls Tryz.prog 145 #[.string s, .int .i64 kind] w fun e w' => e = .returned (.bool false) ∧ Below w.heap.size w w' := by
  have hne : (s.toList == []) = true := by
    rw [beq_iff_eq, ByteArray.toList_eq]
    exact List.eq_nil_of_length_eq_zero (by rw [ba_len]; exact h0)
  go_enter Tryz.func145, Tryz.ntmps145
  go_wp2
  go_ret
  exact ⟨rfl, (by repeat' (first | (with_reducible exact Below.refl _ _) | (with_reducible assumption) | (with_reducible refine below_drewN ?_ _) | (with_reducible refine Below.drew ?_) | (with_reducible refine Below.alloc ?_ ?_ _) | (with_reducible refine Below.setCell ?_ ?_ _) | go_size))⟩

/-- Of what follows an opening quote: how many bytes there are up to the closing one; 0 where there is none, or a byte ahead of it that is not plain. -/
def quoR : List UInt8 → Nat
  | [] => 0
  | c :: l => if c = 39 then 1 else if plainC c = true then (if quoR l = 0 then 0 else quoR l + 1) else 0
/-- How long the quoted text is that begins a list. -/
def quoN (l : List UInt8) : Nat := if quoR (l.drop 1) = 0 then 0 else quoR (l.drop 1) + 1
/-- How long the note is that begins a list. -/
def noteN (l : List UInt8) : Nat := if Lib.hasPrefix l [47, 47] = true ∧ (l.take (runN notEnd l)).all plainC = true then runN notEnd l else 0
def firstH (s : ByteArray) : Bool := match s.data.toList with | c :: _ => firstC c | [] => false
def nameW (s : ByteArray) : Bool := decide (s.size ≤ 30) && firstH s && allB innerC s
def nameB (s : ByteArray) : Bool := nameW s && !keyB s
def numB (s : ByteArray) : Bool := decide (0 < s.size ∧ s.size ≤ 12) && allB figC s
def quoB (s : ByteArray) : Bool := decide (1 < s.size) && (match s.data.toList with | c :: _ => decide (c = 39) | [] => false) && decide (quoN s.data.toList = s.size)
def noteB (s : ByteArray) : Bool := decide (1 < s.size) && decide (noteN s.data.toList = s.size) && decide (trimT s = s)

theorem tl_beq (t s : ByteArray) : (t.toList == s.toList) = decide (t = s) := by
  by_cases h : t = s
  · subst h; rw [decide_eq_true rfl]; exact beq_self_eq_true _
  · rw [str_ne h, decide_eq_false h]
theorem extract_whole {s : ByteArray} {n : Nat} (hn : n ≤ s.size) : s.extract 0 n = s ↔ n = s.size := by
  constructor
  · intro h
    have := congrArg ByteArray.size h
    simp at this; omega
  · intro h; subst h; simp
theorem head_of {s : ByteArray} (h : 0 < s.size) : ∃ l, s.data.toList = s[0] :: l := by
  have hl : s.data.toList.length = s.size := ba_len s
  match hd : s.data.toList with
  | [] => rw [hd] at hl; simp at hl; omega
  | c :: l =>
    refine ⟨l, ?_⟩
    have : s[0] = s.data.toList[0]'(by omega) := rfl
    rw [this]
    simp only [hd, List.getElem_cons_zero]
theorem fig_not_first {c : UInt8} (h : figC c = true) : firstC c = false := by
  unfold figC at h; unfold firstC
  have := of_decide_eq_true h
  exact decide_eq_false (by omega)
theorem first_not_fig {c : UInt8} (h : firstC c = true) : figC c = false := by
  cases hf : figC c with
  | false => rfl
  | true => rw [fig_not_first hf] at h; cases h
theorem plain_notEnd {c : UInt8} (h : plainC c = true) : notEnd c = true := by
  unfold plainC at h
  have := of_decide_eq_true h
  unfold notEnd
  rw [bne_iff_ne]
  intro e; subst e
  revert this; decide
theorem runT_self (p : UInt8 → Bool) (s : ByteArray) : runT p s = s ↔ allB p s = true := by
  unfold runT
  have h := runN_le p s.data.toList
  rw [ba_len] at h
  rw [extract_whole h]
  exact run_whole p s
end Go.Proofs.YtpfanhheodiamaaGreatDoor


/-
  Contracts: sizes, copies and equality of Tie (laws.szTie, toTie, eqTie) and of slices of them. Written by program (family.py).
-/
import Derived.Test.YtfapdhfjcnehhaaDoorMem
import Derived.Test.YtfapdhfjcnehhaaDoorChecked
import Derived.Outline
import Derived.Deep.Cut
namespace Go.Proofs.YtfapdhfjcnehhaaDoor
open Go.RowKit
set_option linter.unusedVariables false

abbrev TieD := Int × Int
def tieCells (d : TieD) : List Value := [.int .i64 (d.1), .int .i64 (d.2)]
theorem tieCells_len (d : TieD) : (tieCells d).length = 2 := rfl
def szTie (d : TieD) : Nat := 0
def szTieL (l : List TieD) : Nat := l.length
def OkTie (d : TieD) : Prop := True
theorem tie_at {w : World} {A : Option Addr} {n k : Nat} {l : List TieD} {x0 : Int} {x1 : Int} (h : Rd w 2 A n (l.flatMap tieCells)) (hk : k < n) (hd : l[k]? = some (x0, x1)) :
    ∃ b off, A = some ⟨b, off, none⟩ ∧ b < w.heap.size ∧ w.cell? ⟨b, off + k * 2, none⟩ = some (.int .i64 x0) ∧ w.cell? ⟨b, off + k * 2 + 1, none⟩ = some (.int .i64 x1) := by
  obtain ⟨b, off, e, hb, hc⟩ := h.at_ (by omega)
  exact ⟨b, off, e, hb, hc _ _ (flat_get tieCells tieCells_len hd (j := 0) rfl), hc _ _ (flat_get tieCells tieCells_len hd (j := 1) rfl)⟩
set_option maxHeartbeats 400000 in
theorem toTie_any (x0 : Int) (x1 : Int) (w : World) :
    Calls Tryd.prog 107 #[.agg #[.int .i64 x0, .int .i64 x1]] w fun e w' => e = .returned (.agg #[.int .i64 x0, .int .i64 x1]) ∧ Below w.heap.size w w' := by
  go_enter Tryd.func107, Tryd.ntmps107
  go_wp2
  go_returns
  exact ⟨rfl, (by repeat' (first | (with_reducible exact Below.refl _ _) | (with_reducible assumption) | (with_reducible refine below_drewN ?_ _) | (with_reducible refine Below.drew ?_) | (with_reducible refine Below.alloc ?_ ?_ _) | (with_reducible refine Below.setCell ?_ ?_ _) | go_size))⟩
set_option maxHeartbeats 400000 in
theorem eqTie_same (x0 : Int) (x1 : Int) (w : World) :
    Calls Tryd.prog 111 #[.agg #[.int .i64 x0, .int .i64 x1], .agg #[.int .i64 x0, .int .i64 x1]] w fun e w' => e = .returned (.bool true) ∧ Below w.heap.size w w' := by
  go_enter Tryd.func111, Tryd.ntmps111
  go_wp2
  go_ret
  exact ⟨rfl, (by repeat' (first | (with_reducible exact Below.refl _ _) | (with_reducible assumption) | (with_reducible refine below_drewN ?_ _) | (with_reducible refine Below.drew ?_) | (with_reducible refine Below.alloc ?_ ?_ _) | (with_reducible refine Below.setCell ?_ ?_ _) | go_size))⟩
theorem infoTie : (Tryd.prog.info? 101).map (fun i => (i.zero, i.size, i.bytes)) = some (some (.agg #[.int .i64 0, .int .i64 0]), 2, 16) := by kernel_rfl
theorem tie_take (l : List TieD) (k : Nat) (d : TieD) (h : l[k]? = some d) : (l.take (k + 1)).flatMap tieCells = (l.take k).flatMap tieCells ++ tieCells d := by
  rw [List.take_add_one, h]; simp
def tieTo (l : List TieD) (k : Nat) : List Value := (l.take k).flatMap tieCells
set_option maxHeartbeats 400000 in
theorem toTieS_any (A : Option Addr) (n c : Nat) (l : List TieD) (w : World) (hn : n ≤ 1048576) (hl : l.length = n) (hr : Rd w 2 A n (l.flatMap tieCells)) :
    Calls Tryd.prog 78 #[.slice A n c] w fun e w' => e = .returned (.slice (some ⟨w.heap.size, 0, none⟩) n n) ∧ Own w' w.heap.size 101 (n * 2) (l.flatMap tieCells) ∧ Below w.heap.size w w' := by
  obtain ⟨i0, hi, hz0, hz1, hz2⟩ := info_parts infoTie
  have hmk := fun W => run_make_rowN (P := Tryd.prog) 50 101 i0 _ Tryd.underlying50 hi hz0 .i64 .i64 n n (Nat.le_refl _) (by rw [hz2]; omega) (by omega) W
  have HL := Lib.hid hl
  rw [hz1] at hmk
  clear hi hz0 hz1 hz2 hl
  go_enter Tryd.func78, Tryd.ntmps78
  go_wp2
  clear hmk
  go_loopw [4] (fun i wr => ∃ k : Nat, k ≤ n ∧ i = .int .i64 k ∧ Own wr w.heap.size 101 (n * 2) (tieTo l k) ∧ Below w.heap.size w wr) (fun i _ => n - (intOf i).toNat)
  case atStart => exact ⟨0, Nat.zero_le _, rfl, by unfold tieTo; exact Own.made (size_madeCells _ _), (by repeat' (first | (with_reducible exact Below.refl _ _) | (with_reducible assumption) | (with_reducible refine below_drewN ?_ _) | (with_reducible refine Below.drew ?_) | (with_reducible refine Below.alloc ?_ ?_ _) | (with_reducible refine Below.setCell ?_ ?_ _) | go_size))⟩
  case round =>
    obtain ⟨k, hk, rfl, how, hb⟩ := hrel
    by_cases hkn : k < n
    · obtain ⟨⟨x0, x1⟩, hd⟩ : ∃ d, l[k]? = some d := ⟨_, List.getElem?_eq_getElem (by have := HL.out; omega)⟩
      obtain ⟨b, off, rfl, hblt, c0, c1⟩ := tie_at (hr.below hb) hkn hd
      have HD := Lib.hid hd
      clear hr hd
      go_wp2_with fail
      refine (toTie_any _ _ _).mono ?_
      rintro e w2 ⟨rfl, h2⟩
      have hb2 := hb.trans (h2.mono hb.size)
      replace how := how.next h2
      have hzz := hb2.size
      have hgg := how.lt
      obtain ⟨o0, e0⟩ := how.there (i := k * 2) (by omega)
      obtain ⟨o1, e1⟩ := how.there (i := k * 2 + 1) (by omega)
      have hfz := how.frozen
      clear hblt c0 c1
      go_wp2
      go_roundw
      case rel =>
        have hlen : (tieTo l k).length = k * 2 := by
          unfold tieTo
          rw [flat_len tieCells tieCells_len, List.length_take, Nat.min_eq_left (by have := HL.out; omega)]
        have hp0 := how.push (by simp [hlen]; omega) (i := k * 2) (by simp [hlen]) (.int .i64 x0)
        have hp1 := hp0.push (by simp [hlen]; omega) (i := k * 2 + 1) (by simp [hlen]) (.int .i64 x1)
        have hfin : tieTo l (k + 1) = tieTo l k ++ tieCells (x0, x1) := tie_take l k _ HD.out
        refine ⟨k + 1, by omega, by go_num, ?_, (by repeat' (first | (with_reducible exact Below.refl _ _) | (with_reducible assumption) | (with_reducible refine below_drewN ?_ _) | (with_reducible refine Below.drew ?_) | (with_reducible refine Below.alloc ?_ ?_ _) | (with_reducible refine Below.setCell ?_ ?_ _) | go_size))⟩
        rw [hfin]
        simpa [tieCells] using hp1
      case measure => simp [intOf]; omega
    · obtain rfl : k = n := by omega
      have hfin : tieTo l k = l.flatMap tieCells := by unfold tieTo; rw [List.take_of_length_le (by have := HL.out; omega)]
      rw [hfin] at how
      go_wp2
      go_ret
      exact ⟨rfl, how, hb⟩
set_option maxRecDepth 100000 in
set_option maxHeartbeats 800000 in
theorem eqTieS_same (A B : Option Addr) (n c c' : Nat) (l : List TieD) (w : World) (hn : n ≤ 4194304) (hl : l.length = n) (ha : Rd w 2 A n (l.flatMap tieCells)) (hb : Rd w 2 B n (l.flatMap tieCells)) :
    Calls Tryd.prog 82 #[.slice A n c, .slice B n c'] w fun e w' => e = .returned (.bool true) ∧ Below w.heap.size w w' := by
  have HL := Lib.hid hl
  clear hl
  go_enter Tryd.func82, Tryd.ntmps82
  go_wp2
  go_loopw [5] (fun i wr => ∃ k : Nat, k ≤ n ∧ i = .int .i64 k ∧ Below w.heap.size w wr) (fun i _ => n - (intOf i).toNat)
  case atStart => exact ⟨0, Nat.zero_le _, rfl, Below.refl _ _⟩
  case round =>
    obtain ⟨k, hk, rfl, hbb⟩ := hrel
    by_cases hkn : k < n
    · obtain ⟨⟨x0, x1⟩, hd⟩ : ∃ d, l[k]? = some d := ⟨_, List.getElem?_eq_getElem (by have := HL.out; omega)⟩
      obtain ⟨b, off, rfl, hblt, c0, c1⟩ := tie_at (ha.below hbb) hkn hd
      obtain ⟨b', off', rfl, hblt', c0b, c1b⟩ := tie_at (hb.below hbb) hkn hd
      clear ha hb hd
      go_upto_region 6 with fail
      go_still_tail 8, (by kernel_rfl)
      change wpList _ _ _ _ _ wr.drew
      go_wp2_with fail
      refine (eqTie_same _ _ _).mono ?_
      rintro e w2 ⟨rfl, h2⟩
      have hb2 : Below w.heap.size w w2 := hbb.drew.trans (h2.mono hbb.size)
      clear hblt hblt' c0 c1 c0b c1b
      go_wp2
      go_roundw
      case rel => exact ⟨k + 1, by omega, by go_num, (by repeat' (first | (with_reducible exact Below.refl _ _) | (with_reducible assumption) | (with_reducible refine below_drewN ?_ _) | (with_reducible refine Below.drew ?_) | (with_reducible refine Below.alloc ?_ ?_ _) | (with_reducible refine Below.setCell ?_ ?_ _) | go_size))⟩
      case measure => simp [intOf]; omega
    · obtain rfl : k = n := by omega
      go_wp2
      go_ret
      exact ⟨rfl, hbb⟩
set_option maxHeartbeats 400000 in
theorem szTieS_ok (A : Option Addr) (n c : Nat) (l : List TieD) (left : Int) (w : World) (h1 : left ≤ 1048576) (hl : Hid (l.length = n)) (hle : (szTieL l : Nat) ≤ left) :
    Calls Tryd.prog 74 #[.slice A n c, .int .i64 left] w fun e w' => e = .returned (.int .i64 (left - (szTieL l : Nat))) ∧ w = w' := by
  unfold szTieL at hle ⊢
  rw [hl.out] at hle ⊢
  have g0 : (0 : Int) ≤ left - n := by omega
  go_enter Tryd.func74, Tryd.ntmps74
  go_wp2
  go_ret
  exact ⟨rfl, rfl⟩
set_option maxHeartbeats 400000 in
theorem szTieS_big (A : Option Addr) (n c : Nat) (l : List TieD) (left : Int) (w : World) (h0 : 0 ≤ left) (h1 : left ≤ 1048576) (hn : n ≤ maxLen) (hl : Hid (l.length = n)) (hle : left < (szTieL l : Nat)) :
    Calls Tryd.prog 74 #[.slice A n c, .int .i64 left] w fun e w' => e = .returned (.int .i64 (-1)) ∧ w = w' := by
  unfold maxLen at hn
  unfold szTieL at hle
  rw [hl.out] at hle
  go_enter Tryd.func74, Tryd.ntmps74
  go_wp2
  go_ret
  exact ⟨rfl, rfl⟩
end Go.Proofs.YtfapdhfjcnehhaaDoor


/-
  Contracts: sizes, copies and equality of Span (laws.szSpan, toSpan, eqSpan) and of slices of them. Written by program (family.py).
-/
import Derived.Test.YtfapdhfjcnehhaaDoorMem
import Derived.Test.YtfapdhfjcnehhaaDoorChecked
import Derived.Outline
import Derived.Deep.Cut
namespace Go.Proofs.YtfapdhfjcnehhaaDoor
open Go.RowKit
set_option linter.unusedVariables false

abbrev SpanD := Int × Int × Int
def spanCells (d : SpanD) : List Value := [.int .i64 (d.1), .int .i64 (d.2.1), .int .i64 (d.2.2)]
theorem spanCells_len (d : SpanD) : (spanCells d).length = 3 := rfl
def szSpan (d : SpanD) : Nat := 0
def szSpanL (l : List SpanD) : Nat := l.length
def OkSpan (d : SpanD) : Prop := True
theorem span_at {w : World} {A : Option Addr} {n k : Nat} {l : List SpanD} {x0 : Int} {x1 : Int} {x2 : Int} (h : Rd w 3 A n (l.flatMap spanCells)) (hk : k < n) (hd : l[k]? = some (x0, x1, x2)) :
    ∃ b off, A = some ⟨b, off, none⟩ ∧ b < w.heap.size ∧ w.cell? ⟨b, off + k * 3, none⟩ = some (.int .i64 x0) ∧ w.cell? ⟨b, off + k * 3 + 1, none⟩ = some (.int .i64 x1) ∧ w.cell? ⟨b, off + k * 3 + 2, none⟩ = some (.int .i64 x2) := by
  obtain ⟨b, off, e, hb, hc⟩ := h.at_ (by omega)
  exact ⟨b, off, e, hb, hc _ _ (flat_get spanCells spanCells_len hd (j := 0) rfl), hc _ _ (flat_get spanCells spanCells_len hd (j := 1) rfl), hc _ _ (flat_get spanCells spanCells_len hd (j := 2) rfl)⟩
set_option maxHeartbeats 400000 in
theorem toSpan_any (x0 : Int) (x1 : Int) (x2 : Int) (w : World) :
    Calls Tryd.prog 106 #[.agg #[.int .i64 x0, .int .i64 x1, .int .i64 x2]] w fun e w' => e = .returned (.agg #[.int .i64 x0, .int .i64 x1, .int .i64 x2]) ∧ Below w.heap.size w w' := by
  go_enter Tryd.func106, Tryd.ntmps106
  go_wp2
  go_returns
  exact ⟨rfl, (by repeat' (first | (with_reducible exact Below.refl _ _) | (with_reducible assumption) | (with_reducible refine below_drewN ?_ _) | (with_reducible refine Below.drew ?_) | (with_reducible refine Below.alloc ?_ ?_ _) | (with_reducible refine Below.setCell ?_ ?_ _) | go_size))⟩
set_option maxHeartbeats 400000 in
theorem eqSpan_same (x0 : Int) (x1 : Int) (x2 : Int) (w : World) :
    Calls Tryd.prog 110 #[.agg #[.int .i64 x0, .int .i64 x1, .int .i64 x2], .agg #[.int .i64 x0, .int .i64 x1, .int .i64 x2]] w fun e w' => e = .returned (.bool true) ∧ Below w.heap.size w w' := by
  go_enter Tryd.func110, Tryd.ntmps110
  go_wp2
  go_ret
  exact ⟨rfl, (by repeat' (first | (with_reducible exact Below.refl _ _) | (with_reducible assumption) | (with_reducible refine below_drewN ?_ _) | (with_reducible refine Below.drew ?_) | (with_reducible refine Below.alloc ?_ ?_ _) | (with_reducible refine Below.setCell ?_ ?_ _) | go_size))⟩
theorem infoSpan : (Tryd.prog.info? 99).map (fun i => (i.zero, i.size, i.bytes)) = some (some (.agg #[.int .i64 0, .int .i64 0, .int .i64 0]), 3, 24) := by kernel_rfl
theorem span_take (l : List SpanD) (k : Nat) (d : SpanD) (h : l[k]? = some d) : (l.take (k + 1)).flatMap spanCells = (l.take k).flatMap spanCells ++ spanCells d := by
  rw [List.take_add_one, h]; simp
def spanTo (l : List SpanD) (k : Nat) : List Value := (l.take k).flatMap spanCells
set_option maxHeartbeats 400000 in
theorem toSpanS_any (A : Option Addr) (n c : Nat) (l : List SpanD) (w : World) (hn : n ≤ 1048576) (hl : l.length = n) (hr : Rd w 3 A n (l.flatMap spanCells)) :
    Calls Tryd.prog 77 #[.slice A n c] w fun e w' => e = .returned (.slice (some ⟨w.heap.size, 0, none⟩) n n) ∧ Own w' w.heap.size 99 (n * 3) (l.flatMap spanCells) ∧ Below w.heap.size w w' := by
  obtain ⟨i0, hi, hz0, hz1, hz2⟩ := info_parts infoSpan
  have hmk := fun W => run_make_rowN (P := Tryd.prog) 49 99 i0 _ Tryd.underlying49 hi hz0 .i64 .i64 n n (Nat.le_refl _) (by rw [hz2]; omega) (by omega) W
  have HL := Lib.hid hl
  rw [hz1] at hmk
  clear hi hz0 hz1 hz2 hl
  go_enter Tryd.func77, Tryd.ntmps77
  go_wp2
  clear hmk
  go_loopw [4] (fun i wr => ∃ k : Nat, k ≤ n ∧ i = .int .i64 k ∧ Own wr w.heap.size 99 (n * 3) (spanTo l k) ∧ Below w.heap.size w wr) (fun i _ => n - (intOf i).toNat)
  case atStart => exact ⟨0, Nat.zero_le _, rfl, by unfold spanTo; exact Own.made (size_madeCells _ _), (by repeat' (first | (with_reducible exact Below.refl _ _) | (with_reducible assumption) | (with_reducible refine below_drewN ?_ _) | (with_reducible refine Below.drew ?_) | (with_reducible refine Below.alloc ?_ ?_ _) | (with_reducible refine Below.setCell ?_ ?_ _) | go_size))⟩
  case round =>
    obtain ⟨k, hk, rfl, how, hb⟩ := hrel
    by_cases hkn : k < n
    · obtain ⟨⟨x0, x1, x2⟩, hd⟩ : ∃ d, l[k]? = some d := ⟨_, List.getElem?_eq_getElem (by have := HL.out; omega)⟩
      obtain ⟨b, off, rfl, hblt, c0, c1, c2⟩ := span_at (hr.below hb) hkn hd
      have HD := Lib.hid hd
      clear hr hd
      go_wp2_with fail
      refine (toSpan_any _ _ _ _).mono ?_
      rintro e w2 ⟨rfl, h2⟩
      have hb2 := hb.trans (h2.mono hb.size)
      replace how := how.next h2
      have hzz := hb2.size
      have hgg := how.lt
      obtain ⟨o0, e0⟩ := how.there (i := k * 3) (by omega)
      obtain ⟨o1, e1⟩ := how.there (i := k * 3 + 1) (by omega)
      obtain ⟨o2, e2⟩ := how.there (i := k * 3 + 2) (by omega)
      have hfz := how.frozen
      clear hblt c0 c1 c2
      go_wp2
      go_roundw
      case rel =>
        have hlen : (spanTo l k).length = k * 3 := by
          unfold spanTo
          rw [flat_len spanCells spanCells_len, List.length_take, Nat.min_eq_left (by have := HL.out; omega)]
        have hp0 := how.push (by simp [hlen]; omega) (i := k * 3) (by simp [hlen]) (.int .i64 x0)
        have hp1 := hp0.push (by simp [hlen]; omega) (i := k * 3 + 1) (by simp [hlen]) (.int .i64 x1)
        have hp2 := hp1.push (by simp [hlen]; omega) (i := k * 3 + 2) (by simp [hlen]) (.int .i64 x2)
        have hfin : spanTo l (k + 1) = spanTo l k ++ spanCells (x0, x1, x2) := span_take l k _ HD.out
        refine ⟨k + 1, by omega, by go_num, ?_, (by repeat' (first | (with_reducible exact Below.refl _ _) | (with_reducible assumption) | (with_reducible refine below_drewN ?_ _) | (with_reducible refine Below.drew ?_) | (with_reducible refine Below.alloc ?_ ?_ _) | (with_reducible refine Below.setCell ?_ ?_ _) | go_size))⟩
        rw [hfin]
        simpa [spanCells] using hp2
      case measure => simp [intOf]; omega
    · obtain rfl : k = n := by omega
      have hfin : spanTo l k = l.flatMap spanCells := by unfold spanTo; rw [List.take_of_length_le (by have := HL.out; omega)]
      rw [hfin] at how
      go_wp2
      go_ret
      exact ⟨rfl, how, hb⟩
set_option maxRecDepth 100000 in
set_option maxHeartbeats 800000 in
theorem eqSpanS_same (A B : Option Addr) (n c c' : Nat) (l : List SpanD) (w : World) (hn : n ≤ 4194304) (hl : l.length = n) (ha : Rd w 3 A n (l.flatMap spanCells)) (hb : Rd w 3 B n (l.flatMap spanCells)) :
    Calls Tryd.prog 81 #[.slice A n c, .slice B n c'] w fun e w' => e = .returned (.bool true) ∧ Below w.heap.size w w' := by
  have HL := Lib.hid hl
  clear hl
  go_enter Tryd.func81, Tryd.ntmps81
  go_wp2
  go_loopw [5] (fun i wr => ∃ k : Nat, k ≤ n ∧ i = .int .i64 k ∧ Below w.heap.size w wr) (fun i _ => n - (intOf i).toNat)
  case atStart => exact ⟨0, Nat.zero_le _, rfl, Below.refl _ _⟩
  case round =>
    obtain ⟨k, hk, rfl, hbb⟩ := hrel
    by_cases hkn : k < n
    · obtain ⟨⟨x0, x1, x2⟩, hd⟩ : ∃ d, l[k]? = some d := ⟨_, List.getElem?_eq_getElem (by have := HL.out; omega)⟩
      obtain ⟨b, off, rfl, hblt, c0, c1, c2⟩ := span_at (ha.below hbb) hkn hd
      obtain ⟨b', off', rfl, hblt', c0b, c1b, c2b⟩ := span_at (hb.below hbb) hkn hd
      clear ha hb hd
      go_upto_region 6 with fail
      go_still_tail 8, (by kernel_rfl)
      change wpList _ _ _ _ _ wr.drew
      go_wp2_with fail
      refine (eqSpan_same _ _ _ _).mono ?_
      rintro e w2 ⟨rfl, h2⟩
      have hb2 : Below w.heap.size w w2 := hbb.drew.trans (h2.mono hbb.size)
      clear hblt hblt' c0 c1 c2 c0b c1b c2b
      go_wp2
      go_roundw
      case rel => exact ⟨k + 1, by omega, by go_num, (by repeat' (first | (with_reducible exact Below.refl _ _) | (with_reducible assumption) | (with_reducible refine below_drewN ?_ _) | (with_reducible refine Below.drew ?_) | (with_reducible refine Below.alloc ?_ ?_ _) | (with_reducible refine Below.setCell ?_ ?_ _) | go_size))⟩
      case measure => simp [intOf]; omega
    · obtain rfl : k = n := by omega
      go_wp2
      go_ret
      exact ⟨rfl, hbb⟩
set_option maxHeartbeats 400000 in
theorem szSpanS_ok (A : Option Addr) (n c : Nat) (l : List SpanD) (left : Int) (w : World) (h1 : left ≤ 1048576) (hl : Hid (l.length = n)) (hle : (szSpanL l : Nat) ≤ left) :
    Calls Tryd.prog 73 #[.slice A n c, .int .i64 left] w fun e w' => e = .returned (.int .i64 (left - (szSpanL l : Nat))) ∧ w = w' := by
  unfold szSpanL at hle ⊢
  rw [hl.out] at hle ⊢
  have g0 : (0 : Int) ≤ left - n := by omega
  go_enter Tryd.func73, Tryd.ntmps73
  go_wp2
  go_ret
  exact ⟨rfl, rfl⟩
set_option maxHeartbeats 400000 in
theorem szSpanS_big (A : Option Addr) (n c : Nat) (l : List SpanD) (left : Int) (w : World) (h0 : 0 ≤ left) (h1 : left ≤ 1048576) (hn : n ≤ maxLen) (hl : Hid (l.length = n)) (hle : left < (szSpanL l : Nat)) :
    Calls Tryd.prog 73 #[.slice A n c, .int .i64 left] w fun e w' => e = .returned (.int .i64 (-1)) ∧ w = w' := by
  unfold maxLen at hn
  unfold szSpanL at hle
  rw [hl.out] at hle
  go_enter Tryd.func73, Tryd.ntmps73
  go_wp2
  go_ret
  exact ⟨rfl, rfl⟩
end Go.Proofs.YtfapdhfjcnehhaaDoor

/-
  Contracts: sizes, copies and equality of Change (laws.szChange, toChange, eqChange) and of slices of them. Written by program (family.py).
-/
import Derived.Test.YtbddfbgbjlfocaaMem
import Derived.Test.YtbddfbgbjlfocaaChecked
import Derived.Outline
import Derived.Deep.Cut
namespace Go.Proofs.Ytbddfbgbjlfocaa
open Go.RowKit
set_option linter.unusedVariables false

abbrev ChangeD := Int × Int × ByteArray
def changeCells (d : ChangeD) : List Value := [.int .i64 (d.1), .int .i64 (d.2.1), .string (d.2.2)]
theorem changeCells_len (d : ChangeD) : (changeCells d).length = 3 := rfl
def szChange (d : ChangeD) : Nat := d.2.2.size
def szChangeL (l : List ChangeD) : Nat := l.length + (l.map szChange).sum
def OkChange (d : ChangeD) : Prop := d.2.2.size ≤ maxLen
theorem change_at {w : World} {A : Option Addr} {n k : Nat} {l : List ChangeD} {x0 : Int} {x1 : Int} {x2 : ByteArray} (h : Rd w 3 A n (l.flatMap changeCells)) (hk : k < n) (hd : l[k]? = some (x0, x1, x2)) :
    ∃ b off, A = some ⟨b, off, none⟩ ∧ b < w.heap.size ∧ w.cell? ⟨b, off + k * 3, none⟩ = some (.int .i64 x0) ∧ w.cell? ⟨b, off + k * 3 + 1, none⟩ = some (.int .i64 x1) ∧ w.cell? ⟨b, off + k * 3 + 2, none⟩ = some (.string x2) := by
  obtain ⟨b, off, e, hb, hc⟩ := h.at_ (by omega)
  exact ⟨b, off, e, hb, hc _ _ (flat_get changeCells changeCells_len hd (j := 0) rfl), hc _ _ (flat_get changeCells changeCells_len hd (j := 1) rfl), hc _ _ (flat_get changeCells changeCells_len hd (j := 2) rfl)⟩
set_option maxHeartbeats 400000 in
theorem szChange_ok (x0 : Int) (x1 : Int) (x2 : ByteArray) (left : Int) (w : World) (hl1 : left ≤ 1048576) (hle : (szChange (x0, x1, x2) : Nat) ≤ left) :
    Calls Try.prog 22 #[.agg #[.int .i64 x0, .int .i64 x1, .string x2], .int .i64 left] w fun e w' => e = .returned (.int .i64 (left - (szChange (x0, x1, x2) : Nat))) ∧ Below w.heap.size w w' := by
  have hs : szChange (x0, x1, x2) = x2.size := rfl
  rw [hs] at hle ⊢
  clear hs
  rw [show left - ((x2.size : Nat) : Int) = left - x2.size by omega]
  have g2 : (0 : Int) ≤ left - x2.size := by omega
  go_enter Try.func22, Try.ntmps22
  go_wp2
  go_ret
  exact ⟨rfl, (by repeat' (first | (with_reducible exact Below.refl _ _) | (with_reducible assumption) | (with_reducible refine below_drewN ?_ _) | (with_reducible refine Below.drew ?_) | (with_reducible refine Below.alloc ?_ ?_ _) | (with_reducible refine Below.setCell ?_ ?_ _) | go_size))⟩
set_option maxHeartbeats 400000 in
theorem szChange_big (x0 : Int) (x1 : Int) (x2 : ByteArray) (left : Int) (w : World) (hl0 : 0 ≤ left) (hl1 : left ≤ 1048576) (h2 : x2.size ≤ maxLen) (hle : left < (szChange (x0, x1, x2) : Nat)) :
    Calls Try.prog 22 #[.agg #[.int .i64 x0, .int .i64 x1, .string x2], .int .i64 left] w fun e w' => e = .returned (.int .i64 (-1)) ∧ Below w.heap.size w w' := by
  unfold maxLen at h2
  have hs : szChange (x0, x1, x2) = x2.size := rfl
  rw [hs] at hle
  clear hs
  have g2 : left < x2.size := by omega
  go_enter Try.func22, Try.ntmps22
  go_wp2
  go_ret
  exact ⟨rfl, (by repeat' (first | (with_reducible exact Below.refl _ _) | (with_reducible assumption) | (with_reducible refine below_drewN ?_ _) | (with_reducible refine Below.drew ?_) | (with_reducible refine Below.alloc ?_ ?_ _) | (with_reducible refine Below.setCell ?_ ?_ _) | go_size))⟩
set_option maxHeartbeats 400000 in
theorem toChange_any (x0 : Int) (x1 : Int) (x2 : ByteArray) (w : World) :
    Calls Try.prog 24 #[.agg #[.int .i64 x0, .int .i64 x1, .string x2]] w fun e w' => e = .returned (.agg #[.int .i64 x0, .int .i64 x1, .string x2]) ∧ Below w.heap.size w w' := by
  go_enter Try.func24, Try.ntmps24
  go_wp2
  go_returns
  exact ⟨rfl, (by repeat' (first | (with_reducible exact Below.refl _ _) | (with_reducible assumption) | (with_reducible refine below_drewN ?_ _) | (with_reducible refine Below.drew ?_) | (with_reducible refine Below.alloc ?_ ?_ _) | (with_reducible refine Below.setCell ?_ ?_ _) | go_size))⟩
set_option maxHeartbeats 400000 in
theorem eqChange_same (x0 : Int) (x1 : Int) (x2 : ByteArray) (w : World) :
    Calls Try.prog 35 #[.agg #[.int .i64 x0, .int .i64 x1, .string x2], .agg #[.int .i64 x0, .int .i64 x1, .string x2]] w fun e w' => e = .returned (.bool true) ∧ Below w.heap.size w w' := by
  go_enter Try.func35, Try.ntmps35
  go_wp2
  go_ret
  exact ⟨rfl, (by repeat' (first | (with_reducible exact Below.refl _ _) | (with_reducible assumption) | (with_reducible refine below_drewN ?_ _) | (with_reducible refine Below.drew ?_) | (with_reducible refine Below.alloc ?_ ?_ _) | (with_reducible refine Below.setCell ?_ ?_ _) | go_size))⟩
set_option maxHeartbeats 400000 in
theorem szChangeS_ok (A : Option Addr) (n c : Nat) (l : List ChangeD) (left : Int) (w : World) (h1 : left ≤ 1048576) (hl : l.length = n)
    (hr : Rd w 3 A n (l.flatMap changeCells)) (hle : (szChangeL l : Nat) ≤ left) :
    Calls Try.prog 43 #[.slice A n c, .int .i64 left] w fun e w' => e = .returned (.int .i64 (left - (szChangeL l : Nat))) ∧ Below w.heap.size w w' := by
  unfold szChangeL at hle ⊢
  have g0 : (0 : Int) ≤ left - n := by omega
  have gn : n ≤ 1048576 := by omega
  have HL := Lib.hid hl
  clear hl
  go_enter Try.func43, Try.ntmps43
  go_wp2
  go_loopw [1, 5] (fun s i wr => ∃ k : Nat, k ≤ n ∧ i = .int .i64 k ∧ s = .int .i64 (left - n - sumK szChange l k) ∧ Below w.heap.size w wr) (fun s i _ => n - (intOf i).toNat)
  case atStart => exact ⟨0, Nat.zero_le _, rfl, by rw [sumK_zero]; go_num, Below.refl _ _⟩
  case round =>
    obtain ⟨k, hk, rfl, rfl, hb⟩ := hrel
    by_cases hkn : k < n
    · obtain ⟨⟨x0, x1, x2⟩, hd⟩ : ∃ d, l[k]? = some d := ⟨_, List.getElem?_eq_getElem (by have := HL.out; omega)⟩
      obtain ⟨b, off, rfl, hblt, c0, c1, c2⟩ := change_at (hr.below hb) hkn hd
      have hq2 := Lib.hid (sumK_succ szChange l k _ hd)
      have hq3 := Lib.hid (show (szChange (x0, x1, x2) : Nat) ≤ left - n - sumK szChange l k by have := sumK_le szChange l (k + 1); have := hq2.out; have := HL.out; omega)
      have hq4 := Lib.hid (show left - n - sumK szChange l k ≤ 1048576 by omega)
      have hq5 : (0 : Int) ≤ left - n - sumK szChange l k - (szChange (x0, x1, x2) : Nat) := by have := hq3.out; omega
      clear hr hd
      go_wp2_with fail
      refine (szChange_ok _ _ _ _ _ hq4.out hq3.out).mono ?_
      rintro e w2 ⟨rfl, h2⟩
      have hb2 := hb.trans (h2.mono hb.size)
      clear hblt c0 c1 c2
      go_wp2
      go_roundw
      case rel => exact ⟨k + 1, by omega, by go_num, by rw [hq2.out]; go_num, (by repeat' (first | (with_reducible exact Below.refl _ _) | (with_reducible assumption) | (with_reducible refine below_drewN ?_ _) | (with_reducible refine Below.drew ?_) | (with_reducible refine Below.alloc ?_ ?_ _) | (with_reducible refine Below.setCell ?_ ?_ _) | go_size))⟩
      case measure => simp [intOf]; omega
    · obtain rfl : k = n := by omega
      have ht : left - (k : Nat) - sumK szChange l k = left - ((l.length + (l.map szChange).sum : Nat) : Int) := by
        have := HL.out; rw [sumK_all _ _ _ (by omega)]; omega
      have HT := Lib.hid ht
      clear ht
      go_wp2
      go_ret
      exact ⟨ret_int HT.out, (by repeat' (first | (with_reducible exact Below.refl _ _) | (with_reducible assumption) | (with_reducible refine below_drewN ?_ _) | (with_reducible refine Below.drew ?_) | (with_reducible refine Below.alloc ?_ ?_ _) | (with_reducible refine Below.setCell ?_ ?_ _) | go_size))⟩
set_option maxHeartbeats 400000 in
theorem szChangeS_big (A : Option Addr) (n c : Nat) (l : List ChangeD) (left : Int) (w : World) (h0 : 0 ≤ left) (h1 : left ≤ 1048576) (hn : n ≤ maxLen) (hl : l.length = n)
    (hr : Rd w 3 A n (l.flatMap changeCells)) (hs : ∀ d ∈ l, OkChange d) (hle : left < (szChangeL l : Nat)) :
    Calls Try.prog 43 #[.slice A n c, .int .i64 left] w fun e w' => e = .returned (.int .i64 (-1)) ∧ Below w.heap.size w w' := by
  unfold maxLen at hn
  unfold szChangeL at hle
  have HL := Lib.hid hl
  clear hl
  have HS := Lib.hid hs
  clear hs
  by_cases h2 : left < n
  · go_enter Try.func43, Try.ntmps43
    go_wp2
    go_ret
    exact ⟨rfl, (by repeat' (first | (with_reducible exact Below.refl _ _) | (with_reducible assumption) | (with_reducible refine below_drewN ?_ _) | (with_reducible refine Below.drew ?_) | (with_reducible refine Below.alloc ?_ ?_ _) | (with_reducible refine Below.setCell ?_ ?_ _) | go_size))⟩
  · have g0 : (0 : Int) ≤ left - n := by omega
    go_enter Try.func43, Try.ntmps43
    go_wp2
    go_loopw [1, 5] (fun s i wr => ∃ k : Nat, k ≤ n ∧ i = .int .i64 k ∧ 0 ≤ left - n - sumK szChange l k ∧ s = .int .i64 (left - n - sumK szChange l k) ∧ Below w.heap.size w wr) (fun s i _ => n - (intOf i).toNat)
    case atStart => exact ⟨0, Nat.zero_le _, rfl, by rw [sumK_zero]; omega, by rw [sumK_zero]; go_num, Below.refl _ _⟩
    case round =>
      obtain ⟨k, hk, rfl, hp, rfl, hb⟩ := hrel
      by_cases hkn : k < n
      · obtain ⟨⟨x0, x1, x2⟩, hd⟩ : ∃ d, l[k]? = some d := ⟨_, List.getElem?_eq_getElem (by have := HL.out; omega)⟩
        have HKh := Lib.hid (HS.out _ (List.mem_of_getElem? hd))
        obtain ⟨b, off, rfl, hblt, c0, c1, c2⟩ := change_at (hr.below hb) hkn hd
        have hq2 := Lib.hid (sumK_succ szChange l k _ hd)
        have hq4 := Lib.hid (show left - n - sumK szChange l k ≤ 1048576 by omega)
        clear hr hd
        by_cases hq3 : (szChange (x0, x1, x2) : Nat) ≤ left - n - sumK szChange l k
        · have hq5 : (0 : Int) ≤ left - n - sumK szChange l k - (szChange (x0, x1, x2) : Nat) := by omega
          have hq3h := Lib.hid hq3
          clear hq3
          go_wp2_with fail
          refine (szChange_ok _ _ _ _ _ hq4.out hq3h.out).mono ?_
          rintro e w2 ⟨rfl, h2⟩
          have hb2 := hb.trans (h2.mono hb.size)
          clear hblt c0 c1 c2
          go_wp2
          go_roundw
          case rel => exact ⟨k + 1, by omega, by go_num, by rw [hq2.out]; omega, by rw [hq2.out]; go_num, (by repeat' (first | (with_reducible exact Below.refl _ _) | (with_reducible assumption) | (with_reducible refine below_drewN ?_ _) | (with_reducible refine Below.drew ?_) | (with_reducible refine Below.alloc ?_ ?_ _) | (with_reducible refine Below.setCell ?_ ?_ _) | go_size))⟩
          case measure => simp [intOf]; omega
        · have hq3h := Lib.hid (show left - n - sumK szChange l k < (szChange (x0, x1, x2) : Nat) by omega)
          have hph := Lib.hid hp
          clear hq3
          go_wp2_with fail
          refine (szChange_big _ _ _ _ _ hph.out hq4.out HKh.out hq3h.out).mono ?_
          rintro e w2 ⟨rfl, h2⟩
          have hb2 := hb.trans (h2.mono hb.size)
          clear hblt c0 c1 c2
          go_wp2
          go_ret
          exact ⟨rfl, (by repeat' (first | (with_reducible exact Below.refl _ _) | (with_reducible assumption) | (with_reducible refine below_drewN ?_ _) | (with_reducible refine Below.drew ?_) | (with_reducible refine Below.alloc ?_ ?_ _) | (with_reducible refine Below.setCell ?_ ?_ _) | go_size))⟩
      · have hf : False := by
          have := HL.out; rw [sumK_all _ _ _ (by omega)] at hp; omega
        exact hf.elim
theorem infoChange : (Try.prog.info? 28).map (fun i => (i.zero, i.size, i.bytes)) = some (some (.agg #[.int .i64 0, .int .i64 0, .string ⟨#[]⟩]), 3, 32) := by kernel_rfl
theorem change_take (l : List ChangeD) (k : Nat) (d : ChangeD) (h : l[k]? = some d) : (l.take (k + 1)).flatMap changeCells = (l.take k).flatMap changeCells ++ changeCells d := by
  rw [List.take_add_one, h]; simp
def changeTo (l : List ChangeD) (k : Nat) : List Value := (l.take k).flatMap changeCells
set_option maxHeartbeats 400000 in
theorem toChangeS_any (A : Option Addr) (n c : Nat) (l : List ChangeD) (w : World) (hn : n ≤ 1048576) (hl : l.length = n) (hr : Rd w 3 A n (l.flatMap changeCells)) :
    Calls Try.prog 45 #[.slice A n c] w fun e w' => e = .returned (.slice (some ⟨w.heap.size, 0, none⟩) n n) ∧ Own w' w.heap.size 28 (n * 3) (l.flatMap changeCells) ∧ Below w.heap.size w w' := by
  obtain ⟨i0, hi, hz0, hz1, hz2⟩ := info_parts infoChange
  have hmk := fun W => run_make_rowN (P := Try.prog) 55 28 i0 _ Try.underlying55 hi hz0 .i64 .i64 n n (Nat.le_refl _) (by rw [hz2]; omega) (by omega) W
  have HL := Lib.hid hl
  rw [hz1] at hmk
  clear hi hz0 hz1 hz2 hl
  go_enter Try.func45, Try.ntmps45
  go_wp2
  clear hmk
  go_loopw [4] (fun i wr => ∃ k : Nat, k ≤ n ∧ i = .int .i64 k ∧ Own wr w.heap.size 28 (n * 3) (changeTo l k) ∧ Below w.heap.size w wr) (fun i _ => n - (intOf i).toNat)
  case atStart => exact ⟨0, Nat.zero_le _, rfl, by unfold changeTo; exact Own.made (size_madeCells _ _), (by repeat' (first | (with_reducible exact Below.refl _ _) | (with_reducible assumption) | (with_reducible refine below_drewN ?_ _) | (with_reducible refine Below.drew ?_) | (with_reducible refine Below.alloc ?_ ?_ _) | (with_reducible refine Below.setCell ?_ ?_ _) | go_size))⟩
  case round =>
    obtain ⟨k, hk, rfl, how, hb⟩ := hrel
    by_cases hkn : k < n
    · obtain ⟨⟨x0, x1, x2⟩, hd⟩ : ∃ d, l[k]? = some d := ⟨_, List.getElem?_eq_getElem (by have := HL.out; omega)⟩
      obtain ⟨b, off, rfl, hblt, c0, c1, c2⟩ := change_at (hr.below hb) hkn hd
      have HD := Lib.hid hd
      clear hr hd
      go_wp2_with fail
      refine (toChange_any _ _ _ _).mono ?_
      rintro e w2 ⟨rfl, h2⟩
      have hb2 := hb.trans (h2.mono hb.size)
      replace how := how.next h2
      have hzz := hb2.size
      have hgg := how.lt
      obtain ⟨o0, e0⟩ := how.there (i := k * 3) (by omega)
      obtain ⟨o1, e1⟩ := how.there (i := k * 3 + 1) (by omega)
      obtain ⟨o2, e2⟩ := how.there (i := k * 3 + 2) (by omega)
      have hfz := how.frozen
      clear hblt c0 c1 c2
      go_wp2
      go_roundw
      case rel =>
        have hlen : (changeTo l k).length = k * 3 := by
          unfold changeTo
          rw [flat_len changeCells changeCells_len, List.length_take, Nat.min_eq_left (by have := HL.out; omega)]
        have hp0 := how.push (by simp [hlen]; omega) (i := k * 3) (by simp [hlen]) (.int .i64 x0)
        have hp1 := hp0.push (by simp [hlen]; omega) (i := k * 3 + 1) (by simp [hlen]) (.int .i64 x1)
        have hp2 := hp1.push (by simp [hlen]; omega) (i := k * 3 + 2) (by simp [hlen]) (.string x2)
        have hfin : changeTo l (k + 1) = changeTo l k ++ changeCells (x0, x1, x2) := change_take l k _ HD.out
        refine ⟨k + 1, by omega, by go_num, ?_, (by repeat' (first | (with_reducible exact Below.refl _ _) | (with_reducible assumption) | (with_reducible refine below_drewN ?_ _) | (with_reducible refine Below.drew ?_) | (with_reducible refine Below.alloc ?_ ?_ _) | (with_reducible refine Below.setCell ?_ ?_ _) | go_size))⟩
        rw [hfin]
        simpa [changeCells] using hp2
      case measure => simp [intOf]; omega
    · obtain rfl : k = n := by omega
      have hfin : changeTo l k = l.flatMap changeCells := by unfold changeTo; rw [List.take_of_length_le (by have := HL.out; omega)]
      rw [hfin] at how
      go_wp2
      go_ret
      exact ⟨rfl, how, hb⟩
set_option maxRecDepth 100000 in
set_option maxHeartbeats 800000 in
theorem eqChangeS_same (A B : Option Addr) (n c c' : Nat) (l : List ChangeD) (w : World) (hn : n ≤ 4194304) (hl : l.length = n) (ha : Rd w 3 A n (l.flatMap changeCells)) (hb : Rd w 3 B n (l.flatMap changeCells)) :
    Calls Try.prog 47 #[.slice A n c, .slice B n c'] w fun e w' => e = .returned (.bool true) ∧ Below w.heap.size w w' := by
  have HL := Lib.hid hl
  clear hl
  go_enter Try.func47, Try.ntmps47
  go_wp2
  go_loopw [5] (fun i wr => ∃ k : Nat, k ≤ n ∧ i = .int .i64 k ∧ Below w.heap.size w wr) (fun i _ => n - (intOf i).toNat)
  case atStart => exact ⟨0, Nat.zero_le _, rfl, Below.refl _ _⟩
  case round =>
    obtain ⟨k, hk, rfl, hbb⟩ := hrel
    by_cases hkn : k < n
    · obtain ⟨⟨x0, x1, x2⟩, hd⟩ : ∃ d, l[k]? = some d := ⟨_, List.getElem?_eq_getElem (by have := HL.out; omega)⟩
      obtain ⟨b, off, rfl, hblt, c0, c1, c2⟩ := change_at (ha.below hbb) hkn hd
      obtain ⟨b', off', rfl, hblt', c0b, c1b, c2b⟩ := change_at (hb.below hbb) hkn hd
      clear ha hb hd
      go_upto_region 6 with fail
      go_still_tail 8, (by kernel_rfl)
      change wpList _ _ _ _ _ wr.drew
      go_wp2_with fail
      refine (eqChange_same _ _ _ _).mono ?_
      rintro e w2 ⟨rfl, h2⟩
      have hb2 : Below w.heap.size w w2 := hbb.drew.trans (h2.mono hbb.size)
      clear hblt hblt' c0 c1 c2 c0b c1b c2b
      go_wp2
      go_roundw
      case rel => exact ⟨k + 1, by omega, by go_num, (by repeat' (first | (with_reducible exact Below.refl _ _) | (with_reducible assumption) | (with_reducible refine below_drewN ?_ _) | (with_reducible refine Below.drew ?_) | (with_reducible refine Below.alloc ?_ ?_ _) | (with_reducible refine Below.setCell ?_ ?_ _) | go_size))⟩
      case measure => simp [intOf]; omega
    · obtain rfl : k = n := by omega
      go_wp2
      go_ret
      exact ⟨rfl, hbb⟩
end Go.Proofs.Ytbddfbgbjlfocaa


/-
  Contracts: sizes, copies and equality of Doc (laws.szDoc, toDoc, eqDoc) and of slices of them. Written by program (family.py).
-/
import Derived.Test.YtfapdhfjcnehhaaMem
import Derived.Test.YtfapdhfjcnehhaaChecked
import Derived.Outline
import Derived.Deep.Cut
namespace Go.Proofs.Ytfapdhfjcnehhaa
open Go.RowKit
set_option linter.unusedVariables false

abbrev DocD := ByteArray × ByteArray
def docCells (d : DocD) : List Value := [.string (d.1), .string (d.2)]
theorem docCells_len (d : DocD) : (docCells d).length = 2 := rfl
def szDoc (d : DocD) : Nat := d.1.size + d.2.size
def szDocL (l : List DocD) : Nat := l.length + (l.map szDoc).sum
def OkDoc (d : DocD) : Prop := d.1.size ≤ maxLen ∧ d.2.size ≤ maxLen
theorem doc_at {w : World} {A : Option Addr} {n k : Nat} {l : List DocD} {x0 : ByteArray} {x1 : ByteArray} (h : Rd w 2 A n (l.flatMap docCells)) (hk : k < n) (hd : l[k]? = some (x0, x1)) :
    ∃ b off, A = some ⟨b, off, none⟩ ∧ b < w.heap.size ∧ w.cell? ⟨b, off + k * 2, none⟩ = some (.string x0) ∧ w.cell? ⟨b, off + k * 2 + 1, none⟩ = some (.string x1) := by
  obtain ⟨b, off, e, hb, hc⟩ := h.at_ (by omega)
  exact ⟨b, off, e, hb, hc _ _ (flat_get docCells docCells_len hd (j := 0) rfl), hc _ _ (flat_get docCells docCells_len hd (j := 1) rfl)⟩
set_option maxHeartbeats 400000 in
theorem szDoc_ok (x0 : ByteArray) (x1 : ByteArray) (left : Int) (w : World) (hl1 : left ≤ 1048576) (hle : (szDoc (x0, x1) : Nat) ≤ left) :
    Calls Try.prog 30 #[.agg #[.string x0, .string x1], .int .i64 left] w fun e w' => e = .returned (.int .i64 (left - (szDoc (x0, x1) : Nat))) ∧ Below w.heap.size w w' := by
  have hs : szDoc (x0, x1) = x0.size + x1.size := rfl
  rw [hs] at hle ⊢
  clear hs
  rw [show left - ((x0.size + x1.size : Nat) : Int) = left - x0.size - x1.size by omega]
  have g0 : (0 : Int) ≤ left - x0.size := by omega
  have g1 : (0 : Int) ≤ left - x0.size - x1.size := by omega
  go_enter Try.func30, Try.ntmps30
  go_wp2
  go_ret
  exact ⟨rfl, (by repeat' (first | (with_reducible exact Below.refl _ _) | (with_reducible assumption) | (with_reducible refine below_drewN ?_ _) | (with_reducible refine Below.drew ?_) | (with_reducible refine Below.alloc ?_ ?_ _) | (with_reducible refine Below.setCell ?_ ?_ _) | go_size))⟩
set_option maxHeartbeats 400000 in
theorem szDoc_big (x0 : ByteArray) (x1 : ByteArray) (left : Int) (w : World) (hl0 : 0 ≤ left) (hl1 : left ≤ 1048576) (h0 : x0.size ≤ maxLen) (h1 : x1.size ≤ maxLen) (hle : left < (szDoc (x0, x1) : Nat)) :
    Calls Try.prog 30 #[.agg #[.string x0, .string x1], .int .i64 left] w fun e w' => e = .returned (.int .i64 (-1)) ∧ Below w.heap.size w w' := by
  unfold maxLen at h0 h1
  have hs : szDoc (x0, x1) = x0.size + x1.size := rfl
  rw [hs] at hle
  clear hs
  by_cases g0 : left < x0.size
  · go_enter Try.func30, Try.ntmps30
    go_wp2
    go_ret
    exact ⟨rfl, (by repeat' (first | (with_reducible exact Below.refl _ _) | (with_reducible assumption) | (with_reducible refine below_drewN ?_ _) | (with_reducible refine Below.drew ?_) | (with_reducible refine Below.alloc ?_ ?_ _) | (with_reducible refine Below.setCell ?_ ?_ _) | go_size))⟩
  have g1 : left - x0.size < x1.size := by omega
  go_enter Try.func30, Try.ntmps30
  go_wp2
  go_ret
  exact ⟨rfl, (by repeat' (first | (with_reducible exact Below.refl _ _) | (with_reducible assumption) | (with_reducible refine below_drewN ?_ _) | (with_reducible refine Below.drew ?_) | (with_reducible refine Below.alloc ?_ ?_ _) | (with_reducible refine Below.setCell ?_ ?_ _) | go_size))⟩
set_option maxHeartbeats 400000 in
theorem toDoc_any (x0 : ByteArray) (x1 : ByteArray) (w : World) :
    Calls Try.prog 31 #[.agg #[.string x0, .string x1]] w fun e w' => e = .returned (.agg #[.string x0, .string x1]) ∧ Below w.heap.size w w' := by
  go_enter Try.func31, Try.ntmps31
  go_wp2
  go_returns
  exact ⟨rfl, (by repeat' (first | (with_reducible exact Below.refl _ _) | (with_reducible assumption) | (with_reducible refine below_drewN ?_ _) | (with_reducible refine Below.drew ?_) | (with_reducible refine Below.alloc ?_ ?_ _) | (with_reducible refine Below.setCell ?_ ?_ _) | go_size))⟩
set_option maxHeartbeats 400000 in
theorem eqDoc_same (x0 : ByteArray) (x1 : ByteArray) (w : World) :
    Calls Try.prog 33 #[.agg #[.string x0, .string x1], .agg #[.string x0, .string x1]] w fun e w' => e = .returned (.bool true) ∧ Below w.heap.size w w' := by
  go_enter Try.func33, Try.ntmps33
  go_wp2
  go_ret
  exact ⟨rfl, (by repeat' (first | (with_reducible exact Below.refl _ _) | (with_reducible assumption) | (with_reducible refine below_drewN ?_ _) | (with_reducible refine Below.drew ?_) | (with_reducible refine Below.alloc ?_ ?_ _) | (with_reducible refine Below.setCell ?_ ?_ _) | go_size))⟩
set_option maxHeartbeats 400000 in
theorem szDocS_ok (A : Option Addr) (n c : Nat) (l : List DocD) (left : Int) (w : World) (h1 : left ≤ 1048576) (hl : l.length = n)
    (hr : Rd w 2 A n (l.flatMap docCells)) (hle : (szDocL l : Nat) ≤ left) :
    Calls Try.prog 7 #[.slice A n c, .int .i64 left] w fun e w' => e = .returned (.int .i64 (left - (szDocL l : Nat))) ∧ Below w.heap.size w w' := by
  unfold szDocL at hle ⊢
  have g0 : (0 : Int) ≤ left - n := by omega
  have gn : n ≤ 1048576 := by omega
  have HL := Lib.hid hl
  clear hl
  go_enter Try.func7, Try.ntmps7
  go_wp2
  go_loopw [1, 5] (fun s i wr => ∃ k : Nat, k ≤ n ∧ i = .int .i64 k ∧ s = .int .i64 (left - n - sumK szDoc l k) ∧ Below w.heap.size w wr) (fun s i _ => n - (intOf i).toNat)
  case atStart => exact ⟨0, Nat.zero_le _, rfl, by rw [sumK_zero]; go_num, Below.refl _ _⟩
  case round =>
    obtain ⟨k, hk, rfl, rfl, hb⟩ := hrel
    by_cases hkn : k < n
    · obtain ⟨⟨x0, x1⟩, hd⟩ : ∃ d, l[k]? = some d := ⟨_, List.getElem?_eq_getElem (by have := HL.out; omega)⟩
      obtain ⟨b, off, rfl, hblt, c0, c1⟩ := doc_at (hr.below hb) hkn hd
      have hq2 := Lib.hid (sumK_succ szDoc l k _ hd)
      have hq3 := Lib.hid (show (szDoc (x0, x1) : Nat) ≤ left - n - sumK szDoc l k by have := sumK_le szDoc l (k + 1); have := hq2.out; have := HL.out; omega)
      have hq4 := Lib.hid (show left - n - sumK szDoc l k ≤ 1048576 by omega)
      have hq5 : (0 : Int) ≤ left - n - sumK szDoc l k - (szDoc (x0, x1) : Nat) := by have := hq3.out; omega
      clear hr hd
      go_wp2_with fail
      refine (szDoc_ok _ _ _ _ hq4.out hq3.out).mono ?_
      rintro e w2 ⟨rfl, h2⟩
      have hb2 := hb.trans (h2.mono hb.size)
      clear hblt c0 c1
      go_wp2
      go_roundw
      case rel => exact ⟨k + 1, by omega, by go_num, by rw [hq2.out]; go_num, (by repeat' (first | (with_reducible exact Below.refl _ _) | (with_reducible assumption) | (with_reducible refine below_drewN ?_ _) | (with_reducible refine Below.drew ?_) | (with_reducible refine Below.alloc ?_ ?_ _) | (with_reducible refine Below.setCell ?_ ?_ _) | go_size))⟩
      case measure => simp [intOf]; omega
    · obtain rfl : k = n := by omega
      have ht : left - (k : Nat) - sumK szDoc l k = left - ((l.length + (l.map szDoc).sum : Nat) : Int) := by
        have := HL.out; rw [sumK_all _ _ _ (by omega)]; omega
      have HT := Lib.hid ht
      clear ht
      go_wp2
      go_ret
      exact ⟨ret_int HT.out, (by repeat' (first | (with_reducible exact Below.refl _ _) | (with_reducible assumption) | (with_reducible refine below_drewN ?_ _) | (with_reducible refine Below.drew ?_) | (with_reducible refine Below.alloc ?_ ?_ _) | (with_reducible refine Below.setCell ?_ ?_ _) | go_size))⟩
set_option maxHeartbeats 400000 in
theorem szDocS_big (A : Option Addr) (n c : Nat) (l : List DocD) (left : Int) (w : World) (h0 : 0 ≤ left) (h1 : left ≤ 1048576) (hn : n ≤ maxLen) (hl : l.length = n)
    (hr : Rd w 2 A n (l.flatMap docCells)) (hs : ∀ d ∈ l, OkDoc d) (hle : left < (szDocL l : Nat)) :
    Calls Try.prog 7 #[.slice A n c, .int .i64 left] w fun e w' => e = .returned (.int .i64 (-1)) ∧ Below w.heap.size w w' := by
  unfold maxLen at hn
  unfold szDocL at hle
  have HL := Lib.hid hl
  clear hl
  have HS := Lib.hid hs
  clear hs
  by_cases h2 : left < n
  · go_enter Try.func7, Try.ntmps7
    go_wp2
    go_ret
    exact ⟨rfl, (by repeat' (first | (with_reducible exact Below.refl _ _) | (with_reducible assumption) | (with_reducible refine below_drewN ?_ _) | (with_reducible refine Below.drew ?_) | (with_reducible refine Below.alloc ?_ ?_ _) | (with_reducible refine Below.setCell ?_ ?_ _) | go_size))⟩
  · have g0 : (0 : Int) ≤ left - n := by omega
    go_enter Try.func7, Try.ntmps7
    go_wp2
    go_loopw [1, 5] (fun s i wr => ∃ k : Nat, k ≤ n ∧ i = .int .i64 k ∧ 0 ≤ left - n - sumK szDoc l k ∧ s = .int .i64 (left - n - sumK szDoc l k) ∧ Below w.heap.size w wr) (fun s i _ => n - (intOf i).toNat)
    case atStart => exact ⟨0, Nat.zero_le _, rfl, by rw [sumK_zero]; omega, by rw [sumK_zero]; go_num, Below.refl _ _⟩
    case round =>
      obtain ⟨k, hk, rfl, hp, rfl, hb⟩ := hrel
      by_cases hkn : k < n
      · obtain ⟨⟨x0, x1⟩, hd⟩ : ∃ d, l[k]? = some d := ⟨_, List.getElem?_eq_getElem (by have := HL.out; omega)⟩
        have HKh := Lib.hid (HS.out _ (List.mem_of_getElem? hd))
        obtain ⟨b, off, rfl, hblt, c0, c1⟩ := doc_at (hr.below hb) hkn hd
        have hq2 := Lib.hid (sumK_succ szDoc l k _ hd)
        have hq4 := Lib.hid (show left - n - sumK szDoc l k ≤ 1048576 by omega)
        clear hr hd
        by_cases hq3 : (szDoc (x0, x1) : Nat) ≤ left - n - sumK szDoc l k
        · have hq5 : (0 : Int) ≤ left - n - sumK szDoc l k - (szDoc (x0, x1) : Nat) := by omega
          have hq3h := Lib.hid hq3
          clear hq3
          go_wp2_with fail
          refine (szDoc_ok _ _ _ _ hq4.out hq3h.out).mono ?_
          rintro e w2 ⟨rfl, h2⟩
          have hb2 := hb.trans (h2.mono hb.size)
          clear hblt c0 c1
          go_wp2
          go_roundw
          case rel => exact ⟨k + 1, by omega, by go_num, by rw [hq2.out]; omega, by rw [hq2.out]; go_num, (by repeat' (first | (with_reducible exact Below.refl _ _) | (with_reducible assumption) | (with_reducible refine below_drewN ?_ _) | (with_reducible refine Below.drew ?_) | (with_reducible refine Below.alloc ?_ ?_ _) | (with_reducible refine Below.setCell ?_ ?_ _) | go_size))⟩
          case measure => simp [intOf]; omega
        · have hq3h := Lib.hid (show left - n - sumK szDoc l k < (szDoc (x0, x1) : Nat) by omega)
          have hph := Lib.hid hp
          clear hq3
          go_wp2_with fail
          refine (szDoc_big _ _ _ _ hph.out hq4.out HKh.out.1 HKh.out.2 hq3h.out).mono ?_
          rintro e w2 ⟨rfl, h2⟩
          have hb2 := hb.trans (h2.mono hb.size)
          clear hblt c0 c1
          go_wp2
          go_ret
          exact ⟨rfl, (by repeat' (first | (with_reducible exact Below.refl _ _) | (with_reducible assumption) | (with_reducible refine below_drewN ?_ _) | (with_reducible refine Below.drew ?_) | (with_reducible refine Below.alloc ?_ ?_ _) | (with_reducible refine Below.setCell ?_ ?_ _) | go_size))⟩
      · have hf : False := by
          have := HL.out; rw [sumK_all _ _ _ (by omega)] at hp; omega
        exact hf.elim
theorem infoDoc : (Try.prog.info? 58).map (fun i => (i.zero, i.size, i.bytes)) = some (some (.agg #[.string ⟨#[]⟩, .string ⟨#[]⟩]), 2, 32) := by kernel_rfl
theorem doc_take (l : List DocD) (k : Nat) (d : DocD) (h : l[k]? = some d) : (l.take (k + 1)).flatMap docCells = (l.take k).flatMap docCells ++ docCells d := by
  rw [List.take_add_one, h]; simp
def docTo (l : List DocD) (k : Nat) : List Value := (l.take k).flatMap docCells
set_option maxHeartbeats 400000 in
theorem toDocS_any (A : Option Addr) (n c : Nat) (l : List DocD) (w : World) (hn : n ≤ 1048576) (hl : l.length = n) (hr : Rd w 2 A n (l.flatMap docCells)) :
    Calls Try.prog 9 #[.slice A n c] w fun e w' => e = .returned (.slice (some ⟨w.heap.size, 0, none⟩) n n) ∧ Own w' w.heap.size 58 (n * 2) (l.flatMap docCells) ∧ Below w.heap.size w w' := by
  obtain ⟨i0, hi, hz0, hz1, hz2⟩ := info_parts infoDoc
  have hmk := fun W => run_make_rowN (P := Try.prog) 26 58 i0 _ Try.underlying26 hi hz0 .i64 .i64 n n (Nat.le_refl _) (by rw [hz2]; omega) (by omega) W
  have HL := Lib.hid hl
  rw [hz1] at hmk
  clear hi hz0 hz1 hz2 hl
  go_enter Try.func9, Try.ntmps9
  go_wp2
  clear hmk
  go_loopw [4] (fun i wr => ∃ k : Nat, k ≤ n ∧ i = .int .i64 k ∧ Own wr w.heap.size 58 (n * 2) (docTo l k) ∧ Below w.heap.size w wr) (fun i _ => n - (intOf i).toNat)
  case atStart => exact ⟨0, Nat.zero_le _, rfl, by unfold docTo; exact Own.made (size_madeCells _ _), (by repeat' (first | (with_reducible exact Below.refl _ _) | (with_reducible assumption) | (with_reducible refine below_drewN ?_ _) | (with_reducible refine Below.drew ?_) | (with_reducible refine Below.alloc ?_ ?_ _) | (with_reducible refine Below.setCell ?_ ?_ _) | go_size))⟩
  case round =>
    obtain ⟨k, hk, rfl, how, hb⟩ := hrel
    by_cases hkn : k < n
    · obtain ⟨⟨x0, x1⟩, hd⟩ : ∃ d, l[k]? = some d := ⟨_, List.getElem?_eq_getElem (by have := HL.out; omega)⟩
      obtain ⟨b, off, rfl, hblt, c0, c1⟩ := doc_at (hr.below hb) hkn hd
      have HD := Lib.hid hd
      clear hr hd
      go_wp2_with fail
      refine (toDoc_any _ _ _).mono ?_
      rintro e w2 ⟨rfl, h2⟩
      have hb2 := hb.trans (h2.mono hb.size)
      replace how := how.next h2
      have hzz := hb2.size
      have hgg := how.lt
      obtain ⟨o0, e0⟩ := how.there (i := k * 2) (by omega)
      obtain ⟨o1, e1⟩ := how.there (i := k * 2 + 1) (by omega)
      have hfz := how.frozen
      clear hblt c0 c1
      go_wp2
      go_roundw
      case rel =>
        have hlen : (docTo l k).length = k * 2 := by
          unfold docTo
          rw [flat_len docCells docCells_len, List.length_take, Nat.min_eq_left (by have := HL.out; omega)]
        have hp0 := how.push (by simp [hlen]; omega) (i := k * 2) (by simp [hlen]) (.string x0)
        have hp1 := hp0.push (by simp [hlen]; omega) (i := k * 2 + 1) (by simp [hlen]) (.string x1)
        have hfin : docTo l (k + 1) = docTo l k ++ docCells (x0, x1) := doc_take l k _ HD.out
        refine ⟨k + 1, by omega, by go_num, ?_, (by repeat' (first | (with_reducible exact Below.refl _ _) | (with_reducible assumption) | (with_reducible refine below_drewN ?_ _) | (with_reducible refine Below.drew ?_) | (with_reducible refine Below.alloc ?_ ?_ _) | (with_reducible refine Below.setCell ?_ ?_ _) | go_size))⟩
        rw [hfin]
        simpa [docCells] using hp1
      case measure => simp [intOf]; omega
    · obtain rfl : k = n := by omega
      have hfin : docTo l k = l.flatMap docCells := by unfold docTo; rw [List.take_of_length_le (by have := HL.out; omega)]
      rw [hfin] at how
      go_wp2
      go_ret
      exact ⟨rfl, how, hb⟩
set_option maxRecDepth 100000 in
set_option maxHeartbeats 800000 in
theorem eqDocS_same (A B : Option Addr) (n c c' : Nat) (l : List DocD) (w : World) (hn : n ≤ 4194304) (hl : l.length = n) (ha : Rd w 2 A n (l.flatMap docCells)) (hb : Rd w 2 B n (l.flatMap docCells)) :
    Calls Try.prog 12 #[.slice A n c, .slice B n c'] w fun e w' => e = .returned (.bool true) ∧ Below w.heap.size w w' := by
  have HL := Lib.hid hl
  clear hl
  go_enter Try.func12, Try.ntmps12
  go_wp2
  go_loopw [5] (fun i wr => ∃ k : Nat, k ≤ n ∧ i = .int .i64 k ∧ Below w.heap.size w wr) (fun i _ => n - (intOf i).toNat)
  case atStart => exact ⟨0, Nat.zero_le _, rfl, Below.refl _ _⟩
  case round =>
    obtain ⟨k, hk, rfl, hbb⟩ := hrel
    by_cases hkn : k < n
    · obtain ⟨⟨x0, x1⟩, hd⟩ : ∃ d, l[k]? = some d := ⟨_, List.getElem?_eq_getElem (by have := HL.out; omega)⟩
      obtain ⟨b, off, rfl, hblt, c0, c1⟩ := doc_at (ha.below hbb) hkn hd
      obtain ⟨b', off', rfl, hblt', c0b, c1b⟩ := doc_at (hb.below hbb) hkn hd
      clear ha hb hd
      go_upto_region 6 with fail
      go_still_tail 8, (by kernel_rfl)
      change wpList _ _ _ _ _ wr.drew
      go_wp2_with fail
      refine (eqDoc_same _ _ _).mono ?_
      rintro e w2 ⟨rfl, h2⟩
      have hb2 : Below w.heap.size w w2 := hbb.drew.trans (h2.mono hbb.size)
      clear hblt hblt' c0 c1 c0b c1b
      go_wp2
      go_roundw
      case rel => exact ⟨k + 1, by omega, by go_num, (by repeat' (first | (with_reducible exact Below.refl _ _) | (with_reducible assumption) | (with_reducible refine below_drewN ?_ _) | (with_reducible refine Below.drew ?_) | (with_reducible refine Below.alloc ?_ ?_ _) | (with_reducible refine Below.setCell ?_ ?_ _) | go_size))⟩
      case measure => simp [intOf]; omega
    · obtain rfl : k = n := by omega
      go_wp2
      go_ret
      exact ⟨rfl, hbb⟩
end Go.Proofs.Ytfapdhfjcnehhaa

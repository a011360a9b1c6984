
/-
  Contracts: sizes, copies and equality of Chunk (laws.szChunk, toChunk, eqChunk) and of slices of them. Written by program (family.py).
-/
import Derived.Test.YtfapdhfjcnehhaaDoorFamSplit
import Derived.Test.YtfapdhfjcnehhaaDoorChecked
import Derived.Outline
import Derived.Deep.Cut
namespace Go.Proofs.YtfapdhfjcnehhaaDoor
open Go.RowKit
set_option linter.unusedVariables false

abbrev ChunkD := ByteArray × Int × Int × Bool × Int
def chunkCells (d : ChunkD) : List Value := [.string (d.1), .int .i64 (d.2.1), .int .i64 (d.2.2.1), .bool (d.2.2.2.1), .int .i64 (d.2.2.2.2)]
theorem chunkCells_len (d : ChunkD) : (chunkCells d).length = 5 := rfl
def szChunk (d : ChunkD) : Nat := d.1.size
def szChunkL (l : List ChunkD) : Nat := l.length + (l.map szChunk).sum
def OkChunk (d : ChunkD) : Prop := d.1.size ≤ maxLen
theorem chunk_at {w : World} {A : Option Addr} {n k : Nat} {l : List ChunkD} {x0 : ByteArray} {x1 : Int} {x2 : Int} {x3 : Bool} {x4 : Int} (h : Rd w 5 A n (l.flatMap chunkCells)) (hk : k < n) (hd : l[k]? = some (x0, x1, x2, x3, x4)) :
    ∃ b off, A = some ⟨b, off, none⟩ ∧ b < w.heap.size ∧ w.cell? ⟨b, off + k * 5, none⟩ = some (.string x0) ∧ w.cell? ⟨b, off + k * 5 + 1, none⟩ = some (.int .i64 x1) ∧ w.cell? ⟨b, off + k * 5 + 2, none⟩ = some (.int .i64 x2) ∧ w.cell? ⟨b, off + k * 5 + 3, none⟩ = some (.bool x3) ∧ w.cell? ⟨b, off + k * 5 + 4, none⟩ = some (.int .i64 x4) := by
  obtain ⟨b, off, e, hb, hc⟩ := h.at_ (by omega)
  exact ⟨b, off, e, hb, hc _ _ (flat_get chunkCells chunkCells_len hd (j := 0) rfl), hc _ _ (flat_get chunkCells chunkCells_len hd (j := 1) rfl), hc _ _ (flat_get chunkCells chunkCells_len hd (j := 2) rfl), hc _ _ (flat_get chunkCells chunkCells_len hd (j := 3) rfl), hc _ _ (flat_get chunkCells chunkCells_len hd (j := 4) rfl)⟩
set_option maxHeartbeats 400000 in
theorem szChunk_ok (x0 : ByteArray) (x1 : Int) (x2 : Int) (x3 : Bool) (x4 : Int) (left : Int) (w : World) (hl1 : left ≤ 1048576) (hle : (szChunk (x0, x1, x2, x3, x4) : Nat) ≤ left) :
    Calls Tryd.prog 103 #[.agg #[.string x0, .int .i64 x1, .int .i64 x2, .bool x3, .int .i64 x4], .int .i64 left] w fun e w' => e = .returned (.int .i64 (left - (szChunk (x0, x1, x2, x3, x4) : Nat))) ∧ Below w.heap.size w w' := by
  have hs : szChunk (x0, x1, x2, x3, x4) = x0.size := rfl
  rw [hs] at hle ⊢
  clear hs
  rw [show left - ((x0.size : Nat) : Int) = left - x0.size by omega]
  have g0 : (0 : Int) ≤ left - x0.size := by omega
  go_enter Tryd.func103, Tryd.ntmps103
  go_wp2
  go_ret
  exact ⟨rfl, (by repeat' (first | (with_reducible exact Below.refl _ _) | (with_reducible assumption) | (with_reducible refine below_drewN ?_ _) | (with_reducible refine Below.drew ?_) | (with_reducible refine Below.alloc ?_ ?_ _) | (with_reducible refine Below.setCell ?_ ?_ _) | go_size))⟩
set_option maxHeartbeats 400000 in
theorem szChunk_big (x0 : ByteArray) (x1 : Int) (x2 : Int) (x3 : Bool) (x4 : Int) (left : Int) (w : World) (hl0 : 0 ≤ left) (hl1 : left ≤ 1048576) (h0 : x0.size ≤ maxLen) (hle : left < (szChunk (x0, x1, x2, x3, x4) : Nat)) :
    Calls Tryd.prog 103 #[.agg #[.string x0, .int .i64 x1, .int .i64 x2, .bool x3, .int .i64 x4], .int .i64 left] w fun e w' => e = .returned (.int .i64 (-1)) ∧ Below w.heap.size w w' := by
  unfold maxLen at h0
  have hs : szChunk (x0, x1, x2, x3, x4) = x0.size := rfl
  rw [hs] at hle
  clear hs
  have g0 : left < x0.size := by omega
  go_enter Tryd.func103, Tryd.ntmps103
  go_wp2
  go_ret
  exact ⟨rfl, (by repeat' (first | (with_reducible exact Below.refl _ _) | (with_reducible assumption) | (with_reducible refine below_drewN ?_ _) | (with_reducible refine Below.drew ?_) | (with_reducible refine Below.alloc ?_ ?_ _) | (with_reducible refine Below.setCell ?_ ?_ _) | go_size))⟩
set_option maxRecDepth 100000 in
set_option maxHeartbeats 800000 in
theorem toChunk_any (x0 : ByteArray) (x1 : Int) (x2 : Int) (x3 : Bool) (x4 : Int) (w : World) :
    Calls Tryd.prog 105 #[.agg #[.string x0, .int .i64 x1, .int .i64 x2, .bool x3, .int .i64 x4]] w fun e w' => e = .returned (.agg #[.string x0, .int .i64 x1, .int .i64 x2, .bool x3, .int .i64 x4]) ∧ Below w.heap.size w w' := by
  have hbw := Below.refl w.heap.size w
  go_enter Tryd.func105, Tryd.ntmps105
  go_wp2_with fail
  refine (toSplit_any _ _ _ _ _).mono ?_
  rintro e w2 ⟨rfl, h2⟩
  have K1 := Blk.fresh3 h2
  have K2 := Blk.fresh2 h2
  have K3 := Blk.fresh h2
  replace hbw := below_next3 hbw h2
  simp only [World.size_alloc] at K2 K3
  have z1 := K1.lt
  have z2 := K2.lt
  have z3 := K3.lt
  have f2 := K2.frozen
  have f3 := K3.frozen
  have a1 := K1.cell
  have d0 : w2.cell? ⟨w.heap.size + 1, 0, none⟩ = some (.string ⟨#[]⟩) := K2.cell 0
  have d1 : w2.cell? ⟨w.heap.size + 1, 1, none⟩ = some (.int .i64 0) := K2.cell 1
  have d2 : w2.cell? ⟨w.heap.size + 1, 2, none⟩ = some (.int .i64 0) := K2.cell 2
  have d3 : w2.cell? ⟨w.heap.size + 1, 3, none⟩ = some (.bool false) := K2.cell 3
  have d4 : w2.cell? ⟨w.heap.size + 1, 4, none⟩ = some (.int .i64 0) := K2.cell 4
  have e0 : w2.cell? ⟨w.heap.size + 1 + 1, 0, none⟩ = some (.string x0) := K3.cell 0
  have e1 : w2.cell? ⟨w.heap.size + 1 + 1, 1, none⟩ = some (.int .i64 0) := K3.cell 1
  have e2 : w2.cell? ⟨w.heap.size + 1 + 1, 2, none⟩ = some (.int .i64 0) := K3.cell 2
  have e3 : w2.cell? ⟨w.heap.size + 1 + 1, 3, none⟩ = some (.bool false) := K3.cell 3
  have e4 : w2.cell? ⟨w.heap.size + 1 + 1, 4, none⟩ = some (.int .i64 0) := K3.cell 4
  clear K1 K2 K3 h2
  go_wp2
  refine bodyPost_ret (by simp [results, Tryd.results105, go_sem, d0, d1, d2, d3, d4]; try rfl) rfl ?_
  exact ⟨rfl, (by repeat' (first | (with_reducible exact Below.refl _ _) | (with_reducible assumption) | (with_reducible refine below_drewN ?_ _) | (with_reducible refine Below.drew ?_) | (with_reducible refine Below.alloc ?_ ?_ _) | (with_reducible refine Below.setCell ?_ ?_ _) | go_size))⟩
set_option maxRecDepth 100000 in
set_option maxHeartbeats 800000 in
theorem eqChunk_same (x0 : ByteArray) (x1 : Int) (x2 : Int) (x3 : Bool) (x4 : Int) (w : World) :
    Calls Tryd.prog 109 #[.agg #[.string x0, .int .i64 x1, .int .i64 x2, .bool x3, .int .i64 x4], .agg #[.string x0, .int .i64 x1, .int .i64 x2, .bool x3, .int .i64 x4]] w fun e w' => e = .returned (.bool true) ∧ Below w.heap.size w w' := by
  have hbw := Below.refl w.heap.size w
  go_enter Tryd.func109, Tryd.ntmps109
  go_wp2_with fail
  refine (eqSplit_same _ _ _ _ _).mono ?_
  rintro e w2 ⟨rfl, h2⟩
  replace hbw := below_next2 hbw h2
  go_wp2
  go_ret
  exact ⟨rfl, hbw⟩
set_option maxHeartbeats 400000 in
theorem szChunkS_ok (A : Option Addr) (n c : Nat) (l : List ChunkD) (left : Int) (w : World) (h1 : left ≤ 1048576) (hl : l.length = n)
    (hr : Rd w 5 A n (l.flatMap chunkCells)) (hle : (szChunkL l : Nat) ≤ left) :
    Calls Tryd.prog 72 #[.slice A n c, .int .i64 left] w fun e w' => e = .returned (.int .i64 (left - (szChunkL l : Nat))) ∧ Below w.heap.size w w' := by
  unfold szChunkL at hle ⊢
  have g0 : (0 : Int) ≤ left - n := by omega
  have gn : n ≤ 1048576 := by omega
  have HL := Lib.hid hl
  clear hl
  go_enter Tryd.func72, Tryd.ntmps72
  go_wp2
  go_loopw [1, 5] (fun s i wr => ∃ k : Nat, k ≤ n ∧ i = .int .i64 k ∧ s = .int .i64 (left - n - sumK szChunk l k) ∧ Below w.heap.size w wr) (fun s i _ => n - (intOf i).toNat)
  case atStart => exact ⟨0, Nat.zero_le _, rfl, by rw [sumK_zero]; go_num, Below.refl _ _⟩
  case round =>
    obtain ⟨k, hk, rfl, rfl, hb⟩ := hrel
    by_cases hkn : k < n
    · obtain ⟨⟨x0, x1, x2, x3, x4⟩, hd⟩ : ∃ d, l[k]? = some d := ⟨_, List.getElem?_eq_getElem (by have := HL.out; omega)⟩
      obtain ⟨b, off, rfl, hblt, c0, c1, c2, c3, c4⟩ := chunk_at (hr.below hb) hkn hd
      have hq2 := Lib.hid (sumK_succ szChunk l k _ hd)
      have hq3 := Lib.hid (show (szChunk (x0, x1, x2, x3, x4) : Nat) ≤ left - n - sumK szChunk l k by have := sumK_le szChunk l (k + 1); have := hq2.out; have := HL.out; omega)
      have hq4 := Lib.hid (show left - n - sumK szChunk l k ≤ 1048576 by omega)
      have hq5 : (0 : Int) ≤ left - n - sumK szChunk l k - (szChunk (x0, x1, x2, x3, x4) : Nat) := by have := hq3.out; omega
      clear hr hd
      go_wp2_with fail
      refine (szChunk_ok _ _ _ _ _ _ _ hq4.out hq3.out).mono ?_
      rintro e w2 ⟨rfl, h2⟩
      have hb2 := hb.trans (h2.mono hb.size)
      clear hblt c0 c1 c2 c3 c4
      go_wp2
      go_roundw
      case rel => exact ⟨k + 1, by omega, by go_num, by rw [hq2.out]; go_num, (by repeat' (first | (with_reducible exact Below.refl _ _) | (with_reducible assumption) | (with_reducible refine below_drewN ?_ _) | (with_reducible refine Below.drew ?_) | (with_reducible refine Below.alloc ?_ ?_ _) | (with_reducible refine Below.setCell ?_ ?_ _) | go_size))⟩
      case measure => simp [intOf]; omega
    · obtain rfl : k = n := by omega
      have ht : left - (k : Nat) - sumK szChunk l k = left - ((l.length + (l.map szChunk).sum : Nat) : Int) := by
        have := HL.out; rw [sumK_all _ _ _ (by omega)]; omega
      have HT := Lib.hid ht
      clear ht
      go_wp2
      go_ret
      exact ⟨ret_int HT.out, (by repeat' (first | (with_reducible exact Below.refl _ _) | (with_reducible assumption) | (with_reducible refine below_drewN ?_ _) | (with_reducible refine Below.drew ?_) | (with_reducible refine Below.alloc ?_ ?_ _) | (with_reducible refine Below.setCell ?_ ?_ _) | go_size))⟩
set_option maxHeartbeats 400000 in
theorem szChunkS_big (A : Option Addr) (n c : Nat) (l : List ChunkD) (left : Int) (w : World) (h0 : 0 ≤ left) (h1 : left ≤ 1048576) (hn : n ≤ maxLen) (hl : l.length = n)
    (hr : Rd w 5 A n (l.flatMap chunkCells)) (hs : ∀ d ∈ l, OkChunk d) (hle : left < (szChunkL l : Nat)) :
    Calls Tryd.prog 72 #[.slice A n c, .int .i64 left] w fun e w' => e = .returned (.int .i64 (-1)) ∧ Below w.heap.size w w' := by
  unfold maxLen at hn
  unfold szChunkL at hle
  have HL := Lib.hid hl
  clear hl
  have HS := Lib.hid hs
  clear hs
  by_cases h2 : left < n
  · go_enter Tryd.func72, Tryd.ntmps72
    go_wp2
    go_ret
    exact ⟨rfl, (by repeat' (first | (with_reducible exact Below.refl _ _) | (with_reducible assumption) | (with_reducible refine below_drewN ?_ _) | (with_reducible refine Below.drew ?_) | (with_reducible refine Below.alloc ?_ ?_ _) | (with_reducible refine Below.setCell ?_ ?_ _) | go_size))⟩
  · have g0 : (0 : Int) ≤ left - n := by omega
    go_enter Tryd.func72, Tryd.ntmps72
    go_wp2
    go_loopw [1, 5] (fun s i wr => ∃ k : Nat, k ≤ n ∧ i = .int .i64 k ∧ 0 ≤ left - n - sumK szChunk l k ∧ s = .int .i64 (left - n - sumK szChunk l k) ∧ Below w.heap.size w wr) (fun s i _ => n - (intOf i).toNat)
    case atStart => exact ⟨0, Nat.zero_le _, rfl, by rw [sumK_zero]; omega, by rw [sumK_zero]; go_num, Below.refl _ _⟩
    case round =>
      obtain ⟨k, hk, rfl, hp, rfl, hb⟩ := hrel
      by_cases hkn : k < n
      · obtain ⟨⟨x0, x1, x2, x3, x4⟩, hd⟩ : ∃ d, l[k]? = some d := ⟨_, List.getElem?_eq_getElem (by have := HL.out; omega)⟩
        have HKh := Lib.hid (HS.out _ (List.mem_of_getElem? hd))
        obtain ⟨b, off, rfl, hblt, c0, c1, c2, c3, c4⟩ := chunk_at (hr.below hb) hkn hd
        have hq2 := Lib.hid (sumK_succ szChunk l k _ hd)
        have hq4 := Lib.hid (show left - n - sumK szChunk l k ≤ 1048576 by omega)
        clear hr hd
        by_cases hq3 : (szChunk (x0, x1, x2, x3, x4) : Nat) ≤ left - n - sumK szChunk l k
        · have hq5 : (0 : Int) ≤ left - n - sumK szChunk l k - (szChunk (x0, x1, x2, x3, x4) : Nat) := by omega
          have hq3h := Lib.hid hq3
          clear hq3
          go_wp2_with fail
          refine (szChunk_ok _ _ _ _ _ _ _ hq4.out hq3h.out).mono ?_
          rintro e w2 ⟨rfl, h2⟩
          have hb2 := hb.trans (h2.mono hb.size)
          clear hblt c0 c1 c2 c3 c4
          go_wp2
          go_roundw
          case rel => exact ⟨k + 1, by omega, by go_num, by rw [hq2.out]; omega, by rw [hq2.out]; go_num, (by repeat' (first | (with_reducible exact Below.refl _ _) | (with_reducible assumption) | (with_reducible refine below_drewN ?_ _) | (with_reducible refine Below.drew ?_) | (with_reducible refine Below.alloc ?_ ?_ _) | (with_reducible refine Below.setCell ?_ ?_ _) | go_size))⟩
          case measure => simp [intOf]; omega
        · have hq3h := Lib.hid (show left - n - sumK szChunk l k < (szChunk (x0, x1, x2, x3, x4) : Nat) by omega)
          have hph := Lib.hid hp
          clear hq3
          go_wp2_with fail
          refine (szChunk_big _ _ _ _ _ _ _ hph.out hq4.out HKh.out hq3h.out).mono ?_
          rintro e w2 ⟨rfl, h2⟩
          have hb2 := hb.trans (h2.mono hb.size)
          clear hblt c0 c1 c2 c3 c4
          go_wp2
          go_ret
          exact ⟨rfl, (by repeat' (first | (with_reducible exact Below.refl _ _) | (with_reducible assumption) | (with_reducible refine below_drewN ?_ _) | (with_reducible refine Below.drew ?_) | (with_reducible refine Below.alloc ?_ ?_ _) | (with_reducible refine Below.setCell ?_ ?_ _) | go_size))⟩
      · have hf : False := by
          have := HL.out; rw [sumK_all _ _ _ (by omega)] at hp; omega
        exact hf.elim
theorem infoChunk : (Tryd.prog.info? 96).map (fun i => (i.zero, i.size, i.bytes)) = some (some (.agg #[.string ⟨#[]⟩, .int .i64 0, .int .i64 0, .bool false, .int .i64 0]), 5, 48) := by kernel_rfl
theorem chunk_take (l : List ChunkD) (k : Nat) (d : ChunkD) (h : l[k]? = some d) : (l.take (k + 1)).flatMap chunkCells = (l.take k).flatMap chunkCells ++ chunkCells d := by
  rw [List.take_add_one, h]; simp
def chunkTo (l : List ChunkD) (k : Nat) : List Value := (l.take k).flatMap chunkCells
set_option maxHeartbeats 400000 in
theorem toChunkS_any (A : Option Addr) (n c : Nat) (l : List ChunkD) (w : World) (hn : n ≤ 1048576) (hl : l.length = n) (hr : Rd w 5 A n (l.flatMap chunkCells)) :
    Calls Tryd.prog 76 #[.slice A n c] w fun e w' => e = .returned (.slice (some ⟨w.heap.size, 0, none⟩) n n) ∧ Own w' w.heap.size 96 (n * 5) (l.flatMap chunkCells) ∧ Below w.heap.size w w' := by
  obtain ⟨i0, hi, hz0, hz1, hz2⟩ := info_parts infoChunk
  have hmk := fun W => run_make_rowN (P := Tryd.prog) 48 96 i0 _ Tryd.underlying48 hi hz0 .i64 .i64 n n (Nat.le_refl _) (by rw [hz2]; omega) (by omega) W
  have HL := Lib.hid hl
  rw [hz1] at hmk
  clear hi hz0 hz1 hz2 hl
  go_enter Tryd.func76, Tryd.ntmps76
  go_wp2
  clear hmk
  go_loopw [4] (fun i wr => ∃ k : Nat, k ≤ n ∧ i = .int .i64 k ∧ Own wr w.heap.size 96 (n * 5) (chunkTo l k) ∧ Below w.heap.size w wr) (fun i _ => n - (intOf i).toNat)
  case atStart => exact ⟨0, Nat.zero_le _, rfl, by unfold chunkTo; exact Own.made (size_madeCells _ _), (by repeat' (first | (with_reducible exact Below.refl _ _) | (with_reducible assumption) | (with_reducible refine below_drewN ?_ _) | (with_reducible refine Below.drew ?_) | (with_reducible refine Below.alloc ?_ ?_ _) | (with_reducible refine Below.setCell ?_ ?_ _) | go_size))⟩
  case round =>
    obtain ⟨k, hk, rfl, how, hb⟩ := hrel
    by_cases hkn : k < n
    · obtain ⟨⟨x0, x1, x2, x3, x4⟩, hd⟩ : ∃ d, l[k]? = some d := ⟨_, List.getElem?_eq_getElem (by have := HL.out; omega)⟩
      obtain ⟨b, off, rfl, hblt, c0, c1, c2, c3, c4⟩ := chunk_at (hr.below hb) hkn hd
      have HD := Lib.hid hd
      clear hr hd
      go_wp2_with fail
      refine (toChunk_any _ _ _ _ _ _).mono ?_
      rintro e w2 ⟨rfl, h2⟩
      have hb2 := hb.trans (h2.mono hb.size)
      replace how := how.next h2
      have hzz := hb2.size
      have hgg := how.lt
      obtain ⟨o0, e0⟩ := how.there (i := k * 5) (by omega)
      obtain ⟨o1, e1⟩ := how.there (i := k * 5 + 1) (by omega)
      obtain ⟨o2, e2⟩ := how.there (i := k * 5 + 2) (by omega)
      obtain ⟨o3, e3⟩ := how.there (i := k * 5 + 3) (by omega)
      obtain ⟨o4, e4⟩ := how.there (i := k * 5 + 4) (by omega)
      have hfz := how.frozen
      clear hblt c0 c1 c2 c3 c4
      go_wp2
      go_roundw
      case rel =>
        have hlen : (chunkTo l k).length = k * 5 := by
          unfold chunkTo
          rw [flat_len chunkCells chunkCells_len, List.length_take, Nat.min_eq_left (by have := HL.out; omega)]
        have hp0 := how.push (by simp [hlen]; omega) (i := k * 5) (by simp [hlen]) (.string x0)
        have hp1 := hp0.push (by simp [hlen]; omega) (i := k * 5 + 1) (by simp [hlen]) (.int .i64 x1)
        have hp2 := hp1.push (by simp [hlen]; omega) (i := k * 5 + 2) (by simp [hlen]) (.int .i64 x2)
        have hp3 := hp2.push (by simp [hlen]; omega) (i := k * 5 + 3) (by simp [hlen]) (.bool x3)
        have hp4 := hp3.push (by simp [hlen]; omega) (i := k * 5 + 4) (by simp [hlen]) (.int .i64 x4)
        have hfin : chunkTo l (k + 1) = chunkTo l k ++ chunkCells (x0, x1, x2, x3, x4) := chunk_take l k _ HD.out
        refine ⟨k + 1, by omega, by go_num, ?_, (by repeat' (first | (with_reducible exact Below.refl _ _) | (with_reducible assumption) | (with_reducible refine below_drewN ?_ _) | (with_reducible refine Below.drew ?_) | (with_reducible refine Below.alloc ?_ ?_ _) | (with_reducible refine Below.setCell ?_ ?_ _) | go_size))⟩
        rw [hfin]
        simpa [chunkCells] using hp4
      case measure => simp [intOf]; omega
    · obtain rfl : k = n := by omega
      have hfin : chunkTo l k = l.flatMap chunkCells := by unfold chunkTo; rw [List.take_of_length_le (by have := HL.out; omega)]
      rw [hfin] at how
      go_wp2
      go_ret
      exact ⟨rfl, how, hb⟩
set_option maxRecDepth 100000 in
set_option maxHeartbeats 800000 in
theorem eqChunkS_same (A B : Option Addr) (n c c' : Nat) (l : List ChunkD) (w : World) (hn : n ≤ 4194304) (hl : l.length = n) (ha : Rd w 5 A n (l.flatMap chunkCells)) (hb : Rd w 5 B n (l.flatMap chunkCells)) :
    Calls Tryd.prog 80 #[.slice A n c, .slice B n c'] w fun e w' => e = .returned (.bool true) ∧ Below w.heap.size w w' := by
  have HL := Lib.hid hl
  clear hl
  go_enter Tryd.func80, Tryd.ntmps80
  go_wp2
  go_loopw [5] (fun i wr => ∃ k : Nat, k ≤ n ∧ i = .int .i64 k ∧ Below w.heap.size w wr) (fun i _ => n - (intOf i).toNat)
  case atStart => exact ⟨0, Nat.zero_le _, rfl, Below.refl _ _⟩
  case round =>
    obtain ⟨k, hk, rfl, hbb⟩ := hrel
    by_cases hkn : k < n
    · obtain ⟨⟨x0, x1, x2, x3, x4⟩, hd⟩ : ∃ d, l[k]? = some d := ⟨_, List.getElem?_eq_getElem (by have := HL.out; omega)⟩
      obtain ⟨b, off, rfl, hblt, c0, c1, c2, c3, c4⟩ := chunk_at (ha.below hbb) hkn hd
      obtain ⟨b', off', rfl, hblt', c0b, c1b, c2b, c3b, c4b⟩ := chunk_at (hb.below hbb) hkn hd
      clear ha hb hd
      go_upto_region 6 with fail
      go_still_tail 8, (by kernel_rfl)
      change wpList _ _ _ _ _ wr.drew
      go_wp2_with fail
      refine (eqChunk_same _ _ _ _ _ _).mono ?_
      rintro e w2 ⟨rfl, h2⟩
      have hb2 : Below w.heap.size w w2 := hbb.drew.trans (h2.mono hbb.size)
      clear hblt hblt' c0 c1 c2 c3 c4 c0b c1b c2b c3b c4b
      go_wp2
      go_roundw
      case rel => exact ⟨k + 1, by omega, by go_num, (by repeat' (first | (with_reducible exact Below.refl _ _) | (with_reducible assumption) | (with_reducible refine below_drewN ?_ _) | (with_reducible refine Below.drew ?_) | (with_reducible refine Below.alloc ?_ ?_ _) | (with_reducible refine Below.setCell ?_ ?_ _) | go_size))⟩
      case measure => simp [intOf]; omega
    · obtain rfl : k = n := by omega
      go_wp2
      go_ret
      exact ⟨rfl, hbb⟩
end Go.Proofs.YtfapdhfjcnehhaaDoor

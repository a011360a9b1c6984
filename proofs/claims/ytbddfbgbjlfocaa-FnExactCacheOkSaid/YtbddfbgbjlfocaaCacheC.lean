/-
  Contracts: where a kept result stands: the reference's way and the program's.
-/
import Derived.Test.YtbddfbgbjlfocaaCacheB
namespace Go.Proofs.Ytbddfbgbjlfocaa
open Go.RowKit
set_option linter.unusedVariables false

set_option maxRecDepth 100000 in
set_option maxHeartbeats 800000 in
theorem specCacheAt_any (m h q : Int) (A : Option Addr) (n c : Nat) (l : List EntryD) (t : ByteArray) (a b : Int) (w : World) (hn : n ≤ 4194304) (hl : Hid (l.length = n)) (hr : Rd w 5 A n (l.flatMap entryCells)) :
    Calls Try.prog 57 #[.agg #[.int .i64 m, .slice A n c, .int .i64 h, .int .i64 q], .string t, .int .i64 a, .int .i64 b] w fun e w' => e = .returned (.int .i64 (firstIx (sameE t a b) l 0)) ∧ Below w.heap.size w w' := by
  have hK := Blk.new w 66 #[.int .i64 m, .slice A n c, .int .i64 h, .int .i64 q]
  have hr0 := hr.alloc (.cells #[.int .i64 m, .slice A n c, .int .i64 h, .int .i64 q] 66)
  clear hr
  go_enter Try.func57, Try.ntmps57
  go_wp2
  go_loopw [9] (fun i wr => ∃ k : Nat, k ≤ n ∧ FirstTo (sameE t a b) l k ∧ i = .int .i64 k ∧ Blk wr w.heap.size 66 #[.int .i64 m, .slice A n c, .int .i64 h, .int .i64 q] ∧ Rd wr 5 A n (l.flatMap entryCells) ∧ Below w.heap.size w wr) (fun i _ => n - (intOf i).toNat)
  case atStart => exact ⟨0, Nat.zero_le _, firstTo_zero _ _, rfl, hK, hr0, (by repeat' (first | (with_reducible exact Below.refl _ _) | (with_reducible assumption) | (with_reducible refine below_drewN ?_ _) | (with_reducible refine Below.drew ?_) | (with_reducible refine Below.alloc ?_ ?_ _) | (with_reducible refine Below.setCell ?_ ?_ _) | go_size))⟩
  case round =>
    clear hK hr0
    obtain ⟨k, hk, hft, rfl, hK, hr, hb⟩ := hrel
    have cK := hK.cell
    by_cases hkn : k < n
    · obtain ⟨⟨x0, x1, x2, x3, x4⟩, hd⟩ : ∃ d, l[k]? = some d := ⟨_, List.getElem?_eq_getElem (by have := hl.out; omega)⟩
      obtain ⟨b', off, rfl, hblt, c0, c1, c2, c3, c4⟩ := entry_at hr hkn hd
      have HR := Lib.hid hr
      clear hr
      cases hs : sameE t a b (x0, x1, x2, x3, x4) with
      | true =>
        have hst := Lib.hid (firstTo_here hft hd hs)
        have HS := Lib.hid (fun w : World => show Calls Try.prog 91 #[.agg #[.string x0, .int .i64 x1, .int .i64 x2, .string x3, .int .i64 x4], .string t, .int .i64 a, .int .i64 b] w fun e w' => e = .returned (.bool true) ∧ Below w.heap.size w w' by
          have h := l29Same_any t x0 x3 a b x1 x2 x4 w
          rwa [hs] at h)
        clear hs hd
        go_wp2_with fail
        refine (HS.out _).mono ?_
        rintro e w2 ⟨rfl, h2⟩
        have hb2 := hb.trans (h2.mono hb.size)
        go_wp2
        go_ret
        exact ⟨ret_int hst.out.symm, hb2⟩
      | false =>
        have hst := firstTo_step hft hd hs
        have HS := Lib.hid (fun w : World => show Calls Try.prog 91 #[.agg #[.string x0, .int .i64 x1, .int .i64 x2, .string x3, .int .i64 x4], .string t, .int .i64 a, .int .i64 b] w fun e w' => e = .returned (.bool false) ∧ Below w.heap.size w w' by
          have h := l29Same_any t x0 x3 a b x1 x2 x4 w
          rwa [hs] at h)
        clear hs hd
        go_wp2_with fail
        refine (HS.out _).mono ?_
        rintro e w2 ⟨rfl, h2⟩
        have hb2 := hb.trans (h2.mono hb.size)
        have hK2 := hK.next h2
        have hr2 := HR.out.next h2
        clear cK c0 c1 c2 c3 c4 hblt
        go_wp2
        go_roundw
        case rel => exact ⟨k + 1, by omega, hst, by go_num, hK2, hr2, hb2⟩
        case measure => simp [intOf]; omega
    · have hst := Lib.hid (firstTo_none hft (by have := hl.out; omega))
      clear hr
      go_wp2
      go_ret
      exact ⟨ret_int hst.out.symm, hb⟩

set_option maxHeartbeats 800000 in
theorem cacheAt1_any (t x0 x3 : ByteArray) (a b x1 x2 x4 : Int) (g1 g2 g3 : Nat) (w : World) (h1 : w.cell? ⟨g1, 0, none⟩ = some (.string t)) (h2 : w.cell? ⟨g2, 0, none⟩ = some (.int .i64 a)) (h3 : w.cell? ⟨g3, 0, none⟩ = some (.int .i64 b)) :
    Calls Try.prog 94 #[.agg #[.string x0, .int .i64 x1, .int .i64 x2, .string x3, .int .i64 x4], .pointer (some ⟨g1, 0, none⟩), .pointer (some ⟨g2, 0, none⟩), .pointer (some ⟨g3, 0, none⟩)] w fun e w' => e = .returned (.bool (sameE t a b (x0, x1, x2, x3, x4))) ∧ Below w.heap.size w w' := by
  have z1 := block_of_cell h1
  have z2 := block_of_cell h2
  have z3 := block_of_cell h3
  by_cases h0 : x0 = t
  · subst h0
    by_cases e1 : x1 = a
    · subst e1
      by_cases e2 : x2 = b
      · subst e2
        rw [show sameE x0 x1 x2 (x0, x1, x2, x3, x4) = true by simp [sameE]]
        go_enter Try.func94, Try.ntmps94
        go_wp2
        go_ret
        exact ⟨rfl, (by repeat' (first | (with_reducible exact Below.refl _ _) | (with_reducible assumption) | (with_reducible refine below_drewN ?_ _) | (with_reducible refine Below.drew ?_) | (with_reducible refine Below.alloc ?_ ?_ _) | (with_reducible refine Below.setCell ?_ ?_ _) | go_size))⟩
      · rw [show sameE x0 x1 b (x0, x1, x2, x3, x4) = false by simp [sameE, e2]]
        have e2' : (x2 == b) = false := by rw [beq_eq_false_iff_ne]; exact e2
        clear e2
        go_enter Try.func94, Try.ntmps94
        go_wp2
        go_ret
        exact ⟨rfl, (by repeat' (first | (with_reducible exact Below.refl _ _) | (with_reducible assumption) | (with_reducible refine below_drewN ?_ _) | (with_reducible refine Below.drew ?_) | (with_reducible refine Below.alloc ?_ ?_ _) | (with_reducible refine Below.setCell ?_ ?_ _) | go_size))⟩
    · rw [show sameE x0 a b (x0, x1, x2, x3, x4) = false by simp [sameE, e1]]
      have e1' : (x1 == a) = false := by rw [beq_eq_false_iff_ne]; exact e1
      clear e1
      go_enter Try.func94, Try.ntmps94
      go_wp2
      go_ret
      exact ⟨rfl, (by repeat' (first | (with_reducible exact Below.refl _ _) | (with_reducible assumption) | (with_reducible refine below_drewN ?_ _) | (with_reducible refine Below.drew ?_) | (with_reducible refine Below.alloc ?_ ?_ _) | (with_reducible refine Below.setCell ?_ ?_ _) | go_size))⟩
  · rw [show sameE t a b (x0, x1, x2, x3, x4) = false by simp [sameE, h0]]
    have h0' := str_ne h0
    clear h0
    go_enter Try.func94, Try.ntmps94
    go_wp2
    go_ret
    exact ⟨rfl, (by repeat' (first | (with_reducible exact Below.refl _ _) | (with_reducible assumption) | (with_reducible refine below_drewN ?_ _) | (with_reducible refine Below.drew ?_) | (with_reducible refine Below.alloc ?_ ?_ _) | (with_reducible refine Below.setCell ?_ ?_ _) | go_size))⟩

set_option maxRecDepth 100000 in
set_option maxHeartbeats 800000 in
theorem indexFuncAt_any (A : Option Addr) (n c : Nat) (l : List EntryD) (t : ByteArray) (a b : Int) (g1 g2 g3 : Nat) (w : World) (hn : n ≤ 4194304) (hl : Hid (l.length = n)) (hr : Rd w 5 A n (l.flatMap entryCells))
    (h1 : w.cell? ⟨g1, 0, none⟩ = some (.string t)) (h2 : w.cell? ⟨g2, 0, none⟩ = some (.int .i64 a)) (h3 : w.cell? ⟨g3, 0, none⟩ = some (.int .i64 b)) :
    Calls Try.prog 93 #[.slice A n c, .func (Fn.func 94) #[] #[.pointer (some ⟨g1, 0, none⟩), .pointer (some ⟨g2, 0, none⟩), .pointer (some ⟨g3, 0, none⟩)]] w
      fun e w' => e = .returned (.int .i64 (firstIx (sameE t a b) l 0)) ∧ Below w.heap.size w w' := by
  have HR := Lib.hid hr
  have H1 := Lib.hid h1
  have H2 := Lib.hid h2
  have H3 := Lib.hid h3
  clear hr h1 h2 h3
  go_enter Try.func93, Try.ntmps93
  go_wp2
  go_loopw [8] (fun i wr => ∃ k : Nat, k ≤ n ∧ FirstTo (sameE t a b) l k ∧ i = .int .i64 k ∧ Below w.heap.size w wr) (fun i _ => n - (intOf i).toNat)
  case atStart => exact ⟨0, Nat.zero_le _, firstTo_zero _ _, rfl, (by repeat' (first | (with_reducible exact Below.refl _ _) | (with_reducible assumption) | (with_reducible refine below_drewN ?_ _) | (with_reducible refine Below.drew ?_) | (with_reducible refine Below.alloc ?_ ?_ _) | (with_reducible refine Below.setCell ?_ ?_ _) | go_size))⟩
  case round =>
    obtain ⟨k, hk, hft, rfl, hb⟩ := hrel
    by_cases hkn : k < n
    · obtain ⟨⟨x0, x1, x2, x3, x4⟩, hd⟩ : ∃ d, l[k]? = some d := ⟨_, List.getElem?_eq_getElem (by have := hl.out; omega)⟩
      obtain ⟨b', off, rfl, hblt, c0, c1, c2, c3, c4⟩ := entry_at (HR.out.below hb) hkn hd
      have HC := Lib.hid (fun s (hs : sameE t a b (x0, x1, x2, x3, x4) = s) => show Calls Try.prog 94 #[.agg #[.string x0, .int .i64 x1, .int .i64 x2, .string x3, .int .i64 x4], .pointer (some ⟨g1, 0, none⟩), .pointer (some ⟨g2, 0, none⟩), .pointer (some ⟨g3, 0, none⟩)] wr fun e w' => e = .returned (.bool s) ∧ Below wr.heap.size wr w' by
        have h := cacheAt1_any t x0 x3 a b x1 x2 x4 g1 g2 g3 wr (((bcell hb).1 _ _ (block_of_cell H1.out)).trans H1.out) (((bcell hb).1 _ _ (block_of_cell H2.out)).trans H2.out) (((bcell hb).1 _ _ (block_of_cell H3.out)).trans H3.out)
        rwa [hs] at h)
      cases hs : sameE t a b (x0, x1, x2, x3, x4) with
      | true =>
        have hst := Lib.hid (firstTo_here hft hd hs)
        have HS := Lib.hid (HC.out _ hs)
        clear hs hd
        go_wp2_with fail
        refine HS.out.mono ?_
        rintro e w2 ⟨rfl, h2⟩
        have hb2 := hb.trans (h2.mono hb.size)
        go_wp2
        go_ret
        exact ⟨ret_int hst.out.symm, hb2⟩
      | false =>
        have hst := firstTo_step hft hd hs
        have HS := Lib.hid (HC.out _ hs)
        clear hs hd
        go_wp2_with fail
        refine HS.out.mono ?_
        rintro e w2 ⟨rfl, h2⟩
        have hb2 := hb.trans (h2.mono hb.size)
        clear c0 c1 c2 c3 c4 hblt
        go_wp2
        go_roundw
        case rel => exact ⟨k + 1, by omega, hst, by go_num, hb2⟩
        case measure => simp [intOf]; omega
    · have hst := Lib.hid (firstTo_none hft (by have := hl.out; omega))
      go_wp2
      go_ret
      exact ⟨ret_int hst.out.symm, hb⟩

set_option maxRecDepth 100000 in
set_option maxHeartbeats 800000 in
theorem implCacheAt_any (m h q : Int) (A : Option Addr) (n c : Nat) (l : List EntryD) (t : ByteArray) (a b : Int) (w : World) (hn : n ≤ 4194304) (hl : Hid (l.length = n)) (hr : Rd w 5 A n (l.flatMap entryCells)) :
    Calls Try.prog 59 #[.agg #[.int .i64 m, .slice A n c, .int .i64 h, .int .i64 q], .string t, .int .i64 a, .int .i64 b] w fun e w' => e = .returned (.int .i64 (firstIx (sameE t a b) l 0)) ∧ Below w.heap.size w w' := by
  have HR := Lib.hid hr
  have hbw := Below.refl w.heap.size w
  clear hr
  go_enter Try.func59, Try.ntmps59
  go_wp2_with fail
  refine (indexFuncAt_any A n c l t a b _ _ _ _ hn hl ((((HR.out.alloc _).alloc _).alloc _).alloc _) (by go_cell) (by go_cell) (by go_cell)).mono ?_
  rintro e w2 ⟨rfl, h2⟩
  have hb2 := below_next1 ((((hbw.alloc (by simp) _).alloc (by simp) _)).alloc (by simp; omega) _) h2
  go_wp2
  go_ret
  exact ⟨rfl, hb2⟩
end Go.Proofs.Ytbddfbgbjlfocaa

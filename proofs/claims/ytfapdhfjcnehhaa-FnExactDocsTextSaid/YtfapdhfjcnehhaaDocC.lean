
/-
  Contracts: which files are not among others.
-/
import Derived.Test.YtfapdhfjcnehhaaCacheB
import Derived.Test.YtfapdhfjcnehhaaFamDoc
namespace Go.Proofs.Ytfapdhfjcnehhaa
open Go.RowKit
set_option linter.unusedVariables false

theorem toList_ne {x t : ByteArray} (h : x ≠ t) : ¬ x.toList = t.toList := fun e => by
  rw [ByteArray.toList_eq, ByteArray.toList_eq] at e
  exact h (Go.WideShapes.bytes_inj e)
def sameD (d e : DocD) : Bool := decide (d.1 = e.1 ∧ d.2 = e.2)

set_option maxRecDepth 100000 in
set_option maxHeartbeats 800000 in
theorem indexDoc_any (A : Option Addr) (n c : Nat) (l : List DocD) (y0 y1 : ByteArray) (w : World) (hn : n ≤ 4194304) (hl : Hid (l.length = n)) (hr : Rd w 2 A n (l.flatMap docCells)) :
    Calls Try.prog 56 #[.slice A n c, .agg #[.string y0, .string y1]] w fun e w' => e = .returned (.int .i64 (firstIx (sameD (y0, y1)) l 0)) ∧ Below w.heap.size w w' := by
  have hr0 := Lib.hid (hr.alloc (.cells #[.string y0, .string y1] 58))
  have hK0 := Blk.new w 58 #[.string y0, .string y1]
  clear hr
  go_enter Try.func56, Try.ntmps56
  go_wp2
  go_loopw [8] (fun i wr => ∃ k : Nat, k ≤ n ∧ FirstTo (sameD (y0, y1)) l k ∧ i = .int .i64 k ∧ Blk wr w.heap.size 58 #[.string y0, .string y1] ∧ Hid (Rd wr 2 A n (l.flatMap docCells)) ∧ Below w.heap.size w wr) (fun i _ => n - (intOf i).toNat)
  case atStart => exact ⟨0, Nat.zero_le _, firstTo_zero _ _, rfl, hK0, hr0, (by repeat' (first | (with_reducible exact Below.refl _ _) | (with_reducible assumption) | (with_reducible refine below_drewN ?_ _) | (with_reducible refine Below.drew ?_) | (with_reducible refine Below.alloc ?_ ?_ _) | (with_reducible refine Below.setCell ?_ ?_ _) | go_size))⟩
  case round =>
    clear hK0 hr0
    obtain ⟨k, hk, hft, rfl, hK, hr, hb⟩ := hrel
    have b0 : wr.cell? ⟨w.heap.size, 0, none⟩ = some (.string y0) := hK.cell 0
    have b1 : wr.cell? ⟨w.heap.size, 1, none⟩ = some (.string y1) := hK.cell 1
    by_cases hkn : k < n
    · obtain ⟨⟨x0, x1⟩, hd⟩ : ∃ d, l[k]? = some d := ⟨_, List.getElem?_eq_getElem (by have := hl.out; omega)⟩
      obtain ⟨b', off, rfl, hblt, c0, c1⟩ := doc_at hr.out hkn hd
      have HD := Lib.hid hd
      clear hd
      by_cases h0 : y0 = x0
      · subst h0
        by_cases h1 : y1 = x1
        · subst h1
          have hst := Lib.hid (firstTo_here hft HD.out (by simp [sameD]))
          go_wp2
          go_quiet (fail)
          go_wp2
          go_ret
          exact ⟨ret_int hst.out.symm, (by repeat' (first | (with_reducible exact Below.refl _ _) | (with_reducible assumption) | (with_reducible refine below_drewN ?_ _) | (with_reducible refine Below.drew ?_) | (with_reducible refine Below.alloc ?_ ?_ _) | (with_reducible refine Below.setCell ?_ ?_ _) | go_size))⟩
        · have hst := firstTo_step hft HD.out (by simp [sameD, h1])
          have h1' := toList_ne h1
          have hr2 := Lib.hid (fun q => hr.out.drewN q)
          clear h1
          go_wp2
          go_quiet (fail)
          go_wp2
          go_roundw
          case rel => exact ⟨k + 1, by omega, hst, by go_num, hK.drewN _, hr2.out _, (by repeat' (first | (with_reducible exact Below.refl _ _) | (with_reducible assumption) | (with_reducible refine below_drewN ?_ _) | (with_reducible refine Below.drew ?_) | (with_reducible refine Below.alloc ?_ ?_ _) | (with_reducible refine Below.setCell ?_ ?_ _) | go_size))⟩
          case measure => simp [intOf]; omega
      · have hst := firstTo_step hft HD.out (by simp [sameD, h0])
        have h0' := toList_ne h0
        have hr2 := Lib.hid (fun q => hr.out.drewN q)
        clear h0
        go_wp2
        go_quiet (fail)
        go_wp2
        go_roundw
        case rel => exact ⟨k + 1, by omega, hst, by go_num, hK.drewN _, hr2.out _, (by repeat' (first | (with_reducible exact Below.refl _ _) | (with_reducible assumption) | (with_reducible refine below_drewN ?_ _) | (with_reducible refine Below.drew ?_) | (with_reducible refine Below.alloc ?_ ?_ _) | (with_reducible refine Below.setCell ?_ ?_ _) | go_size))⟩
        case measure => simp [intOf]; omega
    · have hst := Lib.hid (firstTo_none hft (by have := hl.out; omega))
      go_wp2
      go_ret
      exact ⟨ret_int hst.out.symm, hb⟩

/-- Whether a file is among them. -/
def memD (l : List DocD) (d : DocD) : Bool := decide (0 ≤ firstIx (sameD d) l 0)
set_option maxHeartbeats 400000 in
theorem containsDoc_any (A : Option Addr) (n c : Nat) (l : List DocD) (y0 y1 : ByteArray) (w : World) (hn : n ≤ 4194304) (hl : Hid (l.length = n)) (hr : Rd w 2 A n (l.flatMap docCells)) :
    Calls Try.prog 32 #[.slice A n c, .agg #[.string y0, .string y1]] w fun e w' => e = .returned (.bool (memD l (y0, y1))) ∧ Below w.heap.size w w' := by
  have hbw := Below.refl w.heap.size w
  have hm := Lib.hid (show memD l (y0, y1) = decide (0 ≤ firstIx (sameD (y0, y1)) l 0) from rfl)
  go_enter Try.func32, Try.ntmps32
  go_wp2_with fail
  refine (indexDoc_any A n c l y0 y1 _ hn hl (hr.alloc _)).mono ?_
  rintro e w2 ⟨rfl, h2⟩
  replace hbw := below_next1 hbw h2
  clear hr
  go_wp2
  go_ret
  exact ⟨ret_bool hm.out.symm, hbw⟩
end Go.Proofs.Ytfapdhfjcnehhaa

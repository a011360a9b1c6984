
/-
  Contracts: sizes, copies and equality of Split (laws.szSplit, toSplit, eqSplit) and of slices of them. Written by program (family.py).
-/
import Derived.Test.YtfapdhfjcnehhaaDoorMem
import Derived.Test.YtfapdhfjcnehhaaDoorChecked
import Derived.Outline
import Derived.Deep.Cut
namespace Go.Proofs.YtfapdhfjcnehhaaDoor
open Go.RowKit
set_option linter.unusedVariables false

abbrev SplitD := Int × Int × Bool × Int
def splitCells (d : SplitD) : List Value := [.int .i64 (d.1), .int .i64 (d.2.1), .bool (d.2.2.1), .int .i64 (d.2.2.2)]
theorem splitCells_len (d : SplitD) : (splitCells d).length = 4 := rfl
def szSplit (d : SplitD) : Nat := 0
def szSplitL (l : List SplitD) : Nat := l.length
def OkSplit (d : SplitD) : Prop := True
theorem split_at {w : World} {A : Option Addr} {n k : Nat} {l : List SplitD} {x0 : Int} {x1 : Int} {x2 : Bool} {x3 : Int} (h : Rd w 4 A n (l.flatMap splitCells)) (hk : k < n) (hd : l[k]? = some (x0, x1, x2, x3)) :
    ∃ b off, A = some ⟨b, off, none⟩ ∧ b < w.heap.size ∧ w.cell? ⟨b, off + k * 4, none⟩ = some (.int .i64 x0) ∧ w.cell? ⟨b, off + k * 4 + 1, none⟩ = some (.int .i64 x1) ∧ w.cell? ⟨b, off + k * 4 + 2, none⟩ = some (.bool x2) ∧ w.cell? ⟨b, off + k * 4 + 3, none⟩ = some (.int .i64 x3) := by
  obtain ⟨b, off, e, hb, hc⟩ := h.at_ (by omega)
  exact ⟨b, off, e, hb, hc _ _ (flat_get splitCells splitCells_len hd (j := 0) rfl), hc _ _ (flat_get splitCells splitCells_len hd (j := 1) rfl), hc _ _ (flat_get splitCells splitCells_len hd (j := 2) rfl), hc _ _ (flat_get splitCells splitCells_len hd (j := 3) rfl)⟩
set_option maxHeartbeats 400000 in
theorem toSplit_any (x0 : Int) (x1 : Int) (x2 : Bool) (x3 : Int) (w : World) :
    Calls Tryd.prog 119 #[.agg #[.int .i64 x0, .int .i64 x1, .bool x2, .int .i64 x3]] w fun e w' => e = .returned (.agg #[.int .i64 x0, .int .i64 x1, .bool x2, .int .i64 x3]) ∧ Below w.heap.size w w' := by
  go_enter Tryd.func119, Tryd.ntmps119
  go_wp2
  go_returns
  exact ⟨rfl, (by repeat' (first | (with_reducible exact Below.refl _ _) | (with_reducible assumption) | (with_reducible refine below_drewN ?_ _) | (with_reducible refine Below.drew ?_) | (with_reducible refine Below.alloc ?_ ?_ _) | (with_reducible refine Below.setCell ?_ ?_ _) | go_size))⟩
set_option maxHeartbeats 400000 in
theorem eqSplit_same (x0 : Int) (x1 : Int) (x2 : Bool) (x3 : Int) (w : World) :
    Calls Tryd.prog 120 #[.agg #[.int .i64 x0, .int .i64 x1, .bool x2, .int .i64 x3], .agg #[.int .i64 x0, .int .i64 x1, .bool x2, .int .i64 x3]] w fun e w' => e = .returned (.bool true) ∧ Below w.heap.size w w' := by
  go_enter Tryd.func120, Tryd.ntmps120
  go_wp2
  go_ret
  exact ⟨rfl, (by repeat' (first | (with_reducible exact Below.refl _ _) | (with_reducible assumption) | (with_reducible refine below_drewN ?_ _) | (with_reducible refine Below.drew ?_) | (with_reducible refine Below.alloc ?_ ?_ _) | (with_reducible refine Below.setCell ?_ ?_ _) | go_size))⟩
theorem infoSplit : (Tryd.prog.info? 94).map (fun i => (i.zero, i.size, i.bytes)) = some (some (.agg #[.int .i64 0, .int .i64 0, .bool false, .int .i64 0]), 4, 32) := by kernel_rfl
theorem split_take (l : List SplitD) (k : Nat) (d : SplitD) (h : l[k]? = some d) : (l.take (k + 1)).flatMap splitCells = (l.take k).flatMap splitCells ++ splitCells d := by
  rw [List.take_add_one, h]; simp
def splitTo (l : List SplitD) (k : Nat) : List Value := (l.take k).flatMap splitCells
end Go.Proofs.YtfapdhfjcnehhaaDoor

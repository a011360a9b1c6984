
/-
  Contracts: sizes, copies and equality of Change (laws.szChange, toChange, eqChange) and of slices of them. Written by program (family.py).
-/
import Derived.Test.YtfapdhfjcnehhaaMem
import Derived.Test.YtfapdhfjcnehhaaChecked
import Derived.Outline
import Derived.Deep.Cut
namespace Go.Proofs.Ytfapdhfjcnehhaa
open Go.RowKit
set_option linter.unusedVariables false

abbrev ChangeD := Int × Int × ByteArray
def changeCells (d : ChangeD) : List Value := [.int .i64 (d.1), .int .i64 (d.2.1), .string (d.2.2)]
theorem changeCells_len (d : ChangeD) : (changeCells d).length = 3 := rfl
def szChange (d : ChangeD) : Nat := d.2.2.size
def szChangeL (l : List ChangeD) : Nat := l.length + (l.map szChange).sum
def OkChange (d : ChangeD) : Prop := d.2.2.size ≤ maxLen
theorem change_at {w : World} {A : Option Addr} {n k : Nat} {l : List ChangeD} {x0 : Int} {x1 : Int} {x2 : ByteArray} (h : Rd w 3 A n (l.flatMap changeCells)) (hk : k < n) (hd : l[k]? = some (x0, x1, x2)) :
    ∃ b off, A = some ⟨b, off, none⟩ ∧ b < w.heap.size ∧ w.cell? ⟨b, off + k * 3, none⟩ = some (.int .i64 x0) ∧ w.cell? ⟨b, off + k * 3 + 1, none⟩ = some (.int .i64 x1) ∧ w.cell? ⟨b, off + k * 3 + 2, none⟩ = some (.string x2) := by
  obtain ⟨b, off, e, hb, hc⟩ := h.at_ (by omega)
  exact ⟨b, off, e, hb, hc _ _ (flat_get changeCells changeCells_len hd (j := 0) rfl), hc _ _ (flat_get changeCells changeCells_len hd (j := 1) rfl), hc _ _ (flat_get changeCells changeCells_len hd (j := 2) rfl)⟩
theorem change_take (l : List ChangeD) (k : Nat) (d : ChangeD) (h : l[k]? = some d) : (l.take (k + 1)).flatMap changeCells = (l.take k).flatMap changeCells ++ changeCells d := by
  rw [List.take_add_one, h]; simp
def changeTo (l : List ChangeD) (k : Nat) : List Value := (l.take k).flatMap changeCells
end Go.Proofs.Ytfapdhfjcnehhaa

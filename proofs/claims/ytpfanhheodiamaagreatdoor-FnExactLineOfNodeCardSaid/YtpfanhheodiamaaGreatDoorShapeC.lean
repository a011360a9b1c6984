
/-
  Contracts: the kinds of a node's kids fit it (impl.kindsFit). Written by program (gen_shapec.py).
-/
import Derived.Test.YtpfanhheodiamaaGreatDoorShapeB
namespace Go.Proofs.YtpfanhheodiamaaGreatDoor
open Go.RowKit
set_option linter.unusedVariables false
set_option linter.unusedSimpArgs false

def headB (p : Int → Bool) (l : List Int) : Bool := match l with | x :: _ => p x | [] => false
/-- Do kids of these kinds fit a node of a kind? -/
def kfB (kind : Int) (l : List Int) : Bool :=
  if kind = 1 ∨ kind = 2 ∨ kind = 3 ∨ kind = 19 then decide (l.length = 0)
  else if kind = 4 then l.all valueK
  else if kind = 5 then decide (1 ≤ l.length) && l.all valueK
  else if kind = 7 then decide (2 ≤ l.length) && l.all valueK
  else if kind = 8 then decide (l.length = 3) && l.all valueK
  else if kind = 6 ∨ kind = 11 ∨ kind = 13 ∨ kind = 14 then decide (l.length = 1) && l.all valueK
  else if kind = 12 ∨ kind = 15 then decide (l.length ≤ 1) && l.all valueK
  else if kind = 9 then lastB valueK l
  else if kind = 10 then decide (2 ≤ l.length) && headB valueK l && (l.drop 1).all (isK 5)
  else if kind = 16 then decide (2 ≤ l.length ∧ l.length ≤ 3) && headB valueK l && (l.drop 1).all (isK 18)
  else if kind = 17 then decide (l.length = 2) && headB valueK l && (l.drop 1).all (isK 18)
  else if kind = 18 then l.all stmtK
  else if kind = 20 then lastB (isK 18) l
  else if kind = 21 then l.all memberK
  else if kind = 22 then l.all topK
  else false
theorem nat_eq_beq (n m : Nat) : ((n : Int) == (m : Int)) = decide (n = m) := by
  by_cases h : n = m
  · rw [decide_eq_true h, h]; exact beq_self_eq_true _
  · rw [decide_eq_false h, beq_eq_false_iff_ne]; omega
end Go.Proofs.YtpfanhheodiamaaGreatDoor

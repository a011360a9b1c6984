
/-
  Contracts: how many kids, and which, a node may have, of the reference (spec.l05Count, l05Fits). Written by program (gen_shapeg.py).
-/
import Derived.Test.YtpfanhheodiamaaGreatDoorShapeF
namespace Go.Proofs.YtpfanhheodiamaaGreatDoor
open Go.RowKit
set_option linter.unusedVariables false
set_option linter.unusedSimpArgs false

def cntLo (kind : Int) : Int :=
  if kind = 5 ∨ kind = 9 ∨ kind = 20 ∨ kind = 6 ∨ kind = 11 ∨ kind = 13 ∨ kind = 14 then 1
  else if kind = 7 ∨ kind = 10 ∨ kind = 16 ∨ kind = 17 then 2
  else if kind = 8 then 3 else 0
def cntHi (kind : Int) : Int :=
  if kind = 4 ∨ kind = 18 ∨ kind = 21 ∨ kind = 22 ∨ kind = 5 ∨ kind = 9 ∨ kind = 20 ∨ kind = 7 ∨ kind = 10 then 12
  else if kind = 6 ∨ kind = 11 ∨ kind = 13 ∨ kind = 14 ∨ kind = 12 ∨ kind = 15 then 1
  else if kind = 8 ∨ kind = 16 then 3
  else if kind = 17 then 2 else 0
/-- May a node of kind y (the kid of that number) be the kid at a place of one of a kind that has n? -/
def fitB (ps : List PN) (kind : Int) (n i : Nat) (kid : Int) : Bool :=
  if kind = 9 then (if i + 1 < n then isK 1 (kindAt ps kid) else valueK (kindAt ps kid))
  else if kind = 20 then (if i + 1 < n then isK 1 (kindAt ps kid) else isK 18 (kindAt ps kid))
  else if kind = 10 then (if 0 < i then isK 5 (kindAt ps kid) && (match ps[kid.toNat]? with | some y => (match y.kids with | j :: _ => isK 1 (kindAt ps j) | [] => false) | none => false) else valueK (kindAt ps kid))
  else if kind = 16 ∨ kind = 17 then (if 0 < i then isK 18 (kindAt ps kid) else valueK (kindAt ps kid))
  else if kind = 18 then stmtK (kindAt ps kid)
  else if kind = 21 then memberK (kindAt ps kid)
  else if kind = 22 then isK 21 (kindAt ps kid) || memberK (kindAt ps kid)
  else valueK (kindAt ps kid)
set_option maxHeartbeats 1600000 in
theorem cnt_list (kind : Int) (w : World) (hk : kind = 4 ∨ kind = 18 ∨ kind = 21 ∨ kind = 22) : Calls Tryz.prog 140 #[.int .i64 kind] w fun e w' => e = .returned (.tuple #[.int .i64 0, .int .i64 12]) ∧ w = w' := by
  rcases hk with rfl | rfl | rfl | rfl
  all_goals
    go_enter Tryz.func140, Tryz.ntmps140
    go_wp2
    go_ret2
    exact ⟨rfl, rfl⟩
set_option maxHeartbeats 1600000 in
theorem cnt_call (kind : Int) (w : World) (hk : kind = 5 ∨ kind = 9 ∨ kind = 20) : Calls Tryz.prog 140 #[.int .i64 kind] w fun e w' => e = .returned (.tuple #[.int .i64 1, .int .i64 12]) ∧ w = w' := by
  rcases hk with rfl | rfl | rfl
  all_goals
    go_enter Tryz.func140, Tryz.ntmps140
    go_wp2
    go_ret2
    exact ⟨rfl, rfl⟩
set_option maxHeartbeats 1600000 in
theorem cnt_one (kind : Int) (w : World) (hk : kind = 6 ∨ kind = 11 ∨ kind = 13 ∨ kind = 14) : Calls Tryz.prog 140 #[.int .i64 kind] w fun e w' => e = .returned (.tuple #[.int .i64 1, .int .i64 1]) ∧ w = w' := by
  rcases hk with rfl | rfl | rfl | rfl
  all_goals
    go_enter Tryz.func140, Tryz.ntmps140
    go_wp2
    go_ret2
    exact ⟨rfl, rfl⟩
set_option maxHeartbeats 1600000 in
theorem cnt_chain (kind : Int) (w : World) (hk : kind = 7 ∨ kind = 10) : Calls Tryz.prog 140 #[.int .i64 kind] w fun e w' => e = .returned (.tuple #[.int .i64 2, .int .i64 12]) ∧ w = w' := by
  rcases hk with rfl | rfl
  all_goals
    go_enter Tryz.func140, Tryz.ntmps140
    go_wp2
    go_ret2
    exact ⟨rfl, rfl⟩
set_option maxHeartbeats 1600000 in
theorem cnt_pick (kind : Int) (w : World) (hk : kind = 8) : Calls Tryz.prog 140 #[.int .i64 kind] w fun e w' => e = .returned (.tuple #[.int .i64 3, .int .i64 3]) ∧ w = w' := by
  rcases hk with rfl
  all_goals
    go_enter Tryz.func140, Tryz.ntmps140
    go_wp2
    go_ret2
    exact ⟨rfl, rfl⟩
set_option maxHeartbeats 1600000 in
theorem cnt_var (kind : Int) (w : World) (hk : kind = 12 ∨ kind = 15) : Calls Tryz.prog 140 #[.int .i64 kind] w fun e w' => e = .returned (.tuple #[.int .i64 0, .int .i64 1]) ∧ w = w' := by
  rcases hk with rfl | rfl
  all_goals
    go_enter Tryz.func140, Tryz.ntmps140
    go_wp2
    go_ret2
    exact ⟨rfl, rfl⟩
set_option maxHeartbeats 1600000 in
theorem cnt_if (kind : Int) (w : World) (hk : kind = 16) : Calls Tryz.prog 140 #[.int .i64 kind] w fun e w' => e = .returned (.tuple #[.int .i64 2, .int .i64 3]) ∧ w = w' := by
  rcases hk with rfl
  all_goals
    go_enter Tryz.func140, Tryz.ntmps140
    go_wp2
    go_ret2
    exact ⟨rfl, rfl⟩
set_option maxHeartbeats 1600000 in
theorem cnt_while (kind : Int) (w : World) (hk : kind = 17) : Calls Tryz.prog 140 #[.int .i64 kind] w fun e w' => e = .returned (.tuple #[.int .i64 2, .int .i64 2]) ∧ w = w' := by
  rcases hk with rfl
  all_goals
    go_enter Tryz.func140, Tryz.ntmps140
    go_wp2
    go_ret2
    exact ⟨rfl, rfl⟩
set_option maxHeartbeats 1600000 in
theorem cnt_none (kind : Int) (w : World) (hk : kind = 1 ∨ kind = 2 ∨ kind = 3 ∨ kind = 19) : Calls Tryz.prog 140 #[.int .i64 kind] w fun e w' => e = .returned (.tuple #[.int .i64 0, .int .i64 0]) ∧ w = w' := by
  rcases hk with rfl | rfl | rfl | rfl
  all_goals
    go_enter Tryz.func140, Tryz.ntmps140
    go_wp2
    go_ret2
    exact ⟨rfl, rfl⟩
theorem l05Count_any (kind : Int) (w : World) (hk : 1 ≤ kind ∧ kind ≤ 22) : Calls Tryz.prog 140 #[.int .i64 kind] w fun e w' => e = .returned (.tuple #[.int .i64 (cntLo kind), .int .i64 (cntHi kind)]) ∧ w = w' := by
  have h2 : kind = 1 ∨ kind = 2 ∨ kind = 3 ∨ kind = 4 ∨ kind = 5 ∨ kind = 6 ∨ kind = 7 ∨ kind = 8 ∨ kind = 9 ∨ kind = 10 ∨ kind = 11 ∨ kind = 12 ∨ kind = 13 ∨ kind = 14 ∨ kind = 15 ∨ kind = 16 ∨ kind = 17 ∨ kind = 18 ∨ kind = 19 ∨ kind = 20 ∨ kind = 21 ∨ kind = 22 := by omega
  rcases h2 with rfl | rfl | rfl | rfl | rfl | rfl | rfl | rfl | rfl | rfl | rfl | rfl | rfl | rfl | rfl | rfl | rfl | rfl | rfl | rfl | rfl | rfl
  · exact cnt_none 1 w (by omega)
  · exact cnt_none 2 w (by omega)
  · exact cnt_none 3 w (by omega)
  · exact cnt_list 4 w (by omega)
  · exact cnt_call 5 w (by omega)
  · exact cnt_one 6 w (by omega)
  · exact cnt_chain 7 w (by omega)
  · exact cnt_pick 8 w (by omega)
  · exact cnt_call 9 w (by omega)
  · exact cnt_chain 10 w (by omega)
  · exact cnt_one 11 w (by omega)
  · exact cnt_var 12 w (by omega)
  · exact cnt_one 13 w (by omega)
  · exact cnt_one 14 w (by omega)
  · exact cnt_var 15 w (by omega)
  · exact cnt_if 16 w (by omega)
  · exact cnt_while 17 w (by omega)
  · exact cnt_list 18 w (by omega)
  · exact cnt_none 19 w (by omega)
  · exact cnt_call 20 w (by omega)
  · exact cnt_list 21 w (by omega)
  · exact cnt_list 22 w (by omega)
end Go.Proofs.YtpfanhheodiamaaGreatDoor

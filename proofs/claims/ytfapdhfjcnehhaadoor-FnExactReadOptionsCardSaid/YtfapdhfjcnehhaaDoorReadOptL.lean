
/-
  Options read from a text: the law.
-/
import Derived.Test.YtfapdhfjcnehhaaDoorReadOptS
import Derived.Test.YtfapdhfjcnehhaaDoorReadOptI
namespace Go.Proofs.YtfapdhfjcnehhaaDoor
open Go.RowKit
set_option linter.unusedVariables false

set_option maxHeartbeats 800000 in
theorem eqOptions_same (o : OptD) (w : World) : Calls Tryd.prog 40 #[optV o, optV o] w fun e w' => e = .returned (.bool true) ∧ Below w.heap.size w w' := by
  obtain ⟨a, b, c, d, f⟩ := o
  unfold optV optCells
  go_enter Tryd.func40, Tryd.ntmps40
  go_wp2
  go_ret
  exact ⟨rfl, (by repeat' (first | (with_reducible exact Below.refl _ _) | (with_reducible assumption) | (with_reducible refine below_drewN ?_ _) | (with_reducible refine Below.drew ?_) | (with_reducible refine Below.alloc ?_ ?_ _) | (with_reducible refine Below.setCell ?_ ?_ _) | go_size))⟩
set_option maxRecDepth 100000 in
set_option maxHeartbeats 1600000 in
theorem lawReadOptions (t : ByteArray) (w : World) (ht : t.size ≤ maxLen) (m : Int) (hm : w.cell? ⟨0, 0, none⟩ = some (.int .i64 m)) (hT : Tab w) : Calls Tryd.prog 8 #[.string t] w fun e w' => e = .returned (.bool true) ∧ Below w.heap.size w w' := by
  have hb := Below.refl w.heap.size w
  unfold maxLen at ht
  by_cases h1 : 1048576 < t.size
  · clear hm
    go_enter Tryd.func8, Tryd.ntmps8
    go_wp2
    go_ret
    exact ⟨rfl, (by repeat' (first | (with_reducible exact Below.refl _ _) | (with_reducible assumption) | (with_reducible refine below_drewN ?_ _) | (with_reducible refine Below.drew ?_) | (with_reducible refine Below.alloc ?_ ?_ _) | (with_reducible refine Below.setCell ?_ ?_ _) | go_size))⟩
  · have h2 : t.size ≤ 1048576 := by omega
    have hz0 := block_of_cell hm
    have HM := Lib.hid (fun (W : World) (h : Below w.heap.size w W) => (h.cell (p := ⟨0, 0, none⟩) hz0).trans hm)
    have HT := Lib.hid (fun (W : World) (h : Below w.heap.size w W) => (Joins.tab_stays gPow hT h (Nat.le_refl _) : Tab W))
    have HI := Lib.hid (fun W x1 x2 => implReadOptions_any t m W h2 x1 x2)
    have HP := Lib.hid (fun W => specReadOptions_any t W h2)
    generalize readOptions t = r at HI HP
    obtain ⟨o, ok⟩ := r
    clear ht h1 hm hT
    obtain ⟨a, b, c, d, f⟩ := o
    go_enter Tryd.func8, Tryd.ntmps8
    go_wp2_with fail
    refine (HP.out _).mono ?_
    rintro e w2 ⟨he, h2'⟩
    simp only [optV, optCells] at he
    subst he
    replace hb := below_next hb h2'
    clear h2'
    go_wp2_with fail
    refine (HI.out _ (HM.out _ (hb.alloc hb.size _)) (HT.out _ (hb.alloc hb.size _))).mono ?_
    rintro e w3 ⟨he, h2'⟩
    simp only [optV, optCells] at he
    subst he
    have K3 : Blk w3 w2.heap.size 32 #[.int .i64 a, .int .i64 b, .bool c, .bool d, .bool f] := Blk.fresh h2'
    replace hb := below_next1 hb h2'
    have k0 : w3.cell? ⟨w2.heap.size, 0, none⟩ = some (.int .i64 a) := K3.cell 0
    have k1 : w3.cell? ⟨w2.heap.size, 1, none⟩ = some (.int .i64 b) := K3.cell 1
    have k2 : w3.cell? ⟨w2.heap.size, 2, none⟩ = some (.bool c) := K3.cell 2
    have k3 : w3.cell? ⟨w2.heap.size, 3, none⟩ = some (.bool d) := K3.cell 3
    have k4 : w3.cell? ⟨w2.heap.size, 4, none⟩ = some (.bool f) := K3.cell 4
    have zK := K3.lt
    clear h2' K3
    go_wp2_with fail
    refine (eqOptions_same (a, b, c, d, f) _).mono ?_
    rintro e w4 ⟨rfl, h2'⟩
    replace hb := below_next1 hb h2'
    clear h2'
    go_wp2
    go_ret
    exact ⟨rfl, (by repeat' (first | (with_reducible exact Below.refl _ _) | (with_reducible assumption) | (with_reducible refine below_drewN ?_ _) | (with_reducible refine Below.drew ?_) | (with_reducible refine Below.alloc ?_ ?_ _) | (with_reducible refine Below.setCell ?_ ?_ _) | go_size))⟩
end Go.Proofs.YtfapdhfjcnehhaaDoor

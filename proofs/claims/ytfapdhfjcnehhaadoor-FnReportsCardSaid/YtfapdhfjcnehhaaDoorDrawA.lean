
/-
  Contracts: the cursor over the bytes of a draw (spec.l01New, l01Byte, l01Below, l01Once, l01Pick, l01PickInt): a number in its range, and the cursor is still one.
-/
import Derived.Test.YtfapdhfjcnehhaaDoorMemB
import Derived.Test.YtfapdhfjcnehhaaDoorChecked
import Derived.Outline
import Derived.Deep.DeepCutAuto
import Derived.Deep.CutBlock
import Derived.Deep.LoopGhost
import Derived.WalkLawsBesides
import Derived.Laws.BitsAllLaws
import Derived.Laws.BitsLemmas
namespace Go.Proofs.YtfapdhfjcnehhaaDoor
open Go.RowKit
set_option linter.unusedVariables false

theorem and_range (x : Int) (m : Nat) (hm : m < 9223372036854775808) : 0 ≤ bits .and .i64 x (m : Int) ∧ bits .and .i64 x (m : Int) ≤ m := by
  show 0 ≤ IntKind.i64.wrap ((BitVec.ofInt 64 x &&& BitVec.ofInt 64 (m : Int)).toNat : Int) ∧ IntKind.i64.wrap ((BitVec.ofInt 64 x &&& BitVec.ofInt 64 (m : Int)).toNat : Int) ≤ m
  have h1 : (BitVec.ofInt 64 x &&& BitVec.ofInt 64 (m : Int)).toNat ≤ m := by
    rw [BitVec.toNat_and]
    refine Nat.le_trans Nat.and_le_right ?_
    rw [BitVec.ofInt_natCast, BitVec.toNat_ofNat]
    exact Nat.mod_le _ _
  rw [IntKind.wrap_i64]
  omega

theorem and255 (x : Int) : 0 ≤ bits .and .i64 x 255 ∧ bits .and .i64 x 255 ≤ 255 := by have h := and_range x 255 (by omega); simpa using h
/-- Block g holds a cursor over the bytes l. -/
def Cur (w : World) (g : Nat) (l : List Int) : Prop :=
  ∃ (A : Option Addr) (n c : Nat) (i h : Int), Blk w g 134 #[.slice A n c, .int .i64 i, .int .i64 h] ∧ 0 ≤ i ∧ i ≤ n ∧ n ≤ 1048576 ∧ l.length = n ∧ Rd w 1 A n (u8cells l) ∧ (0 < n → ∀ b off, A = some ⟨b, off, none⟩ → b ≠ g)

/-- A number from 0 to m less 1, and the cursor is still one: only its block has turned. -/
def DrawN (g : Nat) (l : List Int) (w : World) (m : Int) (e : Ending) (w' : World) : Prop :=
  ∃ x : Int, e = .returned (.int .i64 x) ∧ 0 ≤ x ∧ x < m ∧ Cur w' g l ∧ w.grownBy w' (some g)

set_option maxRecDepth 100000 in
set_option maxHeartbeats 800000 in
theorem l01Byte_any (g : Nat) (l : List Int) (w : World) (hl : ∀ x ∈ l, 0 ≤ x ∧ x ≤ 255) (hcur : Cur w g l) :
    Calls Tryd.prog 96 #[.pointer (some ⟨g, 0, none⟩)] w (DrawN g l w 256) := by
  obtain ⟨A, n, c, i, h, hB, hi, hin, hn, hll, hr, hne⟩ := hcur
  have c0 := hB.cell 0
  have c1 := hB.cell 1
  have c2 := hB.cell 2
  have hf := hB.frozen
  have hlt := hB.lt
  simp only [List.getElem?_toArray, List.getElem?_cons_zero, List.getElem?_cons_succ] at c0 c1 c2
  go_enter Tryd.func96, Tryd.ntmps96
  go_upto_region 2 with fail
  go_cut [3] (fun s wx => ∃ x h' : Int, 0 ≤ x ∧ x ≤ 255 ∧ s = .int .i64 x ∧ Blk wx g 134 #[.slice A n c, .int .i64 i, .int .i64 h'] ∧ w.grownBy wx (some g))
  case first =>
    have hB2 := hB.set_ 2 (.int .i64 (wrap64 (wrap64 (h * 6364136223846793005) + 1442695040888963407)))
    go_quiet (fail)
    go_wp2
    go_meet
    case rel =>
      refine ⟨_, wrap64 (wrap64 (h * 6364136223846793005) + 1442695040888963407), (and255 _).1, (and255 _).2, rfl, ?_, grownBy_drewN (grownBy_set _ _ _ _) _⟩
      simpa using hB2.drewN _
  case rest =>
    obtain ⟨x, h', hx0, hx1, rfl, hB2, hg2⟩ := hcut
    clear c0 c1 c2 hf hB
    have c0 := hB2.cell 0
    have c1 := hB2.cell 1
    have c2 := hB2.cell 2
    have hf := hB2.frozen
    simp only [List.getElem?_toArray, List.getElem?_cons_zero, List.getElem?_cons_succ] at c0 c1 c2
    by_cases hlast : i < n
    · have d1 : decide (i < (n : Int)) = true := decide_eq_true hlast
      obtain ⟨k, rfl⟩ := Int.eq_ofNat_of_zero_le hi
      have hk : k < n := by omega
      obtain ⟨b, off, rfl, hblt, hcell⟩ := (hr.grown hg2 hne).at_ (by omega)
      have hbne := hne (by omega) b off rfl
      have hv : l[k]? = some (l[k]'(by omega)) := List.getElem?_eq_getElem (by omega)
      have hbv := hl _ (List.mem_of_getElem? hv)
      generalize (l[k]'(by omega)) = v at hv hbv
      have cb := hcell k (.int .u8 v) (by unfold u8cells; rw [List.getElem?_map, hv]; rfl)
      obtain ⟨hv0, hv1⟩ := hbv
      have hvw : IntKind.i64.wrap v = v := IntWalk.i64_in _ (by omega)
      clear hcell hv
      have hxv : IntKind.i64.wrap (x + v) = x + v := IntWalk.i64_in _ (by omega)
      have hki : (k : Int) < n := by omega
      go_wp2
      go_quiet (fail)
      go_wp2
      go_quiet (fail)
      go_wp2
      have hfin := (and255 (x + v))
      have hB3 : ∀ q, Blk ((wc.drewN q).setCell ⟨g, 1, none⟩ (.int .i64 ((k : Int) + 1))) g 134 #[.slice (some ⟨b, off, none⟩) n c, .int .i64 ((k : Int) + 1), .int .i64 h'] := fun q => by
        simpa using (hB2.drewN q).set_ 1 (.int .i64 ((k : Int) + 1))
      go_ret
      refine ⟨_, rfl, hfin.1, Int.lt_of_le_of_lt hfin.2 (by omega), ⟨some ⟨b, off, none⟩, n, c, (k : Int) + 1, h', ?_, by omega, by omega, hn, hll, ((hr.grown hg2 hne).drewN _).grown (grownBy_set _ g 1 _) hne, hne⟩, ?_⟩
      · exact hB3 _
      · exact grownBy_trans (grownBy_drewN hg2 _) (grownBy_set _ g 1 _)
    · have d1 : decide (i < (n : Int)) = false := decide_eq_false hlast
      go_wp2
      go_quiet (fail)
      go_wp2
      go_ret
      exact ⟨x, rfl, hx0, by omega, ⟨A, n, c, i, h', hB2.drewN _, hi, hin, hn, hll, (hr.grown hg2 hne).drewN _, hne⟩, grownBy_drewN hg2 _⟩

theorem bytes_hid {l : List Int} (h : ∀ x ∈ l, 0 ≤ x ∧ x ≤ 255) : Hid (∀ x ∈ l, 0 ≤ x ∧ x ≤ 255) := h
theorem grown_refl (w : World) (row : Option Nat) : w.grownBy w row := ⟨rfl, rfl, rfl, Nat.le_refl _, fun _ _ _ => rfl⟩
set_option maxHeartbeats 800000 in
theorem l01Below_small (g : Nat) (l : List Int) (n : Int) (w : World) (hl : ∀ x ∈ l, 0 ≤ x ∧ x ≤ 255) (hcur : Cur w g l) (h0 : 1 ≤ n) (h1 : n ≤ 256) :
    Calls Tryd.prog 62 #[.pointer (some ⟨g, 0, none⟩), .int .i64 n] w (DrawN g l w n) := by
  have HL := bytes_hid hl
  clear hl
  have hn0 : (n == 0) = false := by rw [beq_eq_false_iff_ne]; omega
  go_enter Tryd.func62, Tryd.ntmps62
  go_wp2_with fail
  refine (l01Byte_any g l _ HL.out hcur).mono ?_
  rintro e w2 ⟨x, rfl, hx0, hx1, hcur2, hg⟩
  have hm0 := Int.emod_nonneg x (show n ≠ 0 by omega)
  have hm1 := Int.emod_lt_of_pos x (show 0 < n by omega)
  go_wp2
  go_ret
  exact ⟨_, rfl, hm0, hm1, hcur2, hg⟩
end Go.Proofs.YtfapdhfjcnehhaaDoor

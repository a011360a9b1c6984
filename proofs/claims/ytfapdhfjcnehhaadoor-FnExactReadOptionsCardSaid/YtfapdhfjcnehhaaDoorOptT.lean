
/-
  Contracts: options as a text (spec.OptionsText, impl.OptionsText), and the law.
-/
import Derived.Test.YtfapdhfjcnehhaaDoorDec
import Derived.Test.YtfapdhfjcnehhaaDoorOptions
import Derived.Deep.DeepCutAuto
import Derived.Deep.RegionHeld3
namespace Go.Proofs.YtfapdhfjcnehhaaDoor
open Go.RowKit
set_option linter.unusedVariables false

def addIf (c : Bool) (s t : ByteArray) : ByteArray := if c then s ++ t else s
def optBase (x y : ByteArray) : ByteArray := (⟨#[119, 105, 100, 116, 104, 61]⟩ : ByteArray) ++ x ++ ⟨#[32, 98, 117, 100, 103, 101, 116, 61]⟩ ++ y
def optAll (s : ByteArray) (c d e : Bool) : ByteArray := addIf e (addIf d (addIf c s ⟨#[32, 115, 112, 97, 114, 101]⟩) ⟨#[32, 102, 111, 108, 100]⟩) ⟨#[32, 111, 114, 100, 101, 114]⟩
def optT (a b : Int) (c d e : Bool) : ByteArray := if optOk a b then optAll (optBase (decT a) (decT b)) c d e else ⟨#[]⟩
theorem optOk_b {a b : Int} (h : optOk a b = true) : 10 ≤ a ∧ a ≤ 200 ∧ 0 ≤ b ∧ b ≤ 100000 := by
  unfold optOk inB at h
  simp only [Bool.and_eq_true, decide_eq_true_eq] at h
  omega

set_option maxRecDepth 100000 in
set_option maxHeartbeats 1600000 in
theorem implOptionsText_any (a b : Int) (c d e : Bool) (w : World) (hT : Tab w) :
    Calls Tryd.prog 16 #[.agg #[.int .i64 a, .int .i64 b, .bool c, .bool d, .bool e]] w fun x w' => x = .returned (.string (optT a b c d e)) ∧ Below w.heap.size w w' := by
  cases hok : optOk a b with
  | false =>
    have HE := Lib.hid (show optT a b c d e = ⟨#[]⟩ by unfold optT; rw [hok]; rfl)
    have H8 := Lib.hid (fun W => show Calls Tryd.prog 48 #[.agg #[.int .i64 a, .int .i64 b, .bool c, .bool d, .bool e]] W fun x w' => x = .returned (.bool false) ∧ Below W.heap.size W w' from (by have h := implOptionsOk_any a b c d e W; rwa [hok] at h))
    clear hok
    go_enter Tryd.func16, Tryd.ntmps16
    go_wp2_with fail
    refine (H8.out _).mono ?_
    rintro x w1 ⟨rfl, h1⟩
    have hb := below_next1 (Below.refl _ _) h1
    go_wp2
    go_ret
    exact ⟨ret_str HE.out.symm, hb⟩
  | true =>
    obtain ⟨ha0, ha1, hb0, hb1⟩ := optOk_b hok
    have HE := Lib.hid (show optT a b c d e = optAll (optBase (decT a) (decT b)) c d e by unfold optT; rw [hok]; rfl)
    have H8 := Lib.hid (fun W => show Calls Tryd.prog 48 #[.agg #[.int .i64 a, .int .i64 b, .bool c, .bool d, .bool e]] W fun x w' => x = .returned (.bool true) ∧ Below W.heap.size W w' from (by have h := implOptionsOk_any a b c d e W; rwa [hok] at h))
    have hsa := decT_size a (by omega) (by omega)
    have hsb := decT_size b (by omega) (by omega)
    clear hok
    go_enter Tryd.func16, Tryd.ntmps16
    go_wp2_with fail
    refine (H8.out _).mono ?_
    rintro x w1 ⟨rfl, h1⟩
    have K1 := Blk.fresh h1
    have hbw := below_next1 (Below.refl _ _) h1
    have T1 := Lib.hid (hT.next1 h1)
    clear hT
    have c0 : w1.cell? ⟨w.heap.size, 0, none⟩ = some (.int .i64 a) := K1.cell 0
    have c1 : w1.cell? ⟨w.heap.size, 1, none⟩ = some (.int .i64 b) := K1.cell 1
    have z1 := K1.lt
    have HK := Lib.hid K1
    have hn0 : ¬ 9223372036854775807 < 6 + (decT a).size := by omega
    have hn1 : ¬ 9223372036854775807 < 6 + (decT a).size + 8 := by omega
    have hn2 : ¬ 9223372036854775807 < 6 + (decT a).size + 8 + (decT b).size := by omega
    clear h1 K1 H8
    go_upto_region 3 with fail
    go_cut [3] (fun s wx => s = .string (optBase (decT a) (decT b)) ∧ Hid (Blk wx w.heap.size 32 #[.int .i64 a, .int .i64 b, .bool c, .bool d, .bool e]) ∧ Below w.heap.size w wx)
    case first =>
      go_region_held3 (fun w' => w'.cell? ⟨w.heap.size, 0, none⟩ = some (.int .i64 a) ∧ w'.cell? ⟨w.heap.size, 1, none⟩ = some (.int .i64 b))
        (first | exact ⟨c0, c1⟩ | exact ⟨v0, v1⟩ | exact ⟨u0, u1⟩)
        (first
          | (go_at_call_of 45 (Value.int IntKind.i64 a); refine (implDecimal_any a _ (by omega) (by omega) (by exact T1.out)).mono ?_; rintro x w8 ⟨rfl, h8⟩
             have h8' : Below w1.heap.size w1 w8 := (by first | exact h8 | exact (Below.refl _ _).drew.trans h8)
             have u0 := ((bcell h8').1 _ _ z1).trans c0
             have u1 := ((bcell h8').1 _ _ z1).trans c1)
          | (go_at_call_of 45 (Value.int IntKind.i64 b); refine (implDecimal_any b _ (by omega) (by omega) (by exact T1.out.next h8')).mono ?_; rintro x w9 ⟨rfl, h9⟩
             have h9' := below_next h8' h9
             have v0 := ((bcell h9').1 _ _ z1).trans c0
             have v1 := ((bcell h9').1 _ _ z1).trans c1))
      all_goals (go_wp2_with fail; go_meet; exact ⟨rfl, HK.out.next h9', below_next hbw h9'⟩)
    case rest =>
      obtain ⟨rfl, HK2, hb2⟩ := hcut
      have hsz : (optBase (decT a) (decT b)).size ≤ 60 := by
        have e1 : (⟨#[119, 105, 100, 116, 104, 61]⟩ : ByteArray).size = 6 := rfl
        have e2 : (⟨#[32, 98, 117, 100, 103, 101, 116, 61]⟩ : ByteArray).size = 8 := rfl
        simp only [optBase, ByteArray.size_append]
        omega
      have b2 : wc.cell? ⟨w.heap.size, 2, none⟩ = some (.bool c) := HK2.out.cell 2
      have b3 : wc.cell? ⟨w.heap.size, 3, none⟩ = some (.bool d) := HK2.out.cell 3
      have b4 : wc.cell? ⟨w.heap.size, 4, none⟩ = some (.bool e) := HK2.out.cell 4
      have zK := HK2.out.lt
      revert HE hsz
      generalize optBase (decT a) (decT b) = S
      intro HE hsz
      clear c0 c1 HK HK2
      cases c <;> cases d <;> cases e
      all_goals
        go_wp2
        go_ret
        exact ⟨ret_str HE.out.symm, hb2⟩

set_option maxRecDepth 100000 in
set_option maxHeartbeats 1600000 in
theorem specOptionsText_any (a b : Int) (c d e : Bool) (w : World) :
    Calls Tryd.prog 14 #[.agg #[.int .i64 a, .int .i64 b, .bool c, .bool d, .bool e]] w fun x w' => x = .returned (.string (optT a b c d e)) ∧ Below w.heap.size w w' := by
  cases hok : optOk a b with
  | false =>
    have HE := Lib.hid (show optT a b c d e = ⟨#[]⟩ by unfold optT; rw [hok]; rfl)
    have H8 := Lib.hid (fun W => show Calls Tryd.prog 47 #[.agg #[.int .i64 a, .int .i64 b, .bool c, .bool d, .bool e]] W fun x w' => x = .returned (.bool false) ∧ Below W.heap.size W w' from (by have h := specOptionsOk_any a b c d e W; rwa [hok] at h))
    clear hok
    go_enter Tryd.func14, Tryd.ntmps14
    go_wp2_with fail
    refine (H8.out _).mono ?_
    rintro x w1 ⟨rfl, h1⟩
    have hb := below_next1 (Below.refl _ _) h1
    go_wp2
    go_ret
    exact ⟨ret_str HE.out.symm, hb⟩
  | true =>
    obtain ⟨ha0, ha1, hb0, hb1⟩ := optOk_b hok
    have HE := Lib.hid (show optT a b c d e = optAll (optBase (decT a) (decT b)) c d e by unfold optT; rw [hok]; rfl)
    have H8 := Lib.hid (fun W => show Calls Tryd.prog 47 #[.agg #[.int .i64 a, .int .i64 b, .bool c, .bool d, .bool e]] W fun x w' => x = .returned (.bool true) ∧ Below W.heap.size W w' from (by have h := specOptionsOk_any a b c d e W; rwa [hok] at h))
    have hsa := decT_size a (by omega) (by omega)
    have hsb := decT_size b (by omega) (by omega)
    clear hok
    go_enter Tryd.func14, Tryd.ntmps14
    go_wp2_with fail
    refine (H8.out _).mono ?_
    rintro x w1 ⟨rfl, h1⟩
    have K1 := Blk.fresh h1
    have hbw := below_next1 (Below.refl _ _) h1
    have c0 : w1.cell? ⟨w.heap.size, 0, none⟩ = some (.int .i64 a) := K1.cell 0
    have c1 : w1.cell? ⟨w.heap.size, 1, none⟩ = some (.int .i64 b) := K1.cell 1
    have z1 := K1.lt
    have HK := Lib.hid K1
    have hn0 : ¬ 9223372036854775807 < 6 + (decT a).size := by omega
    have hn1 : ¬ 9223372036854775807 < 6 + (decT a).size + 8 := by omega
    have hn2 : ¬ 9223372036854775807 < 6 + (decT a).size + 8 + (decT b).size := by omega
    clear h1 K1 H8
    go_upto_region 3 with fail
    go_cut [3] (fun s wx => s = .string (optBase (decT a) (decT b)) ∧ Hid (Blk wx w.heap.size 32 #[.int .i64 a, .int .i64 b, .bool c, .bool d, .bool e]) ∧ Below w.heap.size w wx)
    case first =>
      go_region_held3 (fun w' => w'.cell? ⟨w.heap.size, 0, none⟩ = some (.int .i64 a) ∧ w'.cell? ⟨w.heap.size, 1, none⟩ = some (.int .i64 b))
        (first | exact ⟨c0, c1⟩ | exact ⟨v0, v1⟩ | exact ⟨u0, u1⟩)
        (first
          | (go_at_call_of 34 (Value.int IntKind.i64 a); refine (specDecimal_any a _ (by omega) (by omega)).mono ?_; rintro x w8 ⟨rfl, h8⟩
             have h8' : Below w1.heap.size w1 w8 := (by first | exact h8 | exact (Below.refl _ _).drew.trans h8)
             have u0 := ((bcell h8').1 _ _ z1).trans c0
             have u1 := ((bcell h8').1 _ _ z1).trans c1)
          | (go_at_call_of 34 (Value.int IntKind.i64 b); refine (specDecimal_any b _ (by omega) (by omega)).mono ?_; rintro x w9 ⟨rfl, h9⟩
             have h9' := below_next h8' h9
             have v0 := ((bcell h9').1 _ _ z1).trans c0
             have v1 := ((bcell h9').1 _ _ z1).trans c1))
      all_goals (go_wp2_with fail; go_meet; exact ⟨rfl, HK.out.next h9', below_next hbw h9'⟩)
    case rest =>
      obtain ⟨rfl, HK2, hb2⟩ := hcut
      have hsz : (optBase (decT a) (decT b)).size ≤ 60 := by
        have e1 : (⟨#[119, 105, 100, 116, 104, 61]⟩ : ByteArray).size = 6 := rfl
        have e2 : (⟨#[32, 98, 117, 100, 103, 101, 116, 61]⟩ : ByteArray).size = 8 := rfl
        simp only [optBase, ByteArray.size_append]
        omega
      have b2 : wc.cell? ⟨w.heap.size, 2, none⟩ = some (.bool c) := HK2.out.cell 2
      have b3 : wc.cell? ⟨w.heap.size, 3, none⟩ = some (.bool d) := HK2.out.cell 3
      have b4 : wc.cell? ⟨w.heap.size, 4, none⟩ = some (.bool e) := HK2.out.cell 4
      have zK := HK2.out.lt
      revert HE hsz
      generalize optBase (decT a) (decT b) = S
      intro HE hsz
      clear c0 c1 HK HK2
      cases c <;> cases d <;> cases e
      all_goals
        go_wp2
        go_ret
        exact ⟨ret_str HE.out.symm, hb2⟩

set_option maxHeartbeats 800000 in
theorem lawOptionsText (a b : Int) (c d e : Bool) (w : World) (wa : (Lit.int .i64 a).wf = true) (wb : (Lit.int .i64 b).wf = true) (hT : Tab w) : Calls Tryd.prog 4 #[.agg #[.int .i64 a, .int .i64 b, .bool c, .bool d, .bool e]] w fun e w' => e = .returned (.bool true) ∧ Below w.heap.size w w' := by
  have hb := Below.refl w.heap.size w
  go_enter Tryd.func4, Tryd.ntmps4
  go_wp2_with fail
  refine (toOptions_any _ _ _ _ _ _).mono ?_
  rintro e w2 ⟨rfl, h2⟩
  replace hT := by first | exact hT.next h2 | exact hT.next1 h2 | exact hT.next2 h2
  have A1 := Blk.fresh h2
  replace hb := by first | exact below_next hb h2 | exact below_next1 hb h2 | exact below_next2 hb h2
  clear h2
  have cA1 := A1.cell
  have fA1 := A1.frozen
  have zA1 := A1.lt
  go_wp2_with fail
  refine (specOptionsText_any _ _ _ _ _ _).mono ?_
  rintro e w2 ⟨rfl, h2⟩
  clear cA1 fA1 zA1
  replace A1 := by first | exact A1.next h2 | exact A1.next1 h2 | exact A1.next2 h2
  replace hT := by first | exact hT.next h2 | exact hT.next1 h2 | exact hT.next2 h2
  replace hb := by first | exact below_next hb h2 | exact below_next1 hb h2 | exact below_next2 hb h2
  clear h2
  have cA1 := A1.cell
  have fA1 := A1.frozen
  have zA1 := A1.lt
  go_wp2_with fail
  refine (toOptions_any _ _ _ _ _ _).mono ?_
  rintro e w2 ⟨rfl, h2⟩
  clear cA1 fA1 zA1
  replace A1 := by first | exact A1.next h2 | exact A1.next1 h2 | exact A1.next2 h2
  replace hT := by first | exact hT.next h2 | exact hT.next1 h2 | exact hT.next2 h2
  replace hb := by first | exact below_next hb h2 | exact below_next1 hb h2 | exact below_next2 hb h2
  clear h2
  have cA1 := A1.cell
  have fA1 := A1.frozen
  have zA1 := A1.lt
  go_wp2_with fail
  refine (implOptionsText_any _ _ _ _ _ _ hT).mono ?_
  rintro e w2 ⟨rfl, h2⟩
  clear cA1 fA1 zA1
  replace A1 := by first | exact A1.next h2 | exact A1.next1 h2 | exact A1.next2 h2
  replace hb := by first | exact below_next hb h2 | exact below_next1 hb h2 | exact below_next2 hb h2
  clear h2
  have cA1 := A1.cell
  have fA1 := A1.frozen
  have zA1 := A1.lt
  go_wp2
  go_ret
  exact ⟨rfl, (by repeat' (first | (with_reducible exact Below.refl _ _) | (with_reducible assumption) | (with_reducible refine below_drewN ?_ _) | (with_reducible refine Below.drew ?_) | (with_reducible refine Below.alloc ?_ ?_ _) | (with_reducible refine Below.setCell ?_ ?_ _) | go_size))⟩
end Go.Proofs.YtfapdhfjcnehhaaDoor


/-
  Contracts: a finding as a line (spec.ShowFinding, impl.ShowFinding), and the law.
-/
import Derived.Test.YtfapdhfjcnehhaaDoorDec
import Derived.Test.YtfapdhfjcnehhaaDoorOptions
import Derived.Deep.DeepCutAuto
import Derived.Deep.RegionHeld3
import Derived.Deep.RegionWith
namespace Go.Proofs.YtfapdhfjcnehhaaDoor
open Go.RowKit
set_option linter.unusedVariables false

def findNm (k : Int) : ByteArray := if k = 1 then ⟨#[108, 111, 110, 103]⟩ else if k = 2 then ⟨#[117, 110, 117, 115, 101, 100]⟩ else if k = 3 then ⟨#[100, 101, 101, 112]⟩ else if k = 4 then ⟨#[101, 109, 112, 116, 121]⟩ else if k = 5 then ⟨#[116, 119, 105, 99, 101]⟩ else ⟨#[63]⟩
theorem findNm_size (k : Int) : (findNm k).size ≤ 6 := by
  unfold findNm
  repeat' split
  all_goals decide
def maxZ (b : Int) : Int := max b 0
def findT (k b : Int) (t : ByteArray) : ByteArray := if t.size = 0 then decT (maxZ b) ++ ⟨#[32]⟩ ++ findNm k else decT (maxZ b) ++ ⟨#[32]⟩ ++ findNm k ++ ⟨#[32]⟩ ++ t
set_option maxHeartbeats 400000 in
theorem findName_any (k : Int) (w : World) : Calls Tryd.prog 46 #[.int .i64 k] w fun e w' => e = .returned (.string (findNm k)) ∧ w = w' := by
  by_cases h1 : k = 1
  · subst h1
    go_enter Tryd.func46, Tryd.ntmps46
    go_wp2
    go_ret
    exact ⟨rfl, rfl⟩
  by_cases h2 : k = 2
  · subst h2
    go_enter Tryd.func46, Tryd.ntmps46
    go_wp2
    go_ret
    exact ⟨rfl, rfl⟩
  by_cases h3 : k = 3
  · subst h3
    go_enter Tryd.func46, Tryd.ntmps46
    go_wp2
    go_ret
    exact ⟨rfl, rfl⟩
  by_cases h4 : k = 4
  · subst h4
    go_enter Tryd.func46, Tryd.ntmps46
    go_wp2
    go_ret
    exact ⟨rfl, rfl⟩
  by_cases h5 : k = 5
  · subst h5
    go_enter Tryd.func46, Tryd.ntmps46
    go_wp2
    go_ret
    exact ⟨rfl, rfl⟩
  have e : findNm k = ⟨#[63]⟩ := by unfold findNm; rw [if_neg h1, if_neg h2, if_neg h3, if_neg h4, if_neg h5]
  rw [e]
  have b1 : (k == 1) = false := beq_eq_false_iff_ne.2 h1
  have b2 : (k == 2) = false := beq_eq_false_iff_ne.2 h2
  have b3 : (k == 3) = false := beq_eq_false_iff_ne.2 h3
  have b4 : (k == 4) = false := beq_eq_false_iff_ne.2 h4
  have b5 : (k == 5) = false := beq_eq_false_iff_ne.2 h5
  clear h1 h2 h3 h4 h5 e
  go_enter Tryd.func46, Tryd.ntmps46
  go_wp2
  go_ret
  exact ⟨rfl, rfl⟩
set_option maxRecDepth 100000 in
set_option maxHeartbeats 800000 in
theorem implShowFinding_at (k b : Int) (t D N : ByteArray) (w : World) (hsz : D.size ≤ 21) (hnz : N.size ≤ 6) (ht : t.size ≤ 1048576) (hT : Hid (Tab w))
    (HM : Hid (∀ W, Tab W → Calls Tryd.prog 45 #[.int .i64 (max b 0)] W fun e w' => e = .returned (.string D) ∧ Below W.heap.size W w')) (HF : Hid (∀ W, Calls Tryd.prog 46 #[.int .i64 k] W fun e w' => e = .returned (.string N) ∧ W = w')) :
    Calls Tryd.prog 13 #[.agg #[.int .i64 k, .int .i64 b, .string t]] w fun e w' => e = .returned (.string (if t.size = 0 then D ++ ⟨#[32]⟩ ++ N else D ++ ⟨#[32]⟩ ++ N ++ ⟨#[32]⟩ ++ t)) ∧ Below w.heap.size w w' := by
  have T1 := Lib.hid (hT.out.alloc (.cells #[.int .i64 k, .int .i64 b, .string t] 26))
  have K1 := Blk.new w 26 #[.int .i64 k, .int .i64 b, .string t]
  have c0 : (w.alloc (.cells #[.int .i64 k, .int .i64 b, .string t] 26)).cell? ⟨w.heap.size, 0, none⟩ = some (.int .i64 k) := K1.cell 0
  have c1 : (w.alloc (.cells #[.int .i64 k, .int .i64 b, .string t] 26)).cell? ⟨w.heap.size, 1, none⟩ = some (.int .i64 b) := K1.cell 1
  have HK := Lib.hid K1
  have hn1 : ¬ 9223372036854775807 < D.size + 1 := by omega
  have hn2 : ¬ 9223372036854775807 < D.size + 1 + N.size := by omega
  clear K1
  go_enter Tryd.func13, Tryd.ntmps13
  go_upto_region 1 with fail
  go_cut [3] (fun s wx => s = .string (D ++ ⟨#[32]⟩ ++ N) ∧ Hid (Blk wx w.heap.size 26 #[.int .i64 k, .int .i64 b, .string t]) ∧ Below w.heap.size w wx)
  case first =>
    go_region_held3 (fun w' => w'.cell? ⟨w.heap.size, 0, none⟩ = some (.int .i64 k) ∧ w'.cell? ⟨w.heap.size, 1, none⟩ = some (.int .i64 b))
      (first | exact ⟨c0, c1⟩ | exact ⟨u0, u1⟩)
      (first
        | (go_at_call 45; refine (HM.out _ (by exact T1.out)).mono ?_; rintro e w9 ⟨rfl, h9⟩
           have h9' : Below (w.alloc (.cells #[.int .i64 k, .int .i64 b, .string t] 26)).heap.size (w.alloc (.cells #[.int .i64 k, .int .i64 b, .string t] 26)) w9 := (by first | exact h9 | exact (Below.refl _ _).drew.trans h9)
           have u0 := ((bcell h9').1 _ _ (by simp)).trans c0
           have u1 := ((bcell h9').1 _ _ (by simp)).trans c1)
        | (go_at_call 46; refine (HF.out _).mono ?_; rintro e w9 ⟨rfl, rfl⟩))
    all_goals (go_wp2_with fail; go_meet; exact ⟨rfl, HK.out.next h9', below_next1 (Below.refl _ _) h9'⟩)
  case rest =>
    obtain ⟨rfl, HK2, hb2⟩ := hcut
    have u2 : wc.cell? ⟨w.heap.size, 2, none⟩ = some (.string t) := HK2.out.cell 2
    have zK := HK2.out.lt
    have hn3 : ¬ 9223372036854775807 < D.size + 1 + N.size + 1 := by omega
    by_cases h0 : t.size = 0
    · obtain rfl : t = ⟨#[]⟩ := ba_ext (List.eq_nil_of_length_eq_zero (by rw [ba_len]; exact h0))
      go_wp2
      go_ret
      exact ⟨rfl, hb2⟩
    · have hne := ne_nil (show 0 < t.size by omega)
      have hne2 : (!t.toList.isEmpty) = true := by rw [List.isEmpty_eq_false_iff.2 hne]; rfl
      go_wp2
      go_ret
      exact ⟨rfl, hb2⟩
theorem implShowFinding_any (k b : Int) (t : ByteArray) (w : World) (hb1 : b ≤ 9223372036854775807) (ht : t.size ≤ 1048576) (hT : Tab w) :
    Calls Tryd.prog 13 #[.agg #[.int .i64 k, .int .i64 b, .string t]] w fun e w' => e = .returned (.string (findT k b t)) ∧ Below w.heap.size w w' :=
  implShowFinding_at k b t (decT (maxZ b)) (findNm k) w (decT_size _ (by unfold maxZ; omega) (by unfold maxZ; omega)) (findNm_size k) ht hT
    (fun W x => implDecimal_any _ W (by omega) (by omega) x) (fun W => findName_any k W)

def nmCells : Array Value := #[.string ⟨#[63]⟩, .string ⟨#[108, 111, 110, 103]⟩, .string ⟨#[117, 110, 117, 115, 101, 100]⟩, .string ⟨#[100, 101, 101, 112]⟩, .string ⟨#[101, 109, 112, 116, 121]⟩, .string ⟨#[116, 119, 105, 99, 101]⟩]
theorem nm_at (k : Int) (j : Nat) (h : (inB k 1 5 = true ∧ k = j) ∨ (inB k 1 5 = false ∧ j = 0)) : nmCells[j]? = some (.string (findNm k)) := by
  rcases h with ⟨h, rfl⟩ | ⟨h, rfl⟩
  · unfold inB at h
    have h1 := of_decide_eq_true h
    match j, h1 with
    | 1, _ => rfl
    | 2, _ => rfl
    | 3, _ => rfl
    | 4, _ => rfl
    | 5, _ => rfl
    | 0, h1 => omega
    | j + 6, h1 => omega
  · unfold inB at h
    have h1 := of_decide_eq_false h
    unfold findNm
    rw [if_neg (by omega), if_neg (by omega), if_neg (by omega), if_neg (by omega), if_neg (by omega)]
    rfl
set_option maxRecDepth 100000 in
set_option maxHeartbeats 1600000 in
theorem specShowFinding_any (k b : Int) (t : ByteArray) (w : World) (hb1 : b ≤ 9223372036854775807) (ht : t.size ≤ 1048576) :
    Calls Tryd.prog 11 #[.agg #[.int .i64 k, .int .i64 b, .string t]] w fun e w' => e = .returned (.string (findT k b t)) ∧ Below w.heap.size w w' := by
  have hsz : (decT (maxZ b)).size ≤ 21 := decT_size _ (by unfold maxZ; omega) (by unfold maxZ; omega)
  have hnz := findNm_size k
  have HD := Lib.hid (fun (h : 0 < b) W => show Calls Tryd.prog 34 #[.int .i64 b] W fun e w' => e = .returned (.string (decT (maxZ b))) ∧ Below W.heap.size W w' from (by
    have h2 := specDecimal_any b W (by omega) hb1
    rwa [show maxZ b = b by unfold maxZ; omega]))
  have H0 := Lib.hid (fun (h : ¬ 0 < b) => show decT (maxZ b) = ⟨#[48]⟩ by rw [show maxZ b = (0 : Nat) by unfold maxZ; omega, decT, Lib.itoa_nonneg, Lib.decDigits_one (by omega)]; rfl)
  have HE : Hid (findT k b t = if t.size = 0 then decT (maxZ b) ++ ⟨#[32]⟩ ++ findNm k else decT (maxZ b) ++ ⟨#[32]⟩ ++ findNm k ++ ⟨#[32]⟩ ++ t) := rfl
  have HN : Hid (∀ j : Nat, (inB k 1 5 = true ∧ k = j) ∨ (inB k 1 5 = false ∧ j = 0) → nmCells[j]? = some (.string (findNm k))) := fun j => nm_at k j
  revert hsz hnz HD H0 HE HN
  generalize decT (maxZ b) = D
  generalize findNm k = N
  intro hsz hnz HD H0 HE HN
  obtain ⟨j, hj⟩ : ∃ j : Nat, (inB k 1 5 = true ∧ k = j) ∨ (inB k 1 5 = false ∧ j = 0) := by
    cases h : inB k 1 5 with
    | false => exact ⟨0, .inr ⟨rfl, rfl⟩⟩
    | true =>
      unfold inB at h
      have h1 := of_decide_eq_true h
      exact ⟨k.toNat, .inl ⟨rfl, by omega⟩⟩
  have hc := Lib.hid (HN.out j hj)
  have hj5 : j ≤ 5 := by
    rcases hj with ⟨h, rfl⟩ | ⟨_, rfl⟩
    · unfold inB at h
      have h1 := of_decide_eq_true h
      omega
    · omega
  have ij0 : (0 : Int) ≤ (j : Int) := by omega
  have ij1 : (j : Int) < 6 := by omega
  clear HN
  rcases hj with ⟨hin, rfl⟩ | ⟨hin, rfl⟩
  all_goals by_cases hb : 0 < b
  · have HD1 := Lib.hid (HD.out hb)
    clear H0 HD
    by_cases h0 : t.size = 0
    · rw [show findT (j : Int) b t = _ from HE.out, if_pos h0]
      obtain rfl : t = ⟨#[]⟩ := ba_ext (List.eq_nil_of_length_eq_zero (by rw [ba_len]; exact h0))
      go_enter Tryd.func11, Tryd.ntmps11
      go_wp2_with (first
        | (go_at_call 44; refine (l01In_b _ _ _ _).mono ?_; rintro e w1 ⟨rfl, rfl⟩)
        | (go_at_call 34; refine (HD1.out _).mono ?_; rintro e w1 ⟨rfl, h1⟩
           have K1 := Blk.fresh2 h1
           have K2 := Blk.fresh h1
           simp only [World.size_alloc] at K2
           have e2 : w1.cell? ⟨w.heap.size, 2, none⟩ = some (.string _) := K1.cell 2
           have e9 : w1.cell? ⟨w.heap.size + 1, j, none⟩ = some (.string N) := (K2.cell _).trans hc.out
           have hbb := Lib.hid (below_next2 (Below.refl _ _) h1)
           have z1 := K1.lt
           have z2 := K2.lt
           clear h1 K1 K2))
      go_ret
      exact ⟨rfl, hbb.out⟩
    · rw [show findT (j : Int) b t = _ from HE.out, if_neg h0]
      have hne := ne_nil (show 0 < t.size by omega)
      have hne2 : (!t.toList.isEmpty) = true := by rw [List.isEmpty_eq_false_iff.2 hne]; rfl
      go_enter Tryd.func11, Tryd.ntmps11
      go_wp2_with (first
        | (go_at_call 44; refine (l01In_b _ _ _ _).mono ?_; rintro e w1 ⟨rfl, rfl⟩)
        | (go_at_call 34; refine (HD1.out _).mono ?_; rintro e w1 ⟨rfl, h1⟩
           have K1 := Blk.fresh2 h1
           have K2 := Blk.fresh h1
           simp only [World.size_alloc] at K2
           have e2 : w1.cell? ⟨w.heap.size, 2, none⟩ = some (.string _) := K1.cell 2
           have e9 : w1.cell? ⟨w.heap.size + 1, j, none⟩ = some (.string N) := (K2.cell _).trans hc.out
           have hbb := Lib.hid (below_next2 (Below.refl _ _) h1)
           have z1 := K1.lt
           have z2 := K2.lt
           clear h1 K1 K2))
      go_ret
      exact ⟨rfl, hbb.out⟩
  · obtain rfl := H0.out hb
    clear H0 HD
    have e9 : ((w.alloc (.cells #[.int .i64 (j : Int), .int .i64 b, .string t] 26)).alloc (.cells nmCells 9)).cell? ⟨w.heap.size + 1, j, none⟩ = some (.string N) := (Blk.cell (by have h := Blk.new (w.alloc (.cells #[.int .i64 (j : Int), .int .i64 b, .string t] 26)) 9 nmCells; simpa only [World.size_alloc] using h) _).trans hc.out
    unfold nmCells at e9
    by_cases h0 : t.size = 0
    · rw [show findT (j : Int) b t = _ from HE.out, if_pos h0]
      obtain rfl : t = ⟨#[]⟩ := ba_ext (List.eq_nil_of_length_eq_zero (by rw [ba_len]; exact h0))
      go_enter Tryd.func11, Tryd.ntmps11
      go_wp2_with (go_at_call 44; refine (l01In_b _ _ _ _).mono ?_; rintro e w1 ⟨rfl, rfl⟩)
      go_ret
      exact ⟨rfl, (by repeat' (first | (with_reducible exact Below.refl _ _) | (with_reducible assumption) | (with_reducible refine below_drewN ?_ _) | (with_reducible refine Below.drew ?_) | (with_reducible refine Below.alloc ?_ ?_ _) | (with_reducible refine Below.setCell ?_ ?_ _) | go_size))⟩
    · rw [show findT (j : Int) b t = _ from HE.out, if_neg h0]
      have hne := ne_nil (show 0 < t.size by omega)
      have hne2 : (!t.toList.isEmpty) = true := by rw [List.isEmpty_eq_false_iff.2 hne]; rfl
      go_enter Tryd.func11, Tryd.ntmps11
      go_wp2_with (go_at_call 44; refine (l01In_b _ _ _ _).mono ?_; rintro e w1 ⟨rfl, rfl⟩)
      go_ret
      exact ⟨rfl, (by repeat' (first | (with_reducible exact Below.refl _ _) | (with_reducible assumption) | (with_reducible refine below_drewN ?_ _) | (with_reducible refine Below.drew ?_) | (with_reducible refine Below.alloc ?_ ?_ _) | (with_reducible refine Below.setCell ?_ ?_ _) | go_size))⟩
  · have HD1 := Lib.hid (HD.out hb)
    clear H0 HD
    obtain rfl : N = ⟨#[63]⟩ := by have h := hc.out; simp only [nmCells] at h; simpa using h.symm
    by_cases h0 : t.size = 0
    · rw [show findT k b t = _ from HE.out, if_pos h0]
      obtain rfl : t = ⟨#[]⟩ := ba_ext (List.eq_nil_of_length_eq_zero (by rw [ba_len]; exact h0))
      go_enter Tryd.func11, Tryd.ntmps11
      go_wp2_with (first
        | (go_at_call 44; refine (l01In_b _ _ _ _).mono ?_; rintro e w1 ⟨rfl, rfl⟩)
        | (go_at_call 34; refine (HD1.out _).mono ?_; rintro e w1 ⟨rfl, h1⟩
           have K1 := Blk.fresh2 h1
           have K2 := Blk.fresh h1
           simp only [World.size_alloc] at K2
           have e2 : w1.cell? ⟨w.heap.size, 2, none⟩ = some (.string _) := K1.cell 2
           have e9 : w1.cell? ⟨w.heap.size + 1, 0, none⟩ = some (.string ⟨#[63]⟩) := (K2.cell _).trans hc.out
           have hbb := Lib.hid (below_next2 (Below.refl _ _) h1)
           have z1 := K1.lt
           have z2 := K2.lt
           clear h1 K1 K2))
      go_ret
      exact ⟨rfl, hbb.out⟩
    · rw [show findT k b t = _ from HE.out, if_neg h0]
      have hne := ne_nil (show 0 < t.size by omega)
      have hne2 : (!t.toList.isEmpty) = true := by rw [List.isEmpty_eq_false_iff.2 hne]; rfl
      go_enter Tryd.func11, Tryd.ntmps11
      go_wp2_with (first
        | (go_at_call 44; refine (l01In_b _ _ _ _).mono ?_; rintro e w1 ⟨rfl, rfl⟩)
        | (go_at_call 34; refine (HD1.out _).mono ?_; rintro e w1 ⟨rfl, h1⟩
           have K1 := Blk.fresh2 h1
           have K2 := Blk.fresh h1
           simp only [World.size_alloc] at K2
           have e2 : w1.cell? ⟨w.heap.size, 2, none⟩ = some (.string _) := K1.cell 2
           have e9 : w1.cell? ⟨w.heap.size + 1, 0, none⟩ = some (.string ⟨#[63]⟩) := (K2.cell _).trans hc.out
           have hbb := Lib.hid (below_next2 (Below.refl _ _) h1)
           have z1 := K1.lt
           have z2 := K2.lt
           clear h1 K1 K2))
      go_ret
      exact ⟨rfl, hbb.out⟩
  · obtain rfl := H0.out hb
    clear H0 HD
    obtain rfl : N = ⟨#[63]⟩ := by have h := hc.out; simp only [nmCells] at h; simpa using h.symm
    have e9 : ((w.alloc (.cells #[.int .i64 k, .int .i64 b, .string t] 26)).alloc (.cells nmCells 9)).cell? ⟨w.heap.size + 1, 0, none⟩ = some (.string ⟨#[63]⟩) := (Blk.cell (by have h := Blk.new (w.alloc (.cells #[.int .i64 k, .int .i64 b, .string t] 26)) 9 nmCells; simpa only [World.size_alloc] using h) _).trans hc.out
    unfold nmCells at e9
    by_cases h0 : t.size = 0
    · rw [show findT k b t = _ from HE.out, if_pos h0]
      obtain rfl : t = ⟨#[]⟩ := ba_ext (List.eq_nil_of_length_eq_zero (by rw [ba_len]; exact h0))
      go_enter Tryd.func11, Tryd.ntmps11
      go_wp2_with (go_at_call 44; refine (l01In_b _ _ _ _).mono ?_; rintro e w1 ⟨rfl, rfl⟩)
      go_ret
      exact ⟨rfl, (by repeat' (first | (with_reducible exact Below.refl _ _) | (with_reducible assumption) | (with_reducible refine below_drewN ?_ _) | (with_reducible refine Below.drew ?_) | (with_reducible refine Below.alloc ?_ ?_ _) | (with_reducible refine Below.setCell ?_ ?_ _) | go_size))⟩
    · rw [show findT k b t = _ from HE.out, if_neg h0]
      have hne := ne_nil (show 0 < t.size by omega)
      have hne2 : (!t.toList.isEmpty) = true := by rw [List.isEmpty_eq_false_iff.2 hne]; rfl
      go_enter Tryd.func11, Tryd.ntmps11
      go_wp2_with (go_at_call 44; refine (l01In_b _ _ _ _).mono ?_; rintro e w1 ⟨rfl, rfl⟩)
      go_ret
      exact ⟨rfl, (by repeat' (first | (with_reducible exact Below.refl _ _) | (with_reducible assumption) | (with_reducible refine below_drewN ?_ _) | (with_reducible refine Below.drew ?_) | (with_reducible refine Below.alloc ?_ ?_ _) | (with_reducible refine Below.setCell ?_ ?_ _) | go_size))⟩
set_option maxHeartbeats 400000 in
theorem szFinding_over (a b : Int) (s : ByteArray) (w : World) (hs : s.size ≤ maxLen) (hl : 1048576 < s.size) :
    Calls Tryd.prog 10 #[.agg #[.int .i64 a, .int .i64 b, .string s], .int .i64 1048576] w fun e w' => e = .returned (.int .i64 (-1)) ∧ Below w.heap.size w w' := by
  unfold maxLen at hs
  go_enter Tryd.func10, Tryd.ntmps10
  go_wp2
  go_ret
  exact ⟨rfl, (by repeat' (first | (with_reducible exact Below.refl _ _) | (with_reducible assumption) | (with_reducible refine below_drewN ?_ _) | (with_reducible refine Below.drew ?_) | (with_reducible refine Below.alloc ?_ ?_ _) | (with_reducible refine Below.setCell ?_ ?_ _) | go_size))⟩
set_option maxHeartbeats 400000 in
theorem szFinding_fit (a b : Int) (s : ByteArray) (w : World) (hl : s.size ≤ 1048576) :
    Calls Tryd.prog 10 #[.agg #[.int .i64 a, .int .i64 b, .string s], .int .i64 1048576] w fun e w' => e = .returned (.int .i64 (1048576 - s.size)) ∧ Below w.heap.size w w' := by
  go_enter Tryd.func10, Tryd.ntmps10
  go_wp2
  go_ret
  exact ⟨rfl, (by repeat' (first | (with_reducible exact Below.refl _ _) | (with_reducible assumption) | (with_reducible refine below_drewN ?_ _) | (with_reducible refine Below.drew ?_) | (with_reducible refine Below.alloc ?_ ?_ _) | (with_reducible refine Below.setCell ?_ ?_ _) | go_size))⟩
set_option maxHeartbeats 400000 in
theorem toFinding_any (a b : Int) (s : ByteArray) (w : World) :
    Calls Tryd.prog 12 #[.agg #[.int .i64 a, .int .i64 b, .string s]] w fun e w' => e = .returned (.agg #[.int .i64 a, .int .i64 b, .string s]) ∧ Below w.heap.size w w' := by
  go_enter Tryd.func12, Tryd.ntmps12
  go_wp2
  go_returns
  exact ⟨rfl, (by repeat' (first | (with_reducible exact Below.refl _ _) | (with_reducible assumption) | (with_reducible refine below_drewN ?_ _) | (with_reducible refine Below.drew ?_) | (with_reducible refine Below.alloc ?_ ?_ _) | (with_reducible refine Below.setCell ?_ ?_ _) | go_size))⟩
set_option maxHeartbeats 800000 in
theorem lawShowFinding (a b : Int) (s : ByteArray) (w : World) (hh : s.size ≤ maxLen ∧ (Lit.int .i64 a).wf = true ∧ (Lit.int .i64 b).wf = true) (hT : Tab w) :
    Calls Tryd.prog 3 #[.agg #[.int .i64 a, .int .i64 b, .string s]] w fun e w' => e = .returned (.bool true) ∧ Below w.heap.size w w' := by
  obtain ⟨hs, _, hwb⟩ := hh
  have hB := Lib.hid ((wf_bound hwb).2)
  have hb := Below.refl w.heap.size w
  clear hwb
  by_cases hl : 1048576 < s.size
  · go_enter Tryd.func3, Tryd.ntmps3
    go_wp2_with fail
    refine (szFinding_over _ _ _ _ hs hl).mono ?_
    rintro e w2 ⟨rfl, h2⟩
    have K1 := Blk.fresh h2
    replace hb := by first | exact below_next hb h2 | exact below_next1 hb h2 | exact below_next2 hb h2
    clear h2
    have cK1 := K1.cell
    have fK1 := K1.frozen
    have zK1 := K1.lt
    go_wp2
    go_ret
    exact ⟨rfl, (by repeat' (first | (with_reducible exact Below.refl _ _) | (with_reducible assumption) | (with_reducible refine below_drewN ?_ _) | (with_reducible refine Below.drew ?_) | (with_reducible refine Below.alloc ?_ ?_ _) | (with_reducible refine Below.setCell ?_ ?_ _) | go_size))⟩
  · have hl2 : s.size ≤ 1048576 := by omega
    have hl' : (0 : Int) ≤ 1048576 - s.size := by omega
    clear hl hs
    go_enter Tryd.func3, Tryd.ntmps3
    go_wp2_with fail
    refine (szFinding_fit _ _ _ _ hl2).mono ?_
    rintro e w2 ⟨rfl, h2⟩
    replace hT := by first | exact hT.next h2 | exact hT.next1 h2 | exact hT.next2 h2
    have K1 := Blk.fresh h2
    replace hb := by first | exact below_next hb h2 | exact below_next1 hb h2 | exact below_next2 hb h2
    clear h2
    have cK1 := K1.cell
    have fK1 := K1.frozen
    have zK1 := K1.lt
    go_wp2_with fail
    refine (toFinding_any _ _ _ _).mono ?_
    rintro e w2 ⟨rfl, h2⟩
    clear cK1 fK1 zK1
    replace K1 := by first | exact K1.next h2 | exact K1.next1 h2 | exact K1.next2 h2
    replace hT := by first | exact hT.next h2 | exact hT.next1 h2 | exact hT.next2 h2
    replace hb := by first | exact below_next hb h2 | exact below_next1 hb h2 | exact below_next2 hb h2
    clear h2
    have cK1 := K1.cell
    have fK1 := K1.frozen
    have zK1 := K1.lt
    go_wp2_with fail
    refine (specShowFinding_any _ _ _ _ hB.out hl2).mono ?_
    rintro e w2 ⟨rfl, h2⟩
    clear cK1 fK1 zK1
    replace K1 := by first | exact K1.next h2 | exact K1.next1 h2 | exact K1.next2 h2
    replace hT := by first | exact hT.next h2 | exact hT.next1 h2 | exact hT.next2 h2
    replace hb := by first | exact below_next hb h2 | exact below_next1 hb h2 | exact below_next2 hb h2
    clear h2
    have cK1 := K1.cell
    have fK1 := K1.frozen
    have zK1 := K1.lt
    go_wp2_with fail
    refine (toFinding_any _ _ _ _).mono ?_
    rintro e w2 ⟨rfl, h2⟩
    clear cK1 fK1 zK1
    replace K1 := by first | exact K1.next h2 | exact K1.next1 h2 | exact K1.next2 h2
    replace hT := by first | exact hT.next h2 | exact hT.next1 h2 | exact hT.next2 h2
    replace hb := by first | exact below_next hb h2 | exact below_next1 hb h2 | exact below_next2 hb h2
    clear h2
    have cK1 := K1.cell
    have fK1 := K1.frozen
    have zK1 := K1.lt
    go_wp2_with fail
    refine (implShowFinding_any _ _ _ _ hB.out hl2 hT).mono ?_
    rintro e w2 ⟨rfl, h2⟩
    clear cK1 fK1 zK1
    replace K1 := by first | exact K1.next h2 | exact K1.next1 h2 | exact K1.next2 h2
    replace hb := by first | exact below_next hb h2 | exact below_next1 hb h2 | exact below_next2 hb h2
    clear h2
    have cK1 := K1.cell
    have fK1 := K1.frozen
    have zK1 := K1.lt
    go_wp2
    go_ret
    exact ⟨rfl, (by repeat' (first | (with_reducible exact Below.refl _ _) | (with_reducible assumption) | (with_reducible refine below_drewN ?_ _) | (with_reducible refine Below.drew ?_) | (with_reducible refine Below.alloc ?_ ?_ _) | (with_reducible refine Below.setCell ?_ ?_ _) | go_size))⟩
end Go.Proofs.YtfapdhfjcnehhaaDoor

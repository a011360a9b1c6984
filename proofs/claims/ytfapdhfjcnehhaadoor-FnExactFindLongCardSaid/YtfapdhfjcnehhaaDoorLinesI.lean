
/-
  Lines of a text: the program's way (impl.LinesOf: strings.Split, an empty last piece left out).
-/
import Derived.Test.YtfapdhfjcnehhaaDoorLines
import Derived.Test.YtfapdhfjcnehhaaDoorShelf
import Derived.Lib.SplitLaws
import Derived.Lib.IndexBytes
namespace Go.Proofs.YtfapdhfjcnehhaaDoor
open Go.RowKit
set_option linter.unusedVariables false

def nlSep : ByteArray := ⟨#[10]⟩
theorem ixB (s : ByteArray) : Lib.indexB s nlSep = Lib.indexByte s.data.toList 10 := Lib.index_one s.data.toList 10
theorem split_lines (n : Nat) : ∀ s : ByteArray, s.size ≤ n → ∃ (XS : List ByteArray) (Y : ByteArray), Lib.splitB nlSep 0 (Lib.countB s nlSep) s = XS ++ [Y] ∧ linesOf s = if Y.size = 0 then XS else XS ++ [Y] := by
  induction n with
  | zero =>
    intro s hs
    have h0 : s.data.toList = [] := List.eq_nil_of_length_eq_zero (by rw [ba_len]; omega)
    have hm : Lib.indexB s nlSep = -1 := by rw [ixB, h0]; rfl
    refine ⟨[], s, by rw [Lib.splitB_miss _ _ _ _ hm]; rfl, ?_⟩
    rw [if_pos (by omega), linesOf, h0]; rfl
  | succ n ih =>
    intro s hs
    by_cases h0 : s.size = 0
    · exact ih s (by omega)
    · have hc := lines_cut (t := s) (by omega)
      rcases ix_cases 10 s.data.toList with e | ⟨k, e, hk⟩
      · have hm : Lib.indexB s nlSep = -1 := by rw [ixB, e]
        refine ⟨[], s, by rw [Lib.splitB_miss _ _ _ _ hm]; rfl, ?_⟩
        rw [if_neg h0, hc]
        have e1 : cutLine s = s := by unfold cutLine; rw [e, if_pos (by omega)]
        have e2 : cutRest s = ⟨#[]⟩ := by unfold cutRest; rw [e, if_pos (by omega)]
        rw [e1, e2]
        rfl
      · have hm : Lib.indexB s nlSep = k := by rw [ixB, e]
        have e1 : cutLine s = s.extract 0 k := by unfold cutLine; rw [e, if_neg (by omega)]; rfl
        have e2 : cutRest s = s.extract (k + 1) s.size := by unfold cutRest; rw [e, if_neg (by omega)]; rfl
        rw [ba_len] at hk
        obtain ⟨XS, Y, h1, h2⟩ := ih (cutRest s) (by have := rest_size (t := s) (by omega); omega)
        refine ⟨cutLine s :: XS, Y, ?_, ?_⟩
        · rw [Lib.countB_hit s nlSep k (by decide) hm, Nat.add_comm, Lib.splitB_hit _ _ _ _ _ hm, Nat.add_zero, ← e1]
          rw [e2] at h1
          show _ :: Lib.splitB nlSep 0 (Lib.countB (s.extract (k + 1) s.size) nlSep) (s.extract (k + 1) s.size) = _
          rw [h1]; rfl
        · rw [hc, h2]
          by_cases hY : Y.size = 0
          · rw [if_pos hY, if_pos hY]
          · rw [if_neg hY, if_neg hY]; rfl
set_option maxRecDepth 100000 in
set_option maxHeartbeats 800000 in
theorem implLinesOf_any (t : ByteArray) (w : World) (m : Int) (ht : t.size ≤ 4194304) (hm : w.cell? ⟨0, 0, none⟩ = some (.int .i64 m)) : Calls Tryd.prog 53 #[.string t] w (StrsM w (linesOf t)) := by
  obtain ⟨XS, Y, h1, h2⟩ := split_lines t.size t (Nat.le_refl _)
  have HS := Lib.hid (Tryd.strings_Split t nlSep m w (by omega) hm (by decide))
  have hle := Lib.countB_le nlSep (by decide) t.size t (Nat.le_refl _)
  have hlen := Lib.splitB_all nlSep (by decide) 0 _ t rfl
  rw [h1] at HS hlen
  obtain ⟨N, hN⟩ : ∃ N, Lib.countB t nlSep = N := ⟨_, rfl⟩
  rw [hN] at HS hlen hle
  have hXS : XS.length = N := by simpa using hlen
  have K := Lib.hid (Blk.new w 9 ((XS ++ [Y]).map Value.string).toArray)
  have e1 : (w.alloc (.cells ((XS ++ [Y]).map Value.string).toArray 9)).cell? ⟨w.heap.size, N, none⟩ = some (.string Y) := by
    have h := K.out.cell N
    rw [h, ← hXS]; simp
  have HX := Lib.hid hXS
  obtain ⟨C, hC⟩ : ∃ C, ((XS ++ [Y]).map Value.string).toArray = C := ⟨_, rfl⟩
  rw [hC] at HS K e1
  have HC := Lib.hid hC
  have hz1 : w.heap.size < w.heap.size + 1 := by omega
  clear hXS hlen h1 hm hC
  by_cases hY : Y.size = 0
  · rw [if_pos hY] at h2
    have H2 := Lib.hid h2
    obtain rfl : Y = ⟨#[]⟩ := ba_ext (List.eq_nil_of_length_eq_zero (by rw [ba_len]; exact hY))
    clear hY h2
    go_enter Tryd.func53, Tryd.ntmps53
    go_wp2_with fail
    refine (HS.out).mono ?_
    rintro e w2 ⟨rfl, rfl⟩
    go_wp2
    go_ret
    rw [H2.out]
    have hc : (XS ++ [(⟨#[]⟩ : ByteArray)]).length = N + 1 := by simp [HX.out]
    refine ⟨some ⟨w.heap.size, 0, none⟩, N + 1, by rw [HX.out]; rfl, ?_, (by repeat' (first | (with_reducible exact Below.refl _ _) | (with_reducible assumption) | (with_reducible refine below_drewN ?_ _) | (with_reducible refine Below.drew ?_) | (with_reducible refine Below.alloc ?_ ?_ _) | (with_reducible refine Below.setCell ?_ ?_ _) | go_size))⟩
    rw [HX.out]
    refine Mine.mk_own ⟨[.string ⟨#[]⟩], ?_, ?_⟩ (by simp [strCells, HX.out]) (Nat.le_refl _) (by omega) (by unfold maxLen; omega)
    · rw [show (strCells XS ++ [Value.string ⟨#[]⟩]).toArray = C by rw [← HC.out]; simp [strCells]]; exact K.out
    · simp [strCells, HX.out]
  · rw [if_neg hY] at h2
    have H2 := Lib.hid h2
    have hne := ne_nil (show 0 < Y.size by omega)
    have hne3 : Y.toList.isEmpty = false := List.isEmpty_eq_false_iff.2 hne
    clear h2
    go_enter Tryd.func53, Tryd.ntmps53
    go_wp2_with fail
    refine (HS.out).mono ?_
    rintro e w2 ⟨rfl, rfl⟩
    go_wp2
    go_ret
    rw [H2.out]
    have hc : (XS ++ [Y]).length = N + 1 := by simp [HX.out]
    refine ⟨some ⟨w.heap.size, 0, none⟩, N + 1, by rw [hc]; rfl, ?_, (by repeat' (first | (with_reducible exact Below.refl _ _) | (with_reducible assumption) | (with_reducible refine below_drewN ?_ _) | (with_reducible refine Below.drew ?_) | (with_reducible refine Below.alloc ?_ ?_ _) | (with_reducible refine Below.setCell ?_ ?_ _) | go_size))⟩
    rw [hc]
    refine Mine.mk_own ⟨[], ?_, ?_⟩ (by simp [strCells, HX.out]) (Nat.le_refl _) (by omega) (by unfold maxLen; omega)
    · rw [show (strCells (XS ++ [Y]) ++ ([] : List Value)).toArray = C by rw [← HC.out]; simp [strCells]]; exact K.out
    · simp [strCells, HX.out]
end Go.Proofs.YtfapdhfjcnehhaaDoor

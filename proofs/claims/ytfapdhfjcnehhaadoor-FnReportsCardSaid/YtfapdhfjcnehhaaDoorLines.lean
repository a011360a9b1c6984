
/-
  Lines of a text: plain words, and the reference's way (spec.LinesOf).
-/
import Derived.Test.YtfapdhfjcnehhaaDoorMine
import Derived.Test.YtfapdhfjcnehhaaDoorChecked
import Derived.Outline
import Derived.Lib.Bytealg
namespace Go.Proofs.YtfapdhfjcnehhaaDoor
open Go.RowKit
set_option linter.unusedVariables false

/-- The lines behind 'acc', which has been read of the line that is open. -/
def linesGo (acc : List UInt8) : List UInt8 → List ByteArray
  | [] => if acc.isEmpty then [] else [⟨acc.toArray⟩]
  | c :: l => if c == 10 then ⟨acc.toArray⟩ :: linesGo [] l else linesGo (acc ++ [c]) l
def linesOf (t : ByteArray) : List ByteArray := linesGo [] t.data.toList
/-- At place k, the open line having begun at b: 'pre' are the lines before. -/
def LinesAt (t : ByteArray) (pre : List ByteArray) (b k : Nat) : Prop := linesOf t = pre ++ linesGo ((t.data.toList.take k).drop b) (t.data.toList.drop k)
theorem linesAt_zero (t : ByteArray) : LinesAt t [] 0 0 := by simp [LinesAt, linesOf]
theorem drop_cons {t : ByteArray} {k : Nat} (h : k < t.size) : t.data.toList.drop k = t[k] :: t.data.toList.drop (k + 1) := by
  rw [List.drop_eq_getElem_cons (by rw [ba_len]; exact h)]; rfl
theorem linesAt_end {t : ByteArray} {pre : List ByteArray} {b k : Nat} (h : LinesAt t pre b k) (hk : k < t.size) (hc : t[k] = 10) : LinesAt t (pre ++ [t.extract b k]) (k + 1) (k + 1) := by
  unfold LinesAt at h ⊢
  rw [h, drop_cons hk, linesGo, hc, if_pos (by decide)]
  have e : (t.data.toList.take (k + 1)).drop (k + 1) = [] := List.drop_eq_nil_of_le (by rw [List.length_take]; omega)
  rw [e, List.append_assoc, List.singleton_append]
  congr 2
  exact ba_ext (by rw [ext_list])
theorem linesAt_step {t : ByteArray} {pre : List ByteArray} {b k : Nat} (h : LinesAt t pre b k) (hb : b ≤ k) (hk : k < t.size) (hc : t[k] ≠ 10) : LinesAt t pre b (k + 1) := by
  unfold LinesAt at h ⊢
  rw [h, drop_cons hk, linesGo, if_neg (by simpa using hc)]
  congr 2
  rw [List.take_succ_eq_append_getElem (by rw [ba_len]; exact hk), List.drop_append_of_le_length (by rw [List.length_take, ba_len]; omega)]
  rfl
theorem linesAt_last {t : ByteArray} {pre : List ByteArray} {b k : Nat} (h : LinesAt t pre b k) (hk : k = t.size) (hb : b < t.size) : linesOf t = pre ++ [t.extract b t.size] := by
  unfold LinesAt at h
  subst hk
  have e2 : (t.data.toList.take t.size).drop b = (t.extract b t.size).data.toList := (ext_list t b t.size).symm
  rw [h, e2, List.drop_eq_nil_of_le (by rw [ba_len]; omega), linesGo, if_neg]
  rw [← ba_len] at hb
  rw [List.isEmpty_iff, ext_list]
  intro e
  have h3 := congrArg List.length e
  rw [List.length_drop, List.length_take, ba_len] at h3
  simp at h3
  rw [ba_len] at hb
  omega
theorem linesAt_none {t : ByteArray} {pre : List ByteArray} {b k : Nat} (h : LinesAt t pre b k) (hk : k = t.size) (hb : t.size ≤ b) : linesOf t = pre := by
  unfold LinesAt at h
  subst hk
  have e1 : (t.data.toList.take t.size).drop b = [] := List.drop_eq_nil_of_le (by rw [List.length_take, ba_len]; omega)
  rw [h, e1, List.drop_eq_nil_of_le (by rw [ba_len]; omega), linesGo]
  simp

theorem ix_cases (c : UInt8) (l : List UInt8) : Lib.indexByte l c = -1 ∨ ∃ k : Nat, Lib.indexByte l c = k ∧ k < l.length := by
  induction l with
  | nil => exact .inl rfl
  | cons b l ih =>
    rw [Lib.indexByte]
    by_cases h : (b == c) = true
    · rw [if_pos h]; exact .inr ⟨0, rfl, by simp⟩
    · rw [if_neg h]
      rcases ih with h1 | ⟨k, h1, h2⟩
      · rw [h1]; exact .inl rfl
      · rw [h1, if_neg (by rw [beq_iff_eq]; omega)]
        exact .inr ⟨k + 1, by omega, by simp; omega⟩
theorem linesGo_cut (l : List UInt8) : ∀ acc : List UInt8,
    (Lib.indexByte l 10 = -1 → linesGo acc l = if (acc ++ l).isEmpty then [] else [⟨(acc ++ l).toArray⟩]) ∧
    (∀ k : Nat, Lib.indexByte l 10 = k → linesGo acc l = ⟨(acc ++ l.take k).toArray⟩ :: linesGo [] (l.drop (k + 1))) := by
  induction l with
  | nil =>
    intro acc
    refine ⟨fun _ => by simp [linesGo], fun k h => ?_⟩
    simp [Lib.indexByte] at h
  | cons b l ih =>
    intro acc
    rw [Lib.indexByte, linesGo]
    by_cases h : (b == 10) = true
    · rw [if_pos h, if_pos h]
      refine ⟨fun e => by omega, fun k e => ?_⟩
      obtain rfl : k = 0 := by omega
      simp
    · rw [if_neg h, if_neg h]
      obtain ⟨h1, h2⟩ := ih (acc ++ [b])
      rcases ix_cases 10 l with e1 | ⟨j, e1, _⟩
      · rw [e1]
        refine ⟨fun _ => ?_, fun k e => ?_⟩
        · rw [h1 e1]; simp
        · simp at e
      · rw [e1, if_neg (by rw [beq_iff_eq]; omega)]
        refine ⟨fun e => by omega, fun k e => ?_⟩
        obtain rfl : k = j + 1 := by omega
        rw [h2 j e1]; simp
/-- The first line of a text that is not empty, and what is behind it. -/
def cutLine (t : ByteArray) : ByteArray := if Lib.indexByte t.data.toList 10 < 0 then t else t.extract 0 (Lib.indexByte t.data.toList 10).toNat
def cutRest (t : ByteArray) : ByteArray := if Lib.indexByte t.data.toList 10 < 0 then ⟨#[]⟩ else t.extract ((Lib.indexByte t.data.toList 10).toNat + 1) t.size
theorem lines_cut {t : ByteArray} (h : 0 < t.size) : linesOf t = cutLine t :: linesOf (cutRest t) := by
  unfold linesOf cutLine cutRest
  obtain ⟨h1, h2⟩ := linesGo_cut t.data.toList []
  rcases ix_cases 10 t.data.toList with e | ⟨k, e, hk⟩
  · rw [h1 e, e, if_neg, if_pos (by omega), if_pos (by omega)]
    · simp [linesGo]
    · rw [List.nil_append, List.isEmpty_iff]
      intro e2
      have h3 := ba_len t
      rw [e2] at h3
      simp at h3
      omega
  · rw [h2 k e, e, if_neg (by omega), if_neg (by omega)]
    rw [ba_len] at hk
    congr 1
    · exact ba_ext (by rw [ext_list]; simp)
    · congr 1
      rw [ext_list, Int.toNat_natCast, List.take_of_length_le (by rw [ba_len]; exact Nat.le_refl _)]
theorem rest_size {t : ByteArray} (h : 0 < t.size) : (cutRest t).size < t.size := by
  unfold cutRest
  split
  · exact h
  · rw [ByteArray.size_extract]; omega
theorem line_size (t : ByteArray) : (cutLine t).size ≤ t.size := by
  unfold cutLine
  split
  · exact Nat.le_refl _
  · rw [ByteArray.size_extract]; omega

/-- All lines with their ends are not longer than the text and one end. -/
theorem linesGo_size (l : List UInt8) : ∀ acc : List UInt8, ((linesGo acc l).map (fun s : ByteArray => s.size + 1)).sum ≤ acc.length + l.length + 1 := by
  induction l with
  | nil =>
    intro acc
    rw [linesGo]
    split
    · simp
    · simp [size_mk]
  | cons c l ih =>
    intro acc
    rw [linesGo]
    split
    · have := ih []
      simp only [List.map_cons, List.sum_cons, size_mk, List.length_cons, List.length_nil] at this ⊢
      omega
    · have := ih (acc ++ [c])
      simp only [List.length_append, List.length_cons, List.length_nil] at this ⊢
      omega
def lineSz (s : ByteArray) : Nat := s.size + 1
theorem lines_size (t : ByteArray) : ((linesOf t).map lineSz).sum ≤ t.size + 1 := by
  have h := linesGo_size t.data.toList []
  rw [ba_len] at h
  have e : lineSz = fun s : ByteArray => s.size + 1 := rfl
  rw [e]
  simpa [linesOf] using h
theorem sum_len (ls : List ByteArray) : ls.length ≤ (ls.map lineSz).sum := by
  induction ls with
  | nil => simp
  | cons a l ih => simp only [List.map_cons, List.sum_cons, List.length_cons, lineSz] at ih ⊢; omega
theorem lines_len (t : ByteArray) : (linesOf t).length ≤ t.size + 1 := Nat.le_trans (sum_len _) (lines_size t)

theorem infoStr : (Tryd.prog.info? 9).map (fun i => (i.zero, i.size, i.bytes)) = some (some (.string ⟨#[]⟩), 1, 16) := by kernel_rfl
theorem cell_one_new (w : World) (u : Value) (t : TypeId) : ∀ j v, [u][j]? = some v → (w.alloc (.cells #[u] t)).cell? ((⟨w.heap.size, 0, none⟩ : Addr).add j) = some v := by
  intro j v hj
  match j, hj with
  | 0, hj =>
    obtain rfl := Option.some.inj hj
    exact (Blk.new w t #[u]).cell 0
  | j + 1, hj => simp at hj
/-- A list of texts in a block of the call's own, or nothing. -/
def StrsP (w : World) (ss : List ByteArray) (e : Ending) (w' : World) : Prop :=
  ∃ v : Value, e = .returned v ∧ w'.ownsRow w.heap.size 9 1 v ss.length (strCells ss) ∧ Below w.heap.size w w'
theorem ownsRow_congr {w : World} {B : Nat} {e : TypeId} {s : Nat} {v : Value} {n n' : Nat} {xs xs' : List Value} (h : w.ownsRow B e s v n xs) (h1 : n = n') (h2 : xs = xs') : w.ownsRow B e s v n' xs' := by subst h1; subst h2; exact h
theorem ownsRow_below {w w' : World} {B : Nat} {e : TypeId} {s : Nat} {v : Value} {n : Nat} {xs : List Value} (h : w.ownsRow B e s v n xs) (hb : Below w.heap.size w w') : w'.ownsRow B e s v n xs := by
  obtain ⟨A, c, rfl, hm⟩ := Mine.of h
  exact hm.next hb
theorem block_of_own {w : World} {B : Nat} {e : TypeId} {s : Nat} {v : Value} {n : Nat} {xs : List Value} (h : w.ownsRow B e s v n xs) {g : Nat} (hg : v.ownBlock = some g) : B ≤ g := by
  rcases h.2 with ⟨rfl, _⟩ | ⟨g', cap, cur, rfl, hg', _⟩
  · simp [Value.ownBlock] at hg
  · simp [Value.ownBlock] at hg; omega
/-- Texts in a slice of the call's own, or nil. -/
def StrsM (w : World) (ss : List ByteArray) (e : Ending) (w' : World) : Prop :=
  ∃ (A : Option Addr) (c : Nat), e = .returned (.slice A ss.length c) ∧ Mine w' w.heap.size 9 1 A ss.length c (strCells ss) ∧ Below w.heap.size w w'
theorem strsM_of {w : World} {ss : List ByteArray} {e : Ending} {w' : World} (h : StrsP w ss e w') : StrsM w ss e w' := by
  obtain ⟨v, rfl, ho, hb⟩ := h
  obtain ⟨A, c, rfl, hm⟩ := Mine.of ho
  exact ⟨A, c, rfl, hm, hb⟩
theorem byte_is {c : UInt8} {n : Nat} (hn : n < 256) (h : c = UInt8.ofNat n) : ((c.toNat : Int) == (n : Int)) = true := by
  rw [h, beq_iff_eq]; simp; omega
theorem byte_not {c : UInt8} {n : Nat} (hn : n < 256) (h : c ≠ UInt8.ofNat n) : ((c.toNat : Int) == (n : Int)) = false := by
  rw [beq_eq_false_iff_ne]
  intro e
  refine h (UInt8.toNat_inj.1 ?_)
  simp
  omega

set_option maxRecDepth 100000 in
set_option maxHeartbeats 1600000 in
theorem specLinesOf_any (t : ByteArray) (w : World) (ht : t.size ≤ 4194304) : Calls Tryd.prog 29 #[.string t] w (StrsP w (linesOf t)) := by
  obtain ⟨i0, hi, hz0, hz1, hz2⟩ := info_parts infoStr
  have HI := Lib.hid (And.intro hi (And.intro hz0 (And.intro hz1 hz2)))
  clear hi hz0 hz1 hz2
  go_enter Tryd.func29, Tryd.ntmps29
  go_wp2
  go_loopw [3, 4, 5] (fun o bb i wr => ∃ (pre : List ByteArray) (b k : Nat), k ≤ t.size ∧ b ≤ k ∧ pre.length ≤ b ∧ Hid (LinesAt t pre b k) ∧ bb = .int .i64 b ∧ i = .int .i64 k ∧ Hid (wr.ownsRow w.heap.size 9 1 o pre.length (strCells pre)) ∧ Below w.heap.size w wr) (fun _ _ i _ => t.size - (intOf i).toNat)
  case atStart => exact ⟨[], 0, 0, Nat.zero_le _, Nat.le_refl _, Nat.le_refl _, linesAt_zero t, rfl, rfl, own_empty w _ 1, (by repeat' (first | (with_reducible exact Below.refl _ _) | (with_reducible assumption) | (with_reducible refine below_drewN ?_ _) | (with_reducible refine Below.drew ?_) | (with_reducible refine Below.alloc ?_ ?_ _) | (with_reducible refine Below.setCell ?_ ?_ _) | go_size))⟩
  case round =>
    obtain ⟨pre, b, k, hk, hbk, hpl, hat, rfl, rfl, HO, hb⟩ := hrel
    by_cases hkn : k < t.size
    · by_cases hc : t[k] = 10
      · have hst := Lib.hid (linesAt_end hat.out hkn hc)
        have d1 := byte_is (n := 10) (by omega) hc
        clear hc
        go_wp2_with (at_builtin; (refine wpList_append_own _ rfl (.tmp 17) (.tmp 22) _ rfl w.heap.size 9 i0 (.string ⟨#[]⟩) 1 16 Tryd.underlying55 HI.out.1 HI.out.2.1 HI.out.2.2.1 HI.out.2.2.2 rfl (by decide) _ _ _ rfl (HO.out.alloc _) ⟨wr.heap.size, 0, none⟩ 1 1 [.string (t.extract b k)] rfl rfl (cell_one_new _ _ _) (fun x hx => by simp at hx; subst hx; rfl) (by unfold maxLen; omega) (by omega) (by have := hb.size; simp; omega) ?_); intro v' w3 hown3 hg3 hnil3)
        have hb3 := hb.alloc hb.size (.cells #[.string (t.extract b k)] 9)
        have hb4 : Below w.heap.size w w3 := hb3.grown hg3 hb3.size (fun g hg => block_of_own HO.out hg)
        go_wp2
        go_roundw
        case rel => exact ⟨pre ++ [t.extract b k], k + 1, k + 1, by omega, by omega, by simp; omega, hst.out, by go_num, by go_num, ownsRow_congr hown3 (by simp) (by simp [strCells]), hb4⟩
        case measure => simp [intOf]; omega
      · have hst := Lib.hid (linesAt_step hat.out hbk hkn hc)
        have d1 := byte_not (n := 10) (by omega) hc
        clear hc
        go_wp2
        go_roundw
        case rel => exact ⟨pre, b, k + 1, by omega, by omega, hpl, hst.out, rfl, by go_num, HO.out, hb⟩
        case measure => simp [intOf]; omega
    · obtain rfl : k = t.size := by omega
      by_cases hbl : b < t.size
      · have hst := Lib.hid (linesAt_last hat.out rfl hbl)
        go_wp2_with (at_builtin; (refine wpList_append_own _ rfl (.tmp 30) (.tmp 34) _ rfl w.heap.size 9 i0 (.string ⟨#[]⟩) 1 16 Tryd.underlying55 HI.out.1 HI.out.2.1 HI.out.2.2.1 HI.out.2.2.2 rfl (by decide) _ _ _ rfl (HO.out.alloc _) ⟨wr.heap.size, 0, none⟩ 1 1 [.string (t.extract b t.size)] rfl rfl (cell_one_new _ _ _) (fun x hx => by simp at hx; subst hx; rfl) (by unfold maxLen; omega) (by omega) (by have := hb.size; simp; omega) ?_); intro v' w3 hown3 hg3 hnil3)
        have hb3 := hb.alloc hb.size (.cells #[.string (t.extract b t.size)] 9)
        have hb4 : Below w.heap.size w w3 := hb3.grown hg3 hb3.size (fun g hg => block_of_own HO.out hg)
        go_wp2
        go_ret
        exact ⟨_, rfl, by rw [hst.out]; exact ownsRow_congr hown3 (by simp) (by simp [strCells]), hb4⟩
      · have hst := Lib.hid (linesAt_none hat.out rfl (by omega))
        go_wp2
        go_ret
        exact ⟨_, rfl, by rw [hst.out]; exact HO.out, hb⟩
end Go.Proofs.YtfapdhfjcnehhaaDoor


/-
  Contracts: what a cache's list is kept by (slices.Clone, DeleteFunc, Delete at Entry; the closure).
-/
import Derived.Test.YtfapdhfjcnehhaaCacheC
import Derived.Test.YtfapdhfjcnehhaaMine
import Derived.Test.YtfapdhfjcnehhaaMarkP
import Derived.Lib.SliceRun
import Derived.Laws.IdiomCopy
namespace Go.Proofs.Ytfapdhfjcnehhaa
open Go.RowKit
set_option linter.unusedVariables false

theorem infoEntryI : (Try.prog.info? 47).map (fun i => (i.zero, i.size, i.bytes)) = some (some (.agg #[.string ⟨#[]⟩, .int .i64 0, .int .i64 0, .string ⟨#[]⟩, .int .i64 0]), 5, 56) := by kernel_rfl
theorem zeroEntry (w : World) : (zeroValue 47).run Try.prog w = .ok (.agg #[.string ⟨#[]⟩, .int .i64 0, .int .i64 0, .string ⟨#[]⟩, .int .i64 0]) w := by
  simp [zeroValue]
  rfl

/-- 'clear(s)' where the elements have any cells. -/
theorem run_clear_cells {P : Program} (w : World) (t e ty : TypeId) (z : Value) (ht : P.underlying t = some (.slice e)) (hv : ∀ w, (zeroValue e).run P w = .ok z w) (h1 : ∀ v ∈ z.cells, v.oneCell' = true) (hz0 : 0 < z.cells.size) (b o n c : Nat) (hn : 0 < n)
    (hc : ∀ j, j < n * z.cells.size → (w.cell? ⟨b, o + j, none⟩).isSome = true) (hf : ∀ j, j < n * z.cells.size → w.frozen? ⟨b, o + j, none⟩ = false) :
    (Builtin.clear_ #[t] ty #[.slice (some ⟨b, o, none⟩) n c]).run P w = .ok (.tuple #[]) (w.setCells b o (Builtin.zeroCells z.cells n).toList) := by
  have hlen : (Builtin.zeroCells z.cells n).toList.length = n * z.cells.size := by simp [Builtin.zeroCells]
  have hst := run_storeCells_cells (P := P) b o (Builtin.zeroCells z.cells n).toList 0 w (by rw [hlen]; simpa using hc) (by rw [hlen]; simpa using hf) (by
    intro v hv'
    simp only [Builtin.zeroCells, Array.toList_map, List.mem_map] at hv'
    obtain ⟨i, _, rfl⟩ := hv'
    have hlt : i % z.cells.size < z.cells.size := Nat.mod_lt _ hz0
    rw [getElem!_pos z.cells _ hlt]
    exact h1 _ (Array.getElem_mem hlt))
  simp only [Nat.add_zero] at hst
  obtain ⟨m, rfl⟩ : ∃ m, n = m + 1 := ⟨n - 1, by omega⟩
  simp [Builtin.clear_, run_underlying ht, hv, hst]

section
variable {w w' : World} {g : Nat} {t : TypeId} {cap : Nat} {xs : List Value}
theorem Own.cut (h : Own w g t cap xs) (k : Nat) : Own w g t cap (xs.take k) := by
  obtain ⟨rest, hb, hs⟩ := h
  exact ⟨xs.drop k ++ rest, by rw [← List.append_assoc, List.take_append_drop]; exact hb, by rw [← List.append_assoc, List.take_append_drop]; exact hs⟩
theorem Own.past (h : Own w g t cap xs) {i : Nat} (hi : xs.length ≤ i) (u : Value) : Own (w.setCell ⟨g, i, none⟩ u) g t cap xs := by
  obtain ⟨rest, hb, hs⟩ := h
  refine ⟨rest.set (i - xs.length) u, ?_, by simpa using hs⟩
  have h2 := hb.set_ i u
  have e : ((xs ++ rest).toArray).setIfInBounds i u = (xs ++ rest.set (i - xs.length) u).toArray := by
    simp [List.set_append_right _ _ hi]
  rwa [e] at h2
theorem Own.pastAll (us : List Value) : ∀ {w : World} (h : Own w g t cap xs) {i : Nat} (hi : xs.length ≤ i), Own (w.setCells g i us) g t cap xs := by
  induction us with
  | nil => intro w h i hi; exact h
  | cons u us ih => intro w h i hi; exact ih (h.past hi u) (Nat.le_succ_of_le hi)
theorem Own.setAll (us : List Value) : ∀ {w : World} {xs : List Value} (h : Own w g t cap xs) {i : Nat} (hi : i + us.length ≤ xs.length), Own (w.setCells g i us) g t cap (setRow xs i us) := by
  induction us with
  | nil => intro w xs h i hi; exact h
  | cons u us ih => intro w xs h i hi; simp only [List.length_cons] at hi; exact ih (h.set (by omega) u) (by rw [List.length_set]; omega)
theorem grow_sets (us : List Value) : ∀ {a w : World} {i : Nat} (h : a.grownBy w (some g)), a.grownBy (w.setCells g i us) (some g) := by
  induction us with
  | nil => intro a w i h; exact h
  | cons u us ih => intro a w i h; exact ih (grow_set h i u)
theorem setRow_flat (l : List EntryD) (i : Nat) (e : EntryD) (hi : i < l.length) : setRow (l.flatMap entryCells) (i * 5) (entryCells e) = (l.set i e).flatMap entryCells := by
  refine List.ext_getElem? fun x => ?_
  have hfl := flat_len entryCells entryCells_len l
  rw [setRow_get _ _ _ _ (by rw [hfl, entryCells_len]; omega)]
  by_cases hx : x < l.length * 5
  · obtain ⟨q, r, hr, rfl⟩ : ∃ q r, r < 5 ∧ x = q * 5 + r := ⟨x / 5, x % 5, Nat.mod_lt _ (by omega), by omega⟩
    have hq : q < l.length := by omega
    by_cases he : q = i
    · subst he
      rw [if_pos ⟨by omega, by rw [entryCells_len]; omega⟩, show q * 5 + r - q * 5 = r by omega]
      have h1 : (l.set q e)[q]? = some e := List.getElem?_set_self hq
      obtain ⟨u, hu⟩ : ∃ u, (entryCells e)[r]? = some u := ⟨_, List.getElem?_eq_getElem (by rw [entryCells_len]; omega)⟩
      rw [hu, flat_get entryCells entryCells_len h1 hu]
    · rw [if_neg (by rw [entryCells_len]; omega)]
      have h1 : l[q]? = some l[q] := List.getElem?_eq_getElem hq
      have h2 : (l.set i e)[q]? = some l[q] := (List.getElem?_set_ne (fun h => he h.symm)).trans h1
      obtain ⟨u, hu⟩ : ∃ u, (entryCells l[q])[r]? = some u := ⟨_, List.getElem?_eq_getElem (show r < (entryCells l[q]).length from by rw [entryCells_len]; exact hr)⟩
      rw [flat_get entryCells entryCells_len h1 hu, flat_get entryCells entryCells_len h2 hu]
  · rw [if_neg (by rw [entryCells_len]; omega), List.getElem?_eq_none (by rw [hfl]; omega), List.getElem?_eq_none (by rw [flat_len entryCells entryCells_len, List.length_set]; omega)]
end

/-- A list of the call's own at a block's head. -/
def EntM (w : World) (l : List EntryD) (e : Ending) (w' : World) : Prop :=
  ∃ g c : Nat, e = .returned (.slice (some ⟨g, 0, none⟩) l.length c) ∧ Own w' g 47 (c * 5) (l.flatMap entryCells) ∧ w.heap.size ≤ g ∧ l.length ≤ c ∧ c ≤ maxLen ∧ Below w.heap.size w w'
theorem own_some {w : World} {B : Nat} {v : Value} {n : Nat} {xs : List Value} (h : w.ownsRow B 47 5 v n xs) (hne : v ≠ .slice none 0 0) : ∃ g c : Nat, v = .slice (some ⟨g, 0, none⟩) n c ∧ Own w g 47 (c * 5) xs ∧ B ≤ g ∧ n ≤ c ∧ c ≤ maxLen := by
  obtain ⟨A, c, rfl, m⟩ := Mine.of h
  rcases m.own with ⟨rfl, rfl, rfl⟩ | ⟨g, rfl, hB, hn, hc, ho⟩
  · exact absurd rfl hne
  · exact ⟨g, c, rfl, ho, hB, hn, hc⟩
theorem entry_one {l : List EntryD} {u : Value} (h : u ∈ l.flatMap entryCells) : u.oneCell' = true := by
  obtain ⟨d, _, hd⟩ := List.mem_flatMap.1 h
  simp only [entryCells, List.mem_cons, List.not_mem_nil, or_false] at hd
  rcases hd with rfl | rfl | rfl | rfl | rfl <;> rfl
set_option maxRecDepth 100000 in
set_option maxHeartbeats 800000 in
theorem cloneEntry_any (g n c : Nat) (l : List EntryD) (w : World) (hn : n ≤ 1048577) (hl : Hid (l.length = n)) (hr : Rd w 5 (some ⟨g, 0, none⟩) n (l.flatMap entryCells)) :
    Calls Try.prog 60 #[.slice (some ⟨g, 0, none⟩) n c] w (EntM w l) := by
  obtain ⟨i0, hi, hz0, hz1, hz2⟩ := info_parts infoEntryI
  have HI := Lib.hid (And.intro hi (And.intro hz0 (And.intro hz1 hz2)))
  have HR := Lib.hid hr
  have hq : ∀ W : World, (binOp .eql 42 (.slice (some ⟨g, 0, none⟩) n c) (.slice none 0 0)).run Try.prog W = .ok (.bool false) W := fun W => Lib.run_eql_slice_nil W _ _ (some ⟨g, 0, none⟩) n c 0 0 Try.underlying42
  clear hi hz0 hz1 hz2 hr
  go_enter Try.func60, Try.ntmps60
  go_wp2_with (at_builtin; (refine wpList_append_own _ rfl (.tmp 5) (.tmp 6) _ rfl w.heap.size 47 i0 (.agg #[.string ⟨#[]⟩, .int .i64 0, .int .i64 0, .string ⟨#[]⟩, .int .i64 0]) 5 56 Try.underlying42 HI.out.1 HI.out.2.1 HI.out.2.2.1 HI.out.2.2.2 rfl (by decide) _ _ _ rfl (own_empty w _ 5) ⟨g, 0, none⟩ n c (l.flatMap entryCells) rfl (by rw [flat_len entryCells entryCells_len, hl.out]) ?_ (fun x hx => entry_one hx) (by unfold maxLen; omega) (by omega) (by simp) ?_))
  · intro j u hu
    have hj := (List.getElem?_eq_some_iff.1 hu).1
    rw [flat_len entryCells entryCells_len, hl.out] at hj
    obtain ⟨b', off, e, hb, hcell⟩ := HR.out.2 (by omega)
    injection e with e; injection e with e1 e2; subst e1; subst e2
    have hbb := (Below.refl w.heap.size w).alloc (Nat.le_refl _) (.cells #[] 47)
    have := ((bcell hbb).1 _ _ hb).trans (hcell j u hu)
    rw [Addr.add_lit]
    exact this
  · intro v' w3 hown3 hg3 hnil3
    obtain ⟨g3, c3, rfl, ho, hB, hnc, hcm⟩ := own_some hown3 hnil3
    have hb3 : Below w.heap.size w w3 := ((Below.refl w.heap.size w).alloc (Nat.le_refl _) (.cells #[] 47)).grown hg3 (by simp) (fun q hq => by cases hq; exact Nat.le_refl _)
    clear hown3 hg3 hnil3
    go_wp2
    go_ret
    exact ⟨g3, c3, (by rw [hl.out]; rfl), ho, hB, by rw [hl.out]; omega, hcm, hb3⟩
theorem sameE_ne {t x0 x3 : ByteArray} {a b x1 x2 x4 : Int} : sameE t a b (x0, x1, x2, x3, x4) = decide (x0 = t ∧ x1 = a ∧ x2 = b) := rfl
set_option maxHeartbeats 800000 in
theorem putFn_any (t x0 x3 : ByteArray) (a b x1 x2 x4 : Int) (g1 : Nat) (w : World) (h1 : w.cell? ⟨g1, 0, none⟩ = some (.string t)) (h2 : w.cell? ⟨g1, 1, none⟩ = some (.int .i64 a)) (h3 : w.cell? ⟨g1, 2, none⟩ = some (.int .i64 b)) :
    Calls Try.prog 46 #[.agg #[.string x0, .int .i64 x1, .int .i64 x2, .string x3, .int .i64 x4], .pointer (some ⟨g1, 0, none⟩)] w fun e w' => e = .returned (.bool (sameE t a b (x0, x1, x2, x3, x4))) ∧ Below w.heap.size w w' := by
  have z1 := block_of_cell h1
  by_cases h0 : x0 = t
  · subst h0
    by_cases e1 : x1 = a
    · subst e1
      by_cases e2 : x2 = b
      · subst e2
        rw [show sameE x0 x1 x2 (x0, x1, x2, x3, x4) = true by simp [sameE]]
        go_enter Try.func46, Try.ntmps46
        go_wp2
        go_ret
        exact ⟨rfl, (by repeat' (first | (with_reducible exact Below.refl _ _) | (with_reducible assumption) | (with_reducible refine below_drewN ?_ _) | (with_reducible refine Below.drew ?_) | (with_reducible refine Below.alloc ?_ ?_ _) | (with_reducible refine Below.setCell ?_ ?_ _) | go_size))⟩
      · rw [show sameE x0 x1 b (x0, x1, x2, x3, x4) = false by simp [sameE, e2]]
        have e2' : (x2 == b) = false := by rw [beq_eq_false_iff_ne]; exact e2
        clear e2
        go_enter Try.func46, Try.ntmps46
        go_wp2
        go_ret
        exact ⟨rfl, (by repeat' (first | (with_reducible exact Below.refl _ _) | (with_reducible assumption) | (with_reducible refine below_drewN ?_ _) | (with_reducible refine Below.drew ?_) | (with_reducible refine Below.alloc ?_ ?_ _) | (with_reducible refine Below.setCell ?_ ?_ _) | go_size))⟩
    · rw [show sameE x0 a b (x0, x1, x2, x3, x4) = false by simp [sameE, e1]]
      have e1' : (x1 == a) = false := by rw [beq_eq_false_iff_ne]; exact e1
      clear e1
      go_enter Try.func46, Try.ntmps46
      go_wp2
      go_ret
      exact ⟨rfl, (by repeat' (first | (with_reducible exact Below.refl _ _) | (with_reducible assumption) | (with_reducible refine below_drewN ?_ _) | (with_reducible refine Below.drew ?_) | (with_reducible refine Below.alloc ?_ ?_ _) | (with_reducible refine Below.setCell ?_ ?_ _) | go_size))⟩
  · rw [show sameE t a b (x0, x1, x2, x3, x4) = false by simp [sameE, h0]]
    have h0' := str_ne h0
    clear h0
    go_enter Try.func46, Try.ntmps46
    go_wp2
    go_ret
    exact ⟨rfl, (by repeat' (first | (with_reducible exact Below.refl _ _) | (with_reducible assumption) | (with_reducible refine below_drewN ?_ _) | (with_reducible refine Below.drew ?_) | (with_reducible refine Below.alloc ?_ ?_ _) | (with_reducible refine Below.setCell ?_ ?_ _) | go_size))⟩

set_option maxRecDepth 100000 in
set_option maxHeartbeats 800000 in
theorem indexFuncPut_any (A : Option Addr) (n c : Nat) (l : List EntryD) (t : ByteArray) (a b : Int) (g1 : Nat) (w : World) (hn : n ≤ 4194304) (hl : Hid (l.length = n)) (hr : Rd w 5 A n (l.flatMap entryCells))
    (h1 : w.cell? ⟨g1, 0, none⟩ = some (.string t)) (h2 : w.cell? ⟨g1, 1, none⟩ = some (.int .i64 a)) (h3 : w.cell? ⟨g1, 2, none⟩ = some (.int .i64 b)) :
    Calls Try.prog 61 #[.slice A n c, .func (Fn.func 46) #[] #[.pointer (some ⟨g1, 0, none⟩)]] w
      fun e w' => e = .returned (.int .i64 (firstIx (sameE t a b) l 0)) ∧ Below w.heap.size w w' := by
  have HR := Lib.hid hr
  have H1 := Lib.hid h1
  have H2 := Lib.hid h2
  have H3 := Lib.hid h3
  clear hr h1 h2 h3
  go_enter Try.func61, Try.ntmps61
  go_wp2
  go_loopw [8] (fun i wr => ∃ k : Nat, k ≤ n ∧ FirstTo (sameE t a b) l k ∧ i = .int .i64 k ∧ Below w.heap.size w wr) (fun i _ => n - (intOf i).toNat)
  case atStart => exact ⟨0, Nat.zero_le _, firstTo_zero _ _, rfl, (by repeat' (first | (with_reducible exact Below.refl _ _) | (with_reducible assumption) | (with_reducible refine below_drewN ?_ _) | (with_reducible refine Below.drew ?_) | (with_reducible refine Below.alloc ?_ ?_ _) | (with_reducible refine Below.setCell ?_ ?_ _) | go_size))⟩
  case round =>
    obtain ⟨k, hk, hft, rfl, hb⟩ := hrel
    by_cases hkn : k < n
    · obtain ⟨⟨x0, x1, x2, x3, x4⟩, hd⟩ : ∃ d, l[k]? = some d := ⟨_, List.getElem?_eq_getElem (by have := hl.out; omega)⟩
      obtain ⟨b', off, rfl, hblt, c0, c1, c2, c3, c4⟩ := entry_at (HR.out.below hb) hkn hd
      have HC := Lib.hid (fun s (hs : sameE t a b (x0, x1, x2, x3, x4) = s) => show Calls Try.prog 46 #[.agg #[.string x0, .int .i64 x1, .int .i64 x2, .string x3, .int .i64 x4], .pointer (some ⟨g1, 0, none⟩)] wr fun e w' => e = .returned (.bool s) ∧ Below wr.heap.size wr w' by
        have h := putFn_any t x0 x3 a b x1 x2 x4 g1 wr (((bcell hb).1 _ _ (block_of_cell H1.out)).trans H1.out) (((bcell hb).1 _ _ (block_of_cell H2.out)).trans H2.out) (((bcell hb).1 _ _ (block_of_cell H3.out)).trans H3.out)
        rwa [hs] at h)
      cases hs : sameE t a b (x0, x1, x2, x3, x4) with
      | true =>
        have hst := Lib.hid (firstTo_here hft hd hs)
        have HS := Lib.hid (HC.out _ hs)
        clear hs hd
        go_wp2_with fail
        refine HS.out.mono ?_
        rintro e w2 ⟨rfl, h2⟩
        have hb2 := hb.trans (h2.mono hb.size)
        go_wp2
        go_ret
        exact ⟨ret_int hst.out.symm, hb2⟩
      | false =>
        have hst := firstTo_step hft hd hs
        have HS := Lib.hid (HC.out _ hs)
        clear hs hd
        go_wp2_with fail
        refine HS.out.mono ?_
        rintro e w2 ⟨rfl, h2⟩
        have hb2 := hb.trans (h2.mono hb.size)
        clear c0 c1 c2 c3 c4 hblt
        go_wp2
        go_roundw
        case rel => exact ⟨k + 1, by omega, hst, by go_num, hb2⟩
        case measure => simp [intOf]; omega
    · have hst := Lib.hid (firstTo_none hft (by have := hl.out; omega))
      go_wp2
      go_ret
      exact ⟨ret_int hst.out.symm, hb⟩
end Go.Proofs.Ytfapdhfjcnehhaa


/-
  Contracts: the first entry taken off in place (slices.Delete).
-/
import Derived.Test.YtfapdhfjcnehhaaPutB
namespace Go.Proofs.Ytfapdhfjcnehhaa
open Go.RowKit
set_option linter.unusedVariables false

theorem grownBy_drew' {a w : World} {row : Option Nat} (h : a.grownBy w row) : a.grownBy w.drew row := ⟨h.os, h.tape, h.output, h.size, h.block⟩
set_option maxRecDepth 1000000 in
set_option maxHeartbeats 4000000 in
theorem deleteOne_any (g n c : Nat) (l : List EntryD) (w : World) (hn0 : 1 ≤ n) (hn : n ≤ 1048577) (hnc : n ≤ c) (hc : c ≤ maxLen) (hl : Hid (l.length = n)) (ho : Own w g 47 (c * 5) (l.flatMap entryCells)) :
    Calls Try.prog 47 #[.slice (some ⟨g, 0, none⟩) n c, .int .i64 0, .int .i64 1] w (DelP g c l.tail w) := by
  obtain ⟨i0, hi, hz0, hz1, hz2⟩ := info_parts infoEntryI
  have hmc : c ≤ 9223372036854775807 := by unfold maxLen at hc; omega
  have h1n : (1 : Int) ≤ n := by omega
  obtain ⟨news, hnews⟩ : ∃ news, news = l.tail.flatMap entryCells := ⟨_, rfl⟩
  have hlen : news.length = (n - 1) * 5 := by rw [hnews, flat_len entryCells entryCells_len, List.length_tail, hl.out]
  have hfz := ho.frozen
  have hth := fun (j : Nat) (hj : j < c * 5) => ho.there (i := j) hj
  obtain ⟨A, hA, hsrc⟩ : ∃ A : Addr, (if c = 1 then some (⟨g, 0, none⟩ : Addr) else some ⟨g, 5, none⟩) = some A ∧ Hid (∀ j u, news[j]? = some u → w.drew.cell? (A.add j) = some u) := by
    by_cases h : c = 1
    · refine ⟨⟨g, 0, none⟩, by simp [h], fun t u hu => ?_⟩
      have h0 : news.length = 0 := by rw [hlen]; omega
      rw [List.length_eq_zero_iff.1 h0] at hu
      simp at hu
    · refine ⟨⟨g, 5, none⟩, by simp [h], fun j u hu => ?_⟩
      obtain ⟨d, l', rfl⟩ : ∃ d l', l = d :: l' := by
        cases l with
        | nil => have := hl.out; simp at this; omega
        | cons d l' => exact ⟨d, l', rfl⟩
      have hr : Rd w 5 (some ⟨g, 0, none⟩) n ((d :: l').flatMap entryCells) := ho.rd (by rw [flat_len entryCells entryCells_len, hl.out])
      obtain ⟨b', off, e, hb, hcell⟩ := hr.2 (by omega)
      injection e with e; injection e with e1 e2; subst e1; subst e2
      rw [hnews] at hu
      have := hcell (5 + j) u (by rw [List.flatMap_cons, List.getElem?_append_right (by rw [entryCells_len]; omega), entryCells_len, show 5 + j - 5 = j by omega]; exact hu)
      rw [Addr.add_lit]
      show w.cell? _ = _
      rwa [Nat.zero_add] at this
  have s2 : Hid (∀ u ∈ news, u.oneCell' = true) := fun u hu => entry_one (by rw [hnews] at hu; exact hu)
  have s3 : Hid (∀ j, j < news.length → (w.drew.cell? ⟨g, 0 + 0 * 5 + j, none⟩).isSome = true ∧ w.drew.frozen? ⟨g, 0 + 0 * 5 + j, none⟩ = false) := by
    intro j hj
    rw [hlen] at hj
    obtain ⟨v, hv⟩ := hth (0 + 0 * 5 + j) (by omega)
    exact ⟨by show (w.cell? _).isSome = true; rw [hv]; rfl, hfz _⟩
  obtain ⟨W1, hW1⟩ : ∃ W1, W1 = w.drew.setCells g (0 + 0 * 5) news := ⟨_, rfl⟩
  have o1 : Own W1 g 47 (c * 5) news := by
    have hd : Own w.drew g 47 (c * 5) (l.flatMap entryCells) := ho.drew
    have hfl : (l.flatMap entryCells).length = n * 5 := by rw [flat_len entryCells entryCells_len, hl.out]
    have h1 := (hd.setAll news (i := 0) (by rw [hfl, hlen]; omega)).cut news.length
    have h2 : (setRow (l.flatMap entryCells) 0 news).take news.length = news := by
      refine List.ext_getElem? fun x => ?_
      by_cases hx : x < news.length
      · rw [List.getElem?_take_of_lt hx, setRow_get _ _ _ _ (by rw [hfl, hlen]; omega), if_pos ⟨by omega, by omega⟩, Nat.sub_zero]
      · rw [List.getElem?_eq_none (by rw [List.length_take]; omega), List.getElem?_eq_none (by omega)]
    rw [h2] at h1
    rw [hW1]; exact h1
  have hz5 : ∀ j, j < (n - (n - 1)) * 5 → (W1.cell? ⟨g, (n - 1) * 5 + j, none⟩).isSome = true := fun j hj => by
    obtain ⟨u, hu⟩ := o1.there (i := (n - 1) * 5 + j) (by omega)
    rw [hu]; rfl
  have hcl := fun ty => run_clear_cells (P := Try.prog) W1 42 47 ty _ Try.underlying42 zeroEntry (by intro v hv; simp [Value.cells] at hv; rcases hv with rfl | rfl | rfl | rfl | rfl <;> rfl) (by decide) g ((n - 1) * 5) (n - (n - 1)) (c - (n - 1)) (by omega) hz5 (fun j _ => o1.frozen _)
  have hown2 := fun us => Own.pastAll us o1 (i := (n - 1) * 5) (by rw [hlen]; exact Nat.le_refl _)
  have hgr : w.grownBy W1 (some g) := by rw [hW1]; exact grow_sets news (i := 0 + 0 * 5) (grownBy_drew' (World.grownBy.refl w _))
  have HW : Hid (W1 = w.drew.setCells g (0 + 0 * 5) news) := hW1
  have HN := Lib.hid hnews
  have s1 := Lib.hid hlen
  have hs1 : l.tail.length = n - 1 := by rw [List.length_tail, hl.out]
  clear hnews hlen hW1 hfz hth ho hz5
  go_enter Try.func47, Try.ntmps47
  go_wp2_with fail
  go_region_law (refine step_append_room rfl (.tmp 22) (.tmp 25) 42 rfl 47 i0 5 Try.underlying42 hi hz1 g 0 0 c (by simp [Act.eval, Act.put]) A (n - 1) (c - 1) news (by simp [Act.eval, Act.put]) s1.out hsrc.out s2.out (by omega) s3.out ?_; rw [← HW.out])
  go_wp2
  go_ret
  refine ⟨(by rw [hs1]; rfl), ?_, grow_sets _ hgr⟩
  rw [← HN.out]
  exact hown2 _
end Go.Proofs.Ytfapdhfjcnehhaa

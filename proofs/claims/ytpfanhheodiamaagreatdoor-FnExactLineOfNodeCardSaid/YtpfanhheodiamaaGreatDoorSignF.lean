
/-
  Plain laws: what signAt tells, asked for one kind, is what the kind's own words tell.
-/
import Derived.Test.YtpfanhheodiamaaGreatDoorSignE
namespace Go.Proofs.YtpfanhheodiamaaGreatDoor
open Go.RowKit
set_option linter.unusedVariables false
set_option linter.unusedSimpArgs false

theorem quoR_eq (l : List UInt8) : quoR l = if Lib.indexByte l 39 < 0 then 0 else if (l.take (Lib.indexByte l 39).toNat).all plainC = true then (Lib.indexByte l 39).toNat + 1 else 0 := by
  induction l with
  | nil => rfl
  | cons c l ih =>
    have hge := Lib.indexByte_ge l 39
    unfold quoR Lib.indexByte
    by_cases h : c = 39
    · subst h
      simp
    · have hb : (c == 39) = false := by rw [beq_eq_false_iff_ne]; exact h
      rw [if_neg h, hb]
      simp only [Bool.false_eq_true, if_false]
      by_cases h1 : Lib.indexByte l 39 = -1
      · have e1 : (Lib.indexByte l 39 == -1) = true := by rw [h1]; rfl
        rw [if_pos e1, ih, h1]
        simp
      · have e1 : (Lib.indexByte l 39 == -1) = false := by rw [beq_eq_false_iff_ne]; exact h1
        rw [e1]
        simp only [Bool.false_eq_true, if_false]
        rw [ih]
        obtain ⟨o, ho⟩ := Int.eq_ofNat_of_zero_le (show 0 ≤ Lib.indexByte l 39 by omega)
        rw [ho]
        have e2 : ¬ ((o : Int) < 0) := by omega
        have e3 : ¬ ((o : Int) + 1 < 0) := by omega
        have e4 : ((o : Int) + 1).toNat = o + 1 := by omega
        rw [if_neg e2, if_neg e3, e4, List.take_succ_cons, List.all_cons, Int.toNat_natCast]
        cases hp : plainC c with
        | true =>
          simp only [if_true, Bool.true_and]
          by_cases hq : (l.take o).all plainC = true
          · rw [if_pos hq, if_neg (by omega), if_pos hq]
          · rw [if_neg hq, if_pos rfl, if_neg hq]
        | false =>
          simp
section
variable {s : ByteArray}
theorem nameW_no (h0 : 0 < s.size) (h : firstC s[0] = false) : nameW s = false := by
  obtain ⟨l, hl⟩ := head_of h0
  have : firstH s = false := by unfold firstH; rw [hl]; exact h
  unfold nameW; rw [this, Bool.and_false, Bool.false_and]
theorem numB_no (h0 : 0 < s.size) (h : figC s[0] = false) : numB s = false := by
  unfold numB; rw [allTo_no h0 h, Bool.and_false]
theorem quoB_no (h0 : 0 < s.size) (h : ¬ s[0] = 39) : quoB s = false := by
  obtain ⟨l, hl⟩ := head_of h0
  unfold quoB; simp only [hl]; rw [decide_eq_false h, Bool.and_false, Bool.false_and]
theorem noteB_no (h : Lib.hasPrefix s.data.toList [47, 47] = false) : noteB s = false := by
  have : noteN s.data.toList = 0 := by unfold noteN; rw [h]; simp
  unfold noteB; rw [this]
  by_cases h1 : 1 < s.size
  · rw [decide_eq_false (show ¬ 0 = s.size by omega), Bool.and_false, Bool.false_and]
  · rw [decide_eq_false h1, Bool.false_and, Bool.false_and]
theorem pre_head (h0 : 0 < s.size) (h : Lib.hasPrefix s.data.toList [47, 47] = true) : s[0] = 47 := by
  obtain ⟨l, hl⟩ := head_of h0
  rw [hl] at h
  unfold Lib.hasPrefix at h
  simp only [List.isPrefixOf, Bool.and_eq_true, beq_iff_eq] at h
  exact h.1.symm
theorem pre_no (h0 : 0 < s.size) (h : ¬ s[0] = 47) : Lib.hasPrefix s.data.toList [47, 47] = false := by
  cases hp : Lib.hasPrefix s.data.toList [47, 47] with
  | false => rfl
  | true => exact absurd (pre_head h0 hp) h
theorem isR_kind (ok : Bool) {k kind : Int} (t s : ByteArray) (z : Int) (h : k ≠ kind) : isR ok k kind t s z = false := by
  have : (k == kind) = false := by rw [beq_eq_false_iff_ne]; exact h
  unfold isR; rw [this, Bool.and_false, Bool.false_and, Bool.false_and]
theorem isR_same (ok : Bool) (k : Int) (t s : ByteArray) (z : Nat) : isR ok k k t s z = (ok && decide (t = s) && decide (z = s.size)) := by
  have e1 : (k == k) = true := by rw [beq_iff_eq]
  have e2 : ((z : Int) == (s.size : Int)) = decide (z = s.size) := by
    by_cases h : z = s.size
    · rw [decide_eq_true h, h]; exact beq_self_eq_true _
    · rw [decide_eq_false h, beq_eq_false_iff_ne]; omega
  unfold isR; rw [e1, tl_beq, e2, Bool.and_true]
theorem name_eq (h0 : 0 < s.size) (hb : firstC s[0] = true) :
    isR (decide (((runT innerC s).size : Int) ≤ 30)) 1 1 (runT innerC s) s (runT innerC s).size = nameW s := by
  obtain ⟨l, hl⟩ := head_of h0
  have hf : firstH s = true := by unfold firstH; rw [hl]; exact hb
  rw [isR_same]
  unfold nameW
  rw [hf, Bool.and_true]
  by_cases h : runT innerC s = s
  · rw [h, decide_eq_true rfl, decide_eq_true rfl, (runT_self innerC s).1 h, Bool.and_true, Bool.and_true, Bool.and_true]
    by_cases h2 : s.size ≤ 30
    · rw [decide_eq_true h2, decide_eq_true (by omega)]
    · rw [decide_eq_false h2, decide_eq_false (by omega)]
  · have : allB innerC s = false := by
      cases hc : allB innerC s with
      | false => rfl
      | true => exact absurd ((runT_self innerC s).2 hc) h
    rw [decide_eq_false h, this, Bool.and_false, Bool.and_false, Bool.false_and]
theorem num_eq (h0 : 0 < s.size) :
    isR (decide (((runT figC s).size : Int) ≤ 12)) 2 2 (runT figC s) s (runT figC s).size = numB s := by
  rw [isR_same]
  unfold numB
  by_cases h : runT figC s = s
  · rw [h, decide_eq_true rfl, decide_eq_true rfl, (runT_self figC s).1 h, Bool.and_true, Bool.and_true, Bool.and_true]
    by_cases h2 : s.size ≤ 12
    · rw [decide_eq_true (⟨h0, h2⟩ : 0 < s.size ∧ s.size ≤ 12), decide_eq_true (by omega)]
    · rw [decide_eq_false (show ¬ (0 < s.size ∧ s.size ≤ 12) by omega), decide_eq_false (by omega)]
  · have : allB figC s = false := by
      cases hc : allB figC s with
      | false => rfl
      | true => exact absurd ((runT_self figC s).2 hc) h
    rw [decide_eq_false h, this, Bool.and_false, Bool.and_false, Bool.false_and]
theorem note_eq (h0 : 0 < s.size) (hp : Lib.hasPrefix s.data.toList [47, 47] = true) :
    isR (allB plainC (runT notEnd s)) 5 5 (trimT (runT notEnd s)) s (runT notEnd s).size = noteB s := by
  have hlen : 2 ≤ s.size := by have := (List.isPrefixOf_iff_prefix.1 (show List.isPrefixOf [47, 47] s.data.toList = true from hp)).length_le; rw [ba_len] at this; exact this
  rw [isR_same]
  unfold noteB
  rw [decide_eq_true (show 1 < s.size by omega), Bool.true_and]
  have hn := runN_le notEnd s.data.toList
  rw [ba_len] at hn
  have hsz := runT_size notEnd s
  have hall : allB plainC (runT notEnd s) = (s.data.toList.take (runN notEnd s.data.toList)).all plainC := by
    unfold allB runT
    rw [show (s.extract 0 (runN notEnd s.data.toList)).data.toList = s.data.toList.take (runN notEnd s.data.toList) by rw [ByteArray.data_extract]; simp]
  by_cases hz : runN notEnd s.data.toList = s.size
  · have ht : runT notEnd s = s := by rw [runT_self]; exact (run_whole notEnd s).1 hz
    rw [ht]
    rw [ht] at hall
    rw [hall]
    unfold noteN
    rw [hp, hz]
    cases hq : (s.data.toList.take s.size).all plainC with
    | true => simp
    | false =>
      simp
      intro _
      omega
  · rw [decide_eq_false (show ¬ (runT notEnd s).size = s.size by rw [hsz]; exact hz), Bool.and_false]
    have : noteN s.data.toList ≠ s.size := by
      unfold noteN
      split
      · exact hz
      · omega
    rw [decide_eq_false this, Bool.false_and]
theorem quo_eq (h0 : 0 < s.size) (hq : s[0] = 39) : isR (quoP s).2 3 3 (quoP s).1 s (quoP s).1.size = quoB s := by
  obtain ⟨l, hl⟩ := head_of h0
  rw [hq] at hl
  have hll : l.length + 1 = s.size := by have := ba_len s; rw [hl] at this; simpa using this
  have hex : (s.extract 1 s.size).data.toList = l := by
    rw [ByteArray.data_extract]
    simp only [Array.toList_extract, List.extract_eq_take_drop, hl, List.drop_succ_cons, List.drop_zero]
    exact List.take_of_length_le (by omega)
  rw [isR_same]
  unfold quoB quoP
  rw [hex, hl]
  simp only [decide_true, Bool.and_true]
  have hqn : quoN (39 :: l) = if quoR l = 0 then 0 else quoR l + 1 := rfl
  rw [hqn, quoR_eq]
  by_cases hi : Lib.indexByte l 39 < 0
  · rw [if_pos hi, if_pos hi]
    simp only [if_true, Bool.false_and]
    by_cases h1 : 1 < s.size
    · rw [decide_eq_true h1, decide_eq_false (by omega), Bool.and_false]
    · rw [decide_eq_false h1, Bool.false_and]
  · rw [if_neg hi, if_neg hi]
    obtain ⟨o, ho⟩ := Int.eq_ofNat_of_zero_le (show 0 ≤ Lib.indexByte l 39 by omega)
    have hsome := Lib.indexByte_some ho
    have holt : o < l.length := (List.getElem?_eq_some_iff.1 hsome.1).1
    rw [ho, Int.toNat_natCast, show ((o : Int) + 2).toNat = o + 2 by omega]
    have hs2 : o + 2 ≤ s.size := by omega
    have hszz : (s.extract 0 (o + 2)).size = o + 2 := by simp; omega
    rw [decide_eq_true (show 1 < s.size by omega), Bool.true_and]
    have hall : allB plainC (s.extract 0 (o + 2)) = (l.take o).all plainC := by
      unfold allB
      rw [show (s.extract 0 (o + 2)).data.toList = s.data.toList.take (o + 2) by rw [ByteArray.data_extract]; simp, hl, List.take_succ_cons, List.all_cons]
      rw [show plainC 39 = true from rfl, Bool.true_and]
      rw [List.take_add_one, hsome.1, List.all_append]
      simp [show plainC 39 = true from rfl]
    rw [hall, hszz]
    cases hc : (l.take o).all plainC with
    | false =>
      simp only [Bool.false_and, Bool.false_eq_true, if_false, if_true]
      rw [decide_eq_false (by omega)]
    | true =>
      simp only [if_true, Bool.true_and]
      rw [if_neg (by omega)]
      by_cases hw : o + 2 = s.size
      · rw [decide_eq_true ((extract_whole hs2).2 hw), decide_eq_true hw]
        rfl
      · rw [decide_eq_false hw, Bool.and_false]
end
/-- Is a text just one sign of a kind? -/
def signB (s : ByteArray) (kind : Int) : Bool := if kind = 1 then nameW s else if kind = 2 then numB s else if kind = 3 then quoB s else noteB s
theorem signB_empty {s : ByteArray} (h : s.size = 0) (kind : Int) : signB s kind = false := by
  have hl : s.data.toList = [] := List.eq_nil_of_length_eq_zero (by rw [ba_len]; exact h)
  unfold signB
  split
  · unfold nameW firstH; rw [hl]; simp
  · split
    · unfold numB; rw [decide_eq_false (by omega), Bool.false_and]
    · split
      · unfold quoB; rw [decide_eq_false (by omega), Bool.false_and, Bool.false_and]
      · unfold noteB; rw [decide_eq_false (by omega), Bool.false_and, Bool.false_and]
theorem implIsSign_any (s : ByteArray) (kind : Int) (w : World) (hs : s.size ≤ maxLen) (hk : kind = 1 ∨ kind = 2 ∨ kind = 3 ∨ kind = 5) :
    Calls Tryz.prog 145 #[.string s, .int .i64 kind] w fun e w' => e = .returned (.bool (signB s kind)) ∧ Below w.heap.size w w' := by
  by_cases h0 : 0 < s.size
  · have key : ∀ (k z : Int) (t : ByteArray) (ok : Bool), isR ok k kind t s z = signB s kind → (∀ W, Calls Tryz.prog 80 #[.string s] W fun e w' => e = .returned (.tuple #[.int .i64 k, .string t, .int .i64 z, .bool ok]) ∧ Below W.heap.size W w') → Calls Tryz.prog 145 #[.string s, .int .i64 kind] w fun e w' => e = .returned (.bool (signB s kind)) ∧ Below w.heap.size w w' := by
      intro k z t ok he H
      rw [← he]
      exact isSign_of s kind k z t ok w h0 (Lib.hid H)
    have still : ∀ {v : Value} (W : World), (Calls Tryz.prog 80 #[.string s] W fun e w' => e = .returned v ∧ W = w') → Calls Tryz.prog 80 #[.string s] W fun e w' => e = .returned v ∧ Below W.heap.size W w' := fun W h => h.mono fun e w' ⟨h1, h2⟩ => ⟨h1, by subst h2; exact Below.refl _ _⟩
    cases hb : firstC s[0] with
    | true =>
      refine key 1 _ _ _ ?_ (fun W => still W (signAt_name s W h0 hs hb))
      have hg := first_not_fig hb
      rcases hk with rfl | rfl | rfl | rfl
      · exact name_eq h0 hb
      · rw [isR_kind _ _ _ _ (by decide)]; exact (numB_no h0 hg).symm
      · rw [isR_kind _ _ _ _ (by decide)]; exact (quoB_no h0 (by intro e; rw [e] at hb; revert hb; decide)).symm
      · rw [isR_kind _ _ _ _ (by decide)]; exact (noteB_no (pre_no h0 (by intro e; rw [e] at hb; revert hb; decide))).symm
    | false =>
      cases hg : figC s[0] with
      | true =>
        refine key 2 _ _ _ ?_ (fun W => still W (signAt_num s W h0 hs hb hg))
        rcases hk with rfl | rfl | rfl | rfl
        · rw [isR_kind _ _ _ _ (by decide)]; exact (nameW_no h0 hb).symm
        · exact num_eq h0
        · rw [isR_kind _ _ _ _ (by decide)]; exact (quoB_no h0 (by intro e; rw [e] at hg; revert hg; decide)).symm
        · rw [isR_kind _ _ _ _ (by decide)]; exact (noteB_no (pre_no h0 (by intro e; rw [e] at hg; revert hg; decide))).symm
      | false =>
        by_cases hq : s[0] = 39
        · refine key 3 _ _ _ ?_ (fun W => still W (signAt_quo s W h0 hs hb hg hq))
          rcases hk with rfl | rfl | rfl | rfl
          · rw [isR_kind _ _ _ _ (by decide)]; exact (nameW_no h0 hb).symm
          · rw [isR_kind _ _ _ _ (by decide)]; exact (numB_no h0 hg).symm
          · exact quo_eq h0 hq
          · rw [isR_kind _ _ _ _ (by decide)]; exact (noteB_no (pre_no h0 (by rw [hq]; decide))).symm
        · cases hp : Lib.hasPrefix s.data.toList [47, 47] with
          | true =>
            refine key 5 _ _ _ ?_ (fun W => still W (signAt_note s W h0 hs hb hg hq hp))
            rcases hk with rfl | rfl | rfl | rfl
            · rw [isR_kind _ _ _ _ (by decide)]; exact (nameW_no h0 hb).symm
            · rw [isR_kind _ _ _ _ (by decide)]; exact (numB_no h0 hg).symm
            · rw [isR_kind _ _ _ _ (by decide)]; exact (quoB_no h0 hq).symm
            · exact note_eq h0 hp
          | false =>
            have hno : signB s kind = false := by
              rcases hk with rfl | rfl | rfl | rfl
              · exact nameW_no h0 hb
              · exact numB_no h0 hg
              · exact quoB_no h0 hq
              · exact noteB_no hp
            have hm : ∀ W, Calls Tryz.prog 80 #[.string s] W fun e w' => e = .returned (markR s) ∧ Below W.heap.size W w' := fun W => signAt_mark s W h0 hs hb hg hq hp
            by_cases hz : markN s = 0
            · rw [markR_none hz] at hm
              exact key 0 0 ⟨#[]⟩ false (by rw [hno]; rfl) hm
            · rw [markR_some rfl (Nat.pos_of_ne_zero hz)] at hm
              exact key 4 _ _ true (by rw [hno]; exact isR_kind _ _ _ _ (by rcases hk with rfl | rfl | rfl | rfl <;> decide)) hm
  · rw [signB_empty (by omega)]
    exact isSign_empty s kind w (by omega)
set_option maxHeartbeats 400000 in
theorem implIsName_any (s : ByteArray) (w : World) (hs : s.size ≤ maxLen) : Calls Tryz.prog 144 #[.string s] w fun e w' => e = .returned (.bool (nameB s)) ∧ Below w.heap.size w w' := by
  have H1 := Lib.hid (fun (b : Bool) (hb : nameW s = b) (W : World) => show Calls Tryz.prog 145 #[.string s, .int .i64 1] W fun e w' => e = .returned (.bool b) ∧ Below W.heap.size W w' by rw [← hb]; exact implIsSign_any s 1 W hs (.inl rfl))
  cases hb : nameW s with
  | false =>
    have H2 := Lib.hid (H1.out _ hb)
    have hr : nameB s = false := by unfold nameB; rw [hb]; rfl
    rw [hr]
    clear H1 hb hr
    go_enter Tryz.func144, Tryz.ntmps144
    go_wp2_with (go_at_call 145; refine (H2.out _).mono ?_; rintro e w1 ⟨rfl, h2⟩)
    go_ret
    exact ⟨rfl, (by repeat' (first | (with_reducible exact Below.refl _ _) | (with_reducible assumption) | (with_reducible refine below_drewN ?_ _) | (with_reducible refine Below.drew ?_) | (with_reducible refine Below.alloc ?_ ?_ _) | (with_reducible refine Below.setCell ?_ ?_ _) | go_size))⟩
  | true =>
    have H2 := Lib.hid (H1.out _ hb)
    have hr : nameB s = !keyB s := by unfold nameB; rw [hb]; rfl
    rw [hr]
    have H3 := Lib.hid (fun W => implKey_any s W)
    clear H1 hb hr
    generalize keyB s = u at H3 ⊢
    go_enter Tryz.func144, Tryz.ntmps144
    go_wp2_with (first | (go_at_call 145; refine (H2.out _).mono ?_; rintro e w1 ⟨rfl, h2⟩) | (go_at_call 174; refine (H3.out _).mono ?_; rintro e w1 ⟨rfl, rfl⟩))
    go_ret
    exact ⟨rfl, (by repeat' (first | (with_reducible exact Below.refl _ _) | (with_reducible assumption) | (with_reducible refine below_drewN ?_ _) | (with_reducible refine Below.drew ?_) | (with_reducible refine Below.alloc ?_ ?_ _) | (with_reducible refine Below.setCell ?_ ?_ _) | go_size))⟩
/-- Has a node the text of its kind? -/
def textB (kind : Int) (s : ByteArray) : Bool :=
  if kind = 1 ∨ kind = 6 ∨ kind = 12 ∨ kind = 13 ∨ kind = 20 ∨ kind = 21 then nameB s
  else if kind = 2 then numB s else if kind = 3 then quoB s else if kind = 19 then noteB s else if kind = 7 then chainB s else decide (s.size = 0)
end Go.Proofs.YtpfanhheodiamaaGreatDoor

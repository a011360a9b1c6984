
/-
  Files read from a text: the program's way (impl.ReadDocs), the walk.
-/
import Derived.Test.YtfapdhfjcnehhaaReadB
namespace Go.Proofs.Ytfapdhfjcnehhaa
open Go.RowKit
set_option linter.unusedVariables false

/-- Too many files, or one too long: it stays so. -/
def Big (acc : List DocD) : Prop := 6 < acc.length ∨ ∃ (i : Nat) (d : DocD), acc[i]? = some d ∧ 3000 < d.2.size
theorem big_snoc {acc : List DocD} {d : DocD} (h : Big acc) : Big (acc ++ [d]) := by
  rcases h with h | ⟨i, x, hi, hx⟩
  · exact .inl (by rw [List.length_append]; omega)
  · exact .inr ⟨i, x, by rw [List.getElem?_append_left (List.getElem?_eq_some_iff.1 hi).1]; exact hi, hx⟩
theorem big_text {ini : List DocD} {x0 x1 s : ByteArray} (h : Big (ini ++ [(x0, x1)])) : Big (ini ++ [(x0, x1 ++ s)]) := by
  rcases h with h | ⟨i, x, hi, hx⟩
  · exact .inl (by simpa using h)
  · by_cases hlt : i < ini.length
    · rw [List.getElem?_append_left hlt] at hi
      exact .inr ⟨i, x, by rw [List.getElem?_append_left hlt]; exact hi, hx⟩
    · rw [List.getElem?_append_right (by omega)] at hi
      have h0 : i - ini.length = 0 := by
        have := (List.getElem?_eq_some_iff.1 hi).1
        simp at this
        omega
      rw [h0] at hi
      simp at hi
      subst hi
      have h1 : 3000 < x1.size := hx
      exact .inr ⟨i, (x0, x1 ++ s), by rw [List.getElem?_append_right (by omega), h0]; rfl, by rw [ByteArray.size_append]; omega⟩
theorem big_no {acc : List DocD} (h : Big acc) : docsOkB acc = false := by
  cases hd : docsOkB acc with
  | false => rfl
  | true =>
    obtain ⟨h1, h2⟩ := docs_small hd
    rcases h with h | ⟨i, x, hi, hx⟩
    · omega
    · have := (h2 i x hi).2; omega
theorem big_go (ls : List ByteArray) : ∀ acc : List DocD, Big acc → rdGo ls acc = none ∨ ∃ acc', rdGo ls acc = some acc' ∧ docsOkB acc' = false := by
  induction ls with
  | nil => intro acc h; exact .inr ⟨acc, rfl, big_no h⟩
  | cons l ls ih =>
    intro acc h
    rw [rdGo]
    cases hh : headOf l with
    | some n => exact ih _ (big_snoc h)
    | none =>
      simp only []
      rcases nil_or_snoc acc with rfl | ⟨ini, ⟨x0, x1⟩, rfl⟩
      · exact .inl rfl
      · rw [if_neg (by simp), addText_last]
        exact ih _ (big_text h)
/-- What is left of the text, with what has been read. -/
def RdTo (t u : ByteArray) (acc : List DocD) : Prop := rdGo (linesOf t) [] = rdGo (linesOf u) acc
theorem rdTo_zero (t : ByteArray) : RdTo t t [] := rfl
theorem rdTo_big {t u : ByteArray} {acc : List DocD} (h : RdTo t u acc) (hb : Big acc) : readDocs t = ([], false) := by
  rcases big_go (linesOf u) acc hb with e | ⟨acc', e, h2⟩
  · exact rd_none (h.trans e)
  · exact rd_no (h.trans e) h2
theorem rdTo_end {t u : ByteArray} {acc : List DocD} (h : RdTo t u acc) (hu : u.size = 0) : rdGo (linesOf t) [] = some acc := by
  unfold RdTo at h
  have : u.data.toList = [] := List.eq_nil_of_length_eq_zero (by rw [ba_len]; exact hu)
  rw [h, linesOf, this]; rfl
theorem rdTo_head {t u n : ByteArray} {acc : List DocD} (h : RdTo t u acc) (hu : 0 < u.size) (hh : headOf (cutLine u) = some n) : RdTo t (cutRest u) (acc ++ [(n, ⟨#[]⟩)]) := by
  unfold RdTo at h ⊢
  rw [h, lines_cut hu, rdGo, hh]
theorem rdTo_none {t u : ByteArray} (h : RdTo t u []) (hu : 0 < u.size) (hh : headOf (cutLine u) = none) : readDocs t = ([], false) := by
  unfold RdTo at h
  exact rd_none (by rw [h, lines_cut hu, rdGo, hh]; rfl)
theorem rdTo_text {t u x0 x1 : ByteArray} {ini : List DocD} (h : RdTo t u (ini ++ [(x0, x1)])) (hu : 0 < u.size) (hh : headOf (cutLine u) = none) : RdTo t (cutRest u) (ini ++ [(x0, x1 ++ (cutLine u ++ ⟨#[10]⟩))]) := by
  unfold RdTo at h ⊢
  rw [h, lines_cut hu, rdGo, hh]
  simp only []
  rw [if_neg (by simp), addText_last]
theorem name_size (s : ByteArray) : (nameOf s).size ≤ s.size := by
  unfold nameOf
  split
  · rw [ByteArray.size_extract]; omega
  · exact Nat.le_refl _
def szV : Value → Nat
  | .string u => u.size
  | _ => 0
theorem big_last {ini : List DocD} {x0 s : ByteArray} (h : 3000 < s.size) : Big (ini ++ [(x0, s)]) := .inr ⟨ini.length, (x0, s), by simp, h⟩

set_option maxRecDepth 100000 in
set_option maxHeartbeats 6000000 in
theorem implReadDocs_any (t : ByteArray) (w : World) (ht : t.size ≤ 1048576) : Calls Try.prog 28 #[.string t] w (DocsR w (readDocs t)) := by
  obtain ⟨i0, hi, hz0, hz1, hz2⟩ := info_parts infoDocI
  have HI := Lib.hid (And.intro hi (And.intro hz0 (And.intro hz1 hz2)))
  clear hi hz0 hz1 hz2
  go_enter Try.func28, Try.ntmps28
  go_wp2
  go_loopw [0, 4] (fun s o wr => ∃ (u : ByteArray) (acc : List DocD) (A : Option Addr) (c : Nat), s = .string u ∧ o = .slice A acc.length c ∧ acc.length ≤ 6 ∧ u.size ≤ 1048576 ∧ Hid (RdTo t u acc) ∧ Hid (SzTo acc 3000) ∧ Hid (Mine wr w.heap.size 58 2 A acc.length c (acc.flatMap docCells)) ∧ Below w.heap.size w wr) (fun s _ _ => szV s)
  case atStart => exact ⟨t, [], none, 0, rfl, rfl, by simp, ht, rdTo_zero t, (fun d hd => absurd hd (by simp)), Mine.mk_nil _ _ _ _, Below.refl _ _⟩
  case round =>
    obtain ⟨u, acc, A, c, rfl, rfl, ha6, hu, hat, hsz, HM, hb⟩ := hrel
    obtain ⟨m, hm⟩ : ∃ m, acc.length = m := ⟨_, rfl⟩
    rw [hm] at HM ha6
    rw [hm]
    have Hm := Lib.hid hm
    clear hm
    by_cases hu0 : u.size = 0
    · have hall := Lib.hid (rdTo_end hat.out hu0)
      obtain rfl : u = ⟨#[]⟩ := ba_ext (List.eq_nil_of_length_eq_zero (by rw [ba_len]; exact hu0))
      have hS := Lib.hid (szTo_ok hsz.out (by omega))
      have hr := HM.out.rd
      clear hu0 hu
      cases hd : docsOkB acc with
      | true =>
        have hst := Lib.hid (rd_yes hall.out hd)
        have H8 := Lib.hid (show Calls Try.prog 36 #[.slice A m c] wr fun e w' => e = .returned (.bool true) ∧ Below wr.heap.size wr w' by
          have h := implDocsOk_any A m c acc wr (by omega) Hm.out hr hS.out
          rwa [hd] at h)
        clear hd hr
        go_wp2_with fail
        refine H8.out.mono ?_
        rintro e w2 ⟨rfl, h2⟩
        have hM2 := Lib.hid (Mine.next HM.out h2)
        go_wp2
        go_ret2
        rw [hst.out]
        exact ⟨A, c, by rw [show (acc, true).1.length = m from Hm.out]; rfl, by rw [show (acc, true).1.length = m from Hm.out]; exact hM2.out, below_next hb h2⟩
      | false =>
        have hst := Lib.hid (rd_no hall.out hd)
        have H8 := Lib.hid (show Calls Try.prog 36 #[.slice A m c] wr fun e w' => e = .returned (.bool false) ∧ Below wr.heap.size wr w' by
          have h := implDocsOk_any A m c acc wr (by omega) Hm.out hr hS.out
          rwa [hd] at h)
        clear hd hr
        go_wp2_with fail
        refine H8.out.mono ?_
        rintro e w2 ⟨rfl, h2⟩
        go_wp2
        go_ret2
        rw [hst.out]
        exact ⟨none, 0, rfl, Mine.mk_nil _ _ _ _, below_next hb h2⟩
    · have hu1 : 0 < u.size := by omega
      have hne := ne_nil hu1
      have hne2 : (!u.toList.isEmpty) = true := by rw [List.isEmpty_eq_false_iff.2 hne]; rfl
      have hrest := rest_size hu1
      have hline := line_size u
      obtain ⟨line, hln⟩ : ∃ line, cutLine u = line := ⟨_, rfl⟩
      obtain ⟨rest, hrs⟩ : ∃ rest, cutRest u = rest := ⟨_, rfl⟩
      have HC := Lib.hid (fun w => show Calls Try.prog 53 #[.string u, .string ⟨#[10]⟩] w (fun e w' => ∃ b : Bool, e = .returned (.tuple #[.string line, .string rest, .bool b]) ∧ Below w.heap.size w w') from (by rw [← hln, ← hrs]; exact cut_any u w (by omega)))
      rw [hln] at hline
      rw [hrs] at hrest
      have HL := Lib.hid hln
      have HR := Lib.hid hrs
      obtain ⟨nm, hnmv⟩ : ∃ nm, nameOf line = nm := ⟨_, rfl⟩
      have hpz : nm.size ≤ 1048576 := by rw [← hnmv]; have := name_size line; omega
      have HX := Lib.hid (fun (b : Bool) (hb : markedB line = b) w => show Calls Try.prog 54 #[.string line, .string ⟨#[61, 61, 61, 32]⟩] w (fun e w' => e = .returned (.tuple #[.string nm, .bool b]) ∧ w = w') from (by rw [← hnmv, ← hb]; exact cutPrefix_any line w))
      have HO := Lib.hid (fun (b : Bool) (hb : nmOk nm = b) w => show Calls Try.prog 55 #[.string nm] w (fun e w' => e = .returned (.bool b) ∧ w = w') from (by rw [← hb]; exact isDocName_any nm w (by unfold maxLen; omega)))
      have HP := Lib.hid (show headOf line = if markedB line && nmOk nm then some nm else none from (by rw [← hnmv]; exact head_of_parts line))
      clear hln hrs hnmv
      go_wp2_with fail
      refine (HC.out _).mono ?_
      rintro e w2 ⟨b, rfl, h2⟩
      have hM2 := Lib.hid (HM.out.next h2)
      replace hb := below_next hb h2
      clear HM h2
      cases hmk : markedB line with
      | false =>
        have HX1 := Lib.hid (HX.out _ hmk)
        clear HX HO
        have hst0 := Lib.hid (show headOf (cutLine u) = none from (by rw [HL.out, HP.out]; simp [hmk]))
        clear HP hmk
        rcases nil_or_snoc acc with rfl | ⟨ini, ⟨x0, x1⟩, rfl⟩
        · obtain rfl : m = 0 := Hm.out.symm
          have hst := Lib.hid (rdTo_none hat.out hu1 hst0.out)
          go_wp2_with ((go_at_call 54; refine (HX1.out _).mono ?_; rintro e w3 ⟨rfl, rfl⟩))
          go_ret2
          rw [hst.out]
          exact ⟨none, 0, rfl, Mine.mk_nil _ _ _ _, hb⟩
        · have hst := rdTo_text hat.out hu1 hst0.out
          rw [HL.out, HR.out] at hst
          replace hst := Lib.hid hst
          obtain ⟨q, hq⟩ : ∃ q, ini.length = q := ⟨_, rfl⟩
          obtain rfl : m = q + 1 := by have := Hm.out; simp at this; omega
          have Hq := Lib.hid hq
          rcases Mine.own hM2.out with ⟨_, h0, _⟩ | ⟨g, rfl, hgB, hqc, hcm, ho⟩
          · omega
          have h8 := Lib.hid (hsz.out (x0, x1) (List.mem_append.2 (.inr (by simp))))
          have z1 : x1.size ≤ 3000 := h8.out.2
          have hg := ho.lt
          have fz := ho.frozen
          have hr := Lib.hid ((ho.rd (size := 2) (n := q + 1) (Mine.len hM2.out)))
          obtain ⟨b9, o9, e9, _, d0, d1⟩ := doc_at hr.out (k := q) (by omega) (show (ini ++ [(x0, x1)])[q]? = some (x0, x1) by subst hq; simp)
          injection e9 with e9
          injection e9 with e9 e10
          subst e9; subst e10
          simp only [Nat.zero_add] at d0 d1
          have HO := Lib.hid ho
          have hcap : q * 2 + 1 < c * 2 := by omega
          have hqc2 := Lib.hid (And.intro hqc hcm)
          clear ho hq hr hqc hcm
          by_cases hbig : 3000 < x1.size + (line.size + 1)
          · have hno := Lib.hid (rdTo_big hst.out (big_last (by rw [ByteArray.size_append, ByteArray.size_append]; exact hbig)))
            go_wp2_with ((go_at_call 54; refine (HX1.out _).mono ?_; rintro e w3 ⟨rfl, rfl⟩))
            go_ret2
            rw [hno.out]
            exact ⟨none, 0, rfl, Mine.mk_nil _ _ _ _, (by repeat' (first | (with_reducible exact Below.refl _ _) | (with_reducible assumption) | (with_reducible refine below_drewN ?_ _) | (with_reducible refine Below.drew ?_) | (with_reducible refine Below.alloc ?_ ?_ _) | (with_reducible refine Below.setCell ?_ ?_ _) | go_size))⟩
          · go_wp2_with ((go_at_call 54; refine (HX1.out _).mono ?_; rintro e w3 ⟨rfl, rfl⟩))
            go_roundw
            case rel =>
              have ho2 := Own.set (i := q * 2 + 1) HO.out (by rw [flat_len docCells docCells_len, Hm.out]; omega) (.string (x1 ++ (line ++ ⟨#[10]⟩)))
              rw [← Hq.out, set_text, Hq.out] at ho2
              have hl2 : (ini ++ [(x0, x1 ++ (line ++ (⟨#[10]⟩ : ByteArray)))]).length = q + 1 := by simp [Hq.out]
              have hM3 := Mine.mk_own (n := q + 1) (B := w.heap.size) (s := 2) ho2 (by rw [flat_len docCells docCells_len, hl2]) hgB hqc2.out.1 hqc2.out.2
              refine ⟨rest, ini ++ [(x0, x1 ++ (line ++ (⟨#[10]⟩ : ByteArray)))], some ⟨g, 0, none⟩, c, rfl, by rw [hl2], by rw [hl2]; omega, by omega, hst, szTo_snoc (szTo_left hsz.out) (by omega) h8.out.1 ?_, (by rw [hl2]; exact hM3), (by repeat' (first | (with_reducible exact Below.refl _ _) | (with_reducible assumption) | (with_reducible refine below_drewN ?_ _) | (with_reducible refine Below.drew ?_) | (with_reducible refine Below.alloc ?_ ?_ _) | (with_reducible refine Below.setCell ?_ ?_ _) | go_size))⟩
              rw [ByteArray.size_append, ByteArray.size_append, show (⟨#[10]⟩ : ByteArray).size = 1 from rfl]
              omega
            case measure => simp only [szV]; omega
      | true =>
        have HX1 := Lib.hid (HX.out _ hmk)
        clear HX
        cases hok : nmOk nm with
        | false =>
          have HO1 := Lib.hid (HO.out _ hok)
          clear HO
          have hst0 := Lib.hid (show headOf (cutLine u) = none from (by rw [HL.out, HP.out]; simp [hok]))
          clear HP hmk hok
          rcases nil_or_snoc acc with rfl | ⟨ini, ⟨x0, x1⟩, rfl⟩
          · obtain rfl : m = 0 := Hm.out.symm
            have hst := Lib.hid (rdTo_none hat.out hu1 hst0.out)
            go_wp2_with (first | (go_at_call 54; refine (HX1.out _).mono ?_; rintro e w3 ⟨rfl, rfl⟩) | (go_at_call 55; refine (HO1.out _).mono ?_; rintro e w3 ⟨rfl, rfl⟩))
            go_ret2
            rw [hst.out]
            exact ⟨none, 0, rfl, Mine.mk_nil _ _ _ _, hb⟩
          · have hst := rdTo_text hat.out hu1 hst0.out
            rw [HL.out, HR.out] at hst
            replace hst := Lib.hid hst
            obtain ⟨q, hq⟩ : ∃ q, ini.length = q := ⟨_, rfl⟩
            obtain rfl : m = q + 1 := by have := Hm.out; simp at this; omega
            have Hq := Lib.hid hq
            rcases Mine.own hM2.out with ⟨_, h0, _⟩ | ⟨g, rfl, hgB, hqc, hcm, ho⟩
            · omega
            have h8 := Lib.hid (hsz.out (x0, x1) (List.mem_append.2 (.inr (by simp))))
            have z1 : x1.size ≤ 3000 := h8.out.2
            have hg := ho.lt
            have fz := ho.frozen
            have hr := Lib.hid ((ho.rd (size := 2) (n := q + 1) (Mine.len hM2.out)))
            obtain ⟨b9, o9, e9, _, d0, d1⟩ := doc_at hr.out (k := q) (by omega) (show (ini ++ [(x0, x1)])[q]? = some (x0, x1) by subst hq; simp)
            injection e9 with e9
            injection e9 with e9 e10
            subst e9; subst e10
            simp only [Nat.zero_add] at d0 d1
            have HO := Lib.hid ho
            have hcap : q * 2 + 1 < c * 2 := by omega
            have hqc2 := Lib.hid (And.intro hqc hcm)
            clear ho hq hr hqc hcm
            by_cases hbig : 3000 < x1.size + (line.size + 1)
            · have hno := Lib.hid (rdTo_big hst.out (big_last (by rw [ByteArray.size_append, ByteArray.size_append]; exact hbig)))
              go_wp2_with (first | (go_at_call 54; refine (HX1.out _).mono ?_; rintro e w3 ⟨rfl, rfl⟩) | (go_at_call 55; refine (HO1.out _).mono ?_; rintro e w3 ⟨rfl, rfl⟩))
              go_ret2
              rw [hno.out]
              exact ⟨none, 0, rfl, Mine.mk_nil _ _ _ _, (by repeat' (first | (with_reducible exact Below.refl _ _) | (with_reducible assumption) | (with_reducible refine below_drewN ?_ _) | (with_reducible refine Below.drew ?_) | (with_reducible refine Below.alloc ?_ ?_ _) | (with_reducible refine Below.setCell ?_ ?_ _) | go_size))⟩
            · go_wp2_with (first | (go_at_call 54; refine (HX1.out _).mono ?_; rintro e w3 ⟨rfl, rfl⟩) | (go_at_call 55; refine (HO1.out _).mono ?_; rintro e w3 ⟨rfl, rfl⟩))
              go_roundw
              case rel =>
                have ho2 := Own.set (i := q * 2 + 1) HO.out (by rw [flat_len docCells docCells_len, Hm.out]; omega) (.string (x1 ++ (line ++ ⟨#[10]⟩)))
                rw [← Hq.out, set_text, Hq.out] at ho2
                have hl2 : (ini ++ [(x0, x1 ++ (line ++ (⟨#[10]⟩ : ByteArray)))]).length = q + 1 := by simp [Hq.out]
                have hM3 := Mine.mk_own (n := q + 1) (B := w.heap.size) (s := 2) ho2 (by rw [flat_len docCells docCells_len, hl2]) hgB hqc2.out.1 hqc2.out.2
                refine ⟨rest, ini ++ [(x0, x1 ++ (line ++ (⟨#[10]⟩ : ByteArray)))], some ⟨g, 0, none⟩, c, rfl, by rw [hl2], by rw [hl2]; omega, by omega, hst, szTo_snoc (szTo_left hsz.out) (by omega) h8.out.1 ?_, (by rw [hl2]; exact hM3), (by repeat' (first | (with_reducible exact Below.refl _ _) | (with_reducible assumption) | (with_reducible refine below_drewN ?_ _) | (with_reducible refine Below.drew ?_) | (with_reducible refine Below.alloc ?_ ?_ _) | (with_reducible refine Below.setCell ?_ ?_ _) | go_size))⟩
                rw [ByteArray.size_append, ByteArray.size_append, show (⟨#[10]⟩ : ByteArray).size = 1 from rfl]
                omega
              case measure => simp only [szV]; omega
        | true =>
          have HO1 := Lib.hid (HO.out _ hok)
          clear HO
          have hst0 := Lib.hid (show headOf (cutLine u) = some nm from (by rw [HL.out, HP.out]; simp [hmk, hok]))
          have hst := rdTo_head hat.out hu1 hst0.out
          rw [HR.out] at hst
          replace hst := Lib.hid hst
          have hns := Lib.hid (head_size hst0.out)
          clear HP hmk hok
          have HL3 := Lib.hid (show (acc ++ [(nm, (⟨#[]⟩ : ByteArray))]).length = m + 1 by rw [List.length_append, Hm.out]; rfl)
          have hat3 := Lib.hid (show (acc ++ [(nm, (⟨#[]⟩ : ByteArray))])[m]? = some (nm, ⟨#[]⟩) by rw [← Hm.out]; simp)
          by_cases h6 : m = 6
          · have hno := Lib.hid (rdTo_big hst.out (.inl (by rw [HL3.out, h6]; omega)))
            have hm6 : 6 ≤ m := by omega
            clear h6
            go_wp2_with (first
              | (go_at_call 54; refine (HX1.out _).mono ?_; rintro e w3 ⟨rfl, rfl⟩)
              | (go_at_call 55; refine (HO1.out _).mono ?_; rintro e w3 ⟨rfl, rfl⟩)
              | (at_builtin
                 refine wpList_append_own _ rfl (.tmp 43) (.tmp 46) _ rfl w.heap.size 58 i0 (.agg #[.string ⟨#[]⟩, .string ⟨#[]⟩]) 2 32 Try.underlying26 HI.out.1 HI.out.2.1 HI.out.2.2.1 HI.out.2.2.2 rfl (by decide) _ _ _ rfl (Mine.alloc hM2.out _) ⟨w2.heap.size, 0, none⟩ 1 1 [.string nm, .string ⟨#[]⟩] rfl rfl (cell_two_new _ _ _ _) (fun x hx => by simp at hx; rcases hx with rfl | rfl <;> rfl) (by unfold maxLen; omega) (by omega) (by have := hb.size; simp; omega) ?_
                 intro v' w4 hown4 hg4 hnil4
                 have hb4 : Below w.heap.size w w4 := Below.grown (hb.alloc hb.size (.cells #[.string nm, .string ⟨#[]⟩] 58)) hg4 (Below.size (hb.alloc hb.size (.cells #[.string nm, .string ⟨#[]⟩] 58))) (fun g hg => block_of_own hM2.out hg)
                 obtain ⟨A3, c3, rfl, m3⟩ := Mine.of hown4
                 rw [← snoc_cells] at m3
                 obtain ⟨b9, o9, rfl, hz9, d0, d1⟩ := doc_at m3.rd (k := m) (by omega) hat3.out
                 have HM3 := Lib.hid m3
                 clear hown4 m3 hg4 hnil4))
            go_ret2
            rw [hno.out]
            exact ⟨none, 0, rfl, Mine.mk_nil _ _ _ _, hb4⟩
          · have hm5 : m ≤ 5 := by omega
            go_wp2_with (first
              | (go_at_call 54; refine (HX1.out _).mono ?_; rintro e w3 ⟨rfl, rfl⟩)
              | (go_at_call 55; refine (HO1.out _).mono ?_; rintro e w3 ⟨rfl, rfl⟩)
              | (at_builtin
                 refine wpList_append_own _ rfl (.tmp 43) (.tmp 46) _ rfl w.heap.size 58 i0 (.agg #[.string ⟨#[]⟩, .string ⟨#[]⟩]) 2 32 Try.underlying26 HI.out.1 HI.out.2.1 HI.out.2.2.1 HI.out.2.2.2 rfl (by decide) _ _ _ rfl (Mine.alloc hM2.out _) ⟨w2.heap.size, 0, none⟩ 1 1 [.string nm, .string ⟨#[]⟩] rfl rfl (cell_two_new _ _ _ _) (fun x hx => by simp at hx; rcases hx with rfl | rfl <;> rfl) (by unfold maxLen; omega) (by omega) (by have := hb.size; simp; omega) ?_
                 intro v' w4 hown4 hg4 hnil4
                 have hb4 : Below w.heap.size w w4 := Below.grown (hb.alloc hb.size (.cells #[.string nm, .string ⟨#[]⟩] 58)) hg4 (Below.size (hb.alloc hb.size (.cells #[.string nm, .string ⟨#[]⟩] 58))) (fun g hg => block_of_own hM2.out hg)
                 obtain ⟨A3, c3, rfl, m3⟩ := Mine.of hown4
                 rw [← snoc_cells] at m3
                 obtain ⟨b9, o9, rfl, hz9, d0, d1⟩ := doc_at m3.rd (k := m) (by omega) hat3.out
                 have HM3 := Lib.hid m3
                 clear hown4 m3 hg4 hnil4))
            go_roundw
            case rel => exact ⟨rest, acc ++ [(nm, (⟨#[]⟩ : ByteArray))], _, c3, rfl, by rw [HL3.out], by rw [HL3.out]; omega, by omega, hst, szTo_snoc hsz.out (by omega) hns.out (by simp [ByteArray.size]), (by rw [HL3.out]; exact HM3.out), hb4⟩
            case measure => simp only [szV]; omega
end Go.Proofs.Ytfapdhfjcnehhaa


/-
  Files read from a text: what the lines come to; the reference's way (spec.ReadDocs).
-/
import Derived.Test.YtfapdhfjcnehhaaRead
import Derived.Test.YtfapdhfjcnehhaaMarkP
import Derived.Deep.DeepCutAuto
import Derived.Deep.CutBlock
namespace Go.Proofs.Ytfapdhfjcnehhaa
open Go.RowKit
set_option linter.unusedVariables false

/-- A line more on the last file. -/
def addText : List DocD → ByteArray → List DocD
  | [], _ => []
  | d :: l, s => if l.isEmpty then [(d.1, d.2 ++ s)] else d :: addText l s
theorem addText_last (ini : List DocD) (x0 x1 s : ByteArray) : addText (ini ++ [(x0, x1)]) s = ini ++ [(x0, x1 ++ s)] := by
  induction ini with
  | nil => simp [addText]
  | cons d l ih => simp [addText, ih]
def rdGo : List ByteArray → List DocD → Option (List DocD)
  | [], acc => some acc
  | l :: ls, acc => match headOf l with
    | some n => rdGo ls (acc ++ [(n, ⟨#[]⟩)])
    | none => if acc.isEmpty then none else rdGo ls (addText acc (l ++ ⟨#[10]⟩))
/-- The files of a text, and whether they are right. -/
def readDocs (t : ByteArray) : List DocD × Bool := match rdGo (linesOf t) [] with
  | none => ([], false)
  | some acc => if docsOkB acc then (acc, true) else ([], false)
theorem rd_none {t : ByteArray} (h : rdGo (linesOf t) [] = none) : readDocs t = ([], false) := by unfold readDocs; rw [h]
theorem rd_no {t : ByteArray} {acc : List DocD} (h : rdGo (linesOf t) [] = some acc) (h2 : docsOkB acc = false) : readDocs t = ([], false) := by unfold readDocs; rw [h]; simp [h2]
theorem rd_yes {t : ByteArray} {acc : List DocD} (h : rdGo (linesOf t) [] = some acc) (h2 : docsOkB acc = true) : readDocs t = (acc, true) := by unfold readDocs; rw [h]; simp [h2]
theorem drop_at' {α : Type} {l : List α} {k : Nat} {d : α} (h : l[k]? = some d) : l.drop k = d :: l.drop (k + 1) := by
  have hk : k < l.length := (List.getElem?_eq_some_iff.1 h).1
  rw [List.drop_eq_getElem_cons hk]
  congr 1
  exact Option.some.inj ((List.getElem?_eq_getElem hk).symm.trans h)
def RdAt (ls : List ByteArray) (k : Nat) (acc : List DocD) : Prop := rdGo ls [] = rdGo (ls.drop k) acc
theorem rdAt_zero (ls : List ByteArray) : RdAt ls 0 [] := by simp [RdAt]
theorem rdAt_head {ls : List ByteArray} {k : Nat} {acc : List DocD} {l n : ByteArray} (h : RdAt ls k acc) (hl : ls[k]? = some l) (hh : headOf l = some n) : RdAt ls (k + 1) (acc ++ [(n, ⟨#[]⟩)]) := by
  unfold RdAt at h ⊢
  rw [h, drop_at' hl, rdGo, hh]
theorem rdAt_none {ls : List ByteArray} {k : Nat} {l : ByteArray} (h : RdAt ls k []) (hl : ls[k]? = some l) (hh : headOf l = none) : rdGo ls [] = none := by
  unfold RdAt at h
  rw [h, drop_at' hl, rdGo, hh]; rfl
theorem rdAt_text {ls : List ByteArray} {k : Nat} {ini : List DocD} {x0 x1 l : ByteArray} (h : RdAt ls k (ini ++ [(x0, x1)])) (hl : ls[k]? = some l) (hh : headOf l = none) : RdAt ls (k + 1) (ini ++ [(x0, x1 ++ (l ++ ⟨#[10]⟩))]) := by
  unfold RdAt at h ⊢
  rw [h, drop_at' hl, rdGo, hh]
  simp only []
  rw [if_neg (by simp), addText_last]
theorem rdAt_all {ls : List ByteArray} {k : Nat} {acc : List DocD} (h : RdAt ls k acc) (hk : ls.length ≤ k) : rdGo ls [] = some acc := by
  unfold RdAt at h
  rw [h, List.drop_eq_nil_of_le hk, rdGo]
theorem head_size {l n : ByteArray} (h : headOf l = some n) : n.size ≤ 12 := by
  unfold headOf at h
  split at h
  · rename_i h2
    injection h with h
    subst h
    exact nmOk_size h2.2
  · cases h

/-- All lines with their ends are not longer than the text and one end. -/
theorem linesGo_size (l : List UInt8) : ∀ acc : List UInt8, ((linesGo acc l).map (fun s : ByteArray => s.size + 1)).sum ≤ acc.length + l.length + 1 := by
  induction l with
  | nil =>
    intro acc
    rw [linesGo]
    split
    · simp
    · simp [size_mk]
  | cons c l ih =>
    intro acc
    rw [linesGo]
    split
    · have := ih []
      simp only [List.map_cons, List.sum_cons, size_mk, List.length_cons, List.length_nil] at this ⊢
      omega
    · have := ih (acc ++ [c])
      simp only [List.length_append, List.length_cons, List.length_nil] at this ⊢
      omega
def lineSz (s : ByteArray) : Nat := s.size + 1
theorem lines_size (t : ByteArray) : ((linesOf t).map lineSz).sum ≤ t.size + 1 := by
  have h := linesGo_size t.data.toList []
  rw [ba_len] at h
  have e : lineSz = fun s : ByteArray => s.size + 1 := rfl
  rw [e]
  simpa [linesOf] using h
theorem sum_len (ls : List ByteArray) : ls.length ≤ (ls.map lineSz).sum := by
  induction ls with
  | nil => simp
  | cons a l ih => simp only [List.map_cons, List.sum_cons, List.length_cons, lineSz] at ih ⊢; omega
theorem lines_len (t : ByteArray) : (linesOf t).length ≤ t.size + 1 := Nat.le_trans (sum_len _) (lines_size t)

theorem infoDocI : (Try.prog.info? 58).map (fun i => (i.zero, i.size, i.bytes)) = some (some (.agg #[.string ⟨#[]⟩, .string ⟨#[]⟩]), 2, 32) := by kernel_rfl
theorem cell_two_new (w : World) (u v : Value) (t : TypeId) : ∀ j x, [u, v][j]? = some x → (w.alloc (.cells #[u, v] t)).cell? ((⟨w.heap.size, 0, none⟩ : Addr).add j) = some x := by
  intro j x hj
  match j, hj with
  | 0, hj => obtain rfl := Option.some.inj hj; exact (Blk.new w t #[u, v]).cell 0
  | 1, hj => obtain rfl := Option.some.inj hj; exact (Blk.new w t #[u, v]).cell 1
  | j + 2, hj => simp at hj
theorem set_text (ini : List DocD) (x0 x1 u : ByteArray) : ((ini ++ [(x0, x1)]).flatMap docCells).set (ini.length * 2 + 1) (.string u) = (ini ++ [(x0, u)]).flatMap docCells := by
  have h : (ini.flatMap docCells).length = ini.length * 2 := flat_len docCells docCells_len ini
  rw [List.flatMap_append, List.set_append_right _ _ (by omega), h, List.flatMap_append]
  congr 1
  rw [show ini.length * 2 + 1 - ini.length * 2 = 1 by omega]
  rfl
theorem snoc_cells (acc : List DocD) (n u : ByteArray) : (acc ++ [(n, u)]).flatMap docCells = acc.flatMap docCells ++ [.string n, .string u] := by
  simp [docCells]
theorem Mine.apart {w : World} {B B' : Nat} {e e' : TypeId} {s s' : Nat} {A A' : Option Addr} {n c n' c' : Nat} {xs xs' : List Value} (h : Mine w B e s A n c xs) (h' : Mine w B' e' s' A' n' c' xs') (hne : e ≠ e') {g : Nat} (hg : A'.map (·.block) = some g) : A.map (·.block) ≠ some g := by
  intro h2
  rcases h.own with ⟨rfl, _⟩ | ⟨a, rfl, _, _, _, r, hb, _⟩
  · simp at h2
  · rcases h'.own with ⟨rfl, _⟩ | ⟨a', rfl, _, _, _, r', hb', _⟩
    · simp at hg
    · simp at h2 hg
      subst h2; subst hg
      have := hb.symm.trans hb'
      injection this with this
      injection this with _ this
      exact hne this

theorem nil_or_snoc {α : Type} (l : List α) : l = [] ∨ ∃ i d, l = i ++ [d] := by
  by_cases h : l = []
  · exact .inl h
  · exact .inr ⟨l.dropLast, l.getLast h, (List.dropLast_concat_getLast h).symm⟩
theorem ownBlk (A : Option Addr) (n c : Nat) : (Value.slice A n c).ownBlock = A.map (·.block) := by cases A <;> rfl
/-- No file is longer than what has been read. -/
def SzTo (acc : List DocD) (s : Nat) : Prop := ∀ d ∈ acc, d.1.size ≤ 12 ∧ d.2.size ≤ s
theorem szTo_snoc {acc : List DocD} {s s' : Nat} {n u : ByteArray} (h : SzTo acc s) (hs : s ≤ s') (hn : n.size ≤ 12) (hu : u.size ≤ s') : SzTo (acc ++ [(n, u)]) s' := by
  intro d hd
  rcases List.mem_append.1 hd with h1 | h1
  · have := h d h1; omega
  · simp at h1; subst h1; exact ⟨hn, hu⟩
theorem szTo_left {ini : List DocD} {d : DocD} {s : Nat} (h : SzTo (ini ++ [d]) s) : SzTo ini s := fun x hx => h x (List.mem_append.2 (.inl hx))
theorem szTo_ok {acc : List DocD} {s : Nat} (h : SzTo acc s) (hs : s ≤ 4194304) : ∀ d ∈ acc, OkDoc d := fun d hd => by
  have := h d hd
  unfold OkDoc maxLen
  omega
/-- The files that are read, in a slice of the call's own. -/
def DocsR (w : World) (r : List DocD × Bool) (e : Ending) (w' : World) : Prop :=
  ∃ (A : Option Addr) (c : Nat), e = .returned (.tuple #[.slice A r.1.length c, .bool r.2]) ∧ Mine w' w.heap.size 58 2 A r.1.length c (r.1.flatMap docCells) ∧ Below w.heap.size w w'

set_option maxRecDepth 100000 in
set_option maxHeartbeats 1600000 in
theorem specReadDocs_any (t : ByteArray) (w : World) (ht : t.size ≤ 1048576) : Calls Try.prog 27 #[.string t] w (DocsR w (readDocs t)) := by
  obtain ⟨i0, hi, hz0, hz1, hz2⟩ := info_parts infoDocI
  have HI := Lib.hid (And.intro hi (And.intro hz0 (And.intro hz1 hz2)))
  obtain ⟨ls, hls⟩ : ∃ ls, linesOf t = ls := ⟨_, rfl⟩
  have HLS := Lib.hid hls
  have HN := Lib.hid (show ls.length ≤ 1048577 by subst hls; have := lines_len t; omega)
  have HZ := Lib.hid (show (ls.map lineSz).sum ≤ 1048577 by subst hls; have := lines_size t; omega)
  have H9 := Lib.hid (fun w => show Calls Try.prog 51 #[.string t] w (StrsP w ls) from (by rw [← hls]; exact specLinesOf_any t w (by omega)))
  clear hi hz0 hz1 hz2 hls
  go_enter Try.func27, Try.ntmps27
  go_wp2_with fail
  refine (H9.out _).mono ?_
  rintro e w1 ⟨v, rfl, hown, h1⟩
  obtain ⟨AL, cL, rfl, mL⟩ := Mine.of hown
  have m0 : Mine w1 w.heap.size 58 2 (some ⟨w.heap.size, 0, none⟩) 0 0 [] := Mine.next (own_empty w 58 2) h1
  have mL' := Lib.hid (mL.more (B' := w.heap.size + 1) (by simp))
  have M0 := Lib.hid m0
  have hb := below_next1 (Below.refl _ _) h1
  clear hown H9 h1 mL m0
  obtain ⟨nl, hnl⟩ : ∃ nl, ls.length = nl := ⟨_, rfl⟩
  have hnl1 : nl ≤ 1048577 := by have := HN.out; omega
  rw [hnl] at mL'
  rw [hnl]
  have HNL := Lib.hid hnl
  clear hnl
  go_wp2
  go_loopw [4, 6] (fun o i wr => ∃ (k : Nat) (acc : List DocD) (A : Option Addr) (c : Nat), k ≤ nl ∧ acc.length ≤ k ∧ i = .int .i64 k ∧ o = .slice A acc.length c ∧ Hid (RdAt ls k acc) ∧ Hid (SzTo acc (sumK lineSz ls k)) ∧ Hid (Mine wr w.heap.size 58 2 A acc.length c (acc.flatMap docCells)) ∧ Hid (Mine wr (w.heap.size + 1) 9 1 AL nl cL (strCells ls)) ∧ Below w.heap.size w wr) (fun _ i _ => nl - (intOf i).toNat)
  case atStart => exact ⟨0, [], _, 0, Nat.zero_le _, Nat.le_refl _, rfl, rfl, rdAt_zero ls, (fun d hd => absurd hd (by simp)), M0, mL', hb⟩
  case round =>
    clear mL' M0 hb
    obtain ⟨k, acc, A, c, hk, hak, rfl, rfl, hat, hsz, HM, HL, hb⟩ := hrel
    by_cases hkn : k < nl
    · obtain ⟨l, hl⟩ : ∃ l, ls[k]? = some l := ⟨_, List.getElem?_eq_getElem (by have := HNL.out; omega)⟩
      obtain ⟨b', off, rfl, hblt, c0⟩ := str_at HL.out.rd hkn hl
      have hsk := sumK_succ lineSz ls k l hl
      have hsl := sumK_le lineSz ls (k + 1)
      have e9 : lineSz l = l.size + 1 := rfl
      have hlz : l.size ≤ 1048577 := by have := HZ.out; omega
      have hsk' := Lib.hid (show sumK lineSz ls k + (l.size + 1) ≤ 1048577 by have := HZ.out; omega)
      have HSK := Lib.hid (show sumK lineSz ls (k + 1) = sumK lineSz ls k + (l.size + 1) by omega)
      have hlh := Lib.hid hl
      clear hsk hsl e9 hl
      obtain ⟨m, hm⟩ : ∃ m, acc.length = m := ⟨_, rfl⟩
      rw [hm] at HM hak
      rw [hm]
      have Hm := Lib.hid hm
      clear hm
      cases hh : headOf l with
      | some nm =>
        have H8 := Lib.hid (fun w => show Calls Try.prog 52 #[.string l] w fun e w' => e = .returned (.tuple #[.string nm, .bool true]) ∧ w = w' from (l31Head_any l w (by omega)).mono (fun e w' h => by
          obtain ⟨h1, h2⟩ := h
          rw [hh] at h2
          exact ⟨h2, h1⟩))
        have hst := Lib.hid (rdAt_head hat.out hlh.out hh)
        have hns := Lib.hid (head_size hh)
        clear hh
        go_wp2_with (first
          | (go_at_call 52; refine (H8.out _).mono ?_; rintro e w2 ⟨rfl, rfl⟩)
          | (at_builtin; (refine wpList_append_own _ rfl (.tmp 27) (.tmp 30) _ rfl w.heap.size 58 i0 (.agg #[.string ⟨#[]⟩, .string ⟨#[]⟩]) 2 32 Try.underlying26 HI.out.1 HI.out.2.1 HI.out.2.2.1 HI.out.2.2.2 rfl (by decide) _ _ _ rfl (Mine.alloc HM.out _) ⟨wr.heap.size, 0, none⟩ 1 1 [.string nm, .string ⟨#[]⟩] rfl rfl (cell_two_new _ _ _ _) (fun x hx => by simp at hx; rcases hx with rfl | rfl <;> rfl) (by unfold maxLen; omega) (by omega) (by have := hb.size; simp; omega) ?_); intro v' w3 hown3 hg3 hnil3))
        have hb3 := hb.alloc hb.size (.cells #[.string nm, .string ⟨#[]⟩] 58)
        have hb4 : Below w.heap.size w w3 := hb3.grown hg3 hb3.size (fun g hg => block_of_own HM.out hg)
        have HL4 := Lib.hid (Mine.grown (Mine.alloc HL.out (.cells #[.string nm, .string ⟨#[]⟩] 58)) hg3 (fun g hg => .inr (Mine.apart HL.out HM.out (by decide) ((ownBlk A m c).symm.trans hg))))
        obtain ⟨A3, c3, rfl, m3⟩ := Mine.of hown3
        have HM3 := Lib.hid m3
        clear hown3 m3 hg3 hnil3 hb3
        go_wp2
        go_roundw
        case rel => exact ⟨k + 1, acc ++ [(nm, (⟨#[]⟩ : ByteArray))], A3, c3, by omega, by rw [List.length_append, Hm.out]; simp; omega, by go_num, by rw [List.length_append, Hm.out]; rfl, hst, szTo_snoc hsz.out (by rw [HSK.out]; omega) hns.out (by simp [ByteArray.size]), (by rw [List.length_append, Hm.out, snoc_cells]; exact HM3.out), HL4.out, hb4⟩
        case measure => simp [intOf]; omega
      | none =>
        have H8 := Lib.hid (fun w => show Calls Try.prog 52 #[.string l] w fun e w' => e = .returned (.tuple #[.string ⟨#[]⟩, .bool false]) ∧ w = w' from (l31Head_any l w (by omega)).mono (fun e w' h => by
          obtain ⟨h1, h2⟩ := h
          rw [hh] at h2
          exact ⟨h2, h1⟩))
        rcases nil_or_snoc acc with rfl | ⟨ini, ⟨x0, x1⟩, rfl⟩
        · obtain rfl : m = 0 := Hm.out.symm
          have hst := Lib.hid (rd_none (t := t) (by rw [HLS.out]; exact rdAt_none hat.out hlh.out hh))
          clear hh
          go_wp2_with (go_at_call 52; refine (H8.out _).mono ?_; rintro e w2 ⟨rfl, rfl⟩)
          go_ret2
          rw [hst.out]
          have hzz := hb.size
          exact ⟨some ⟨wr.heap.size, 0, none⟩, 0, rfl, Mine.more (own_empty wr _ 2) hb.size, (by repeat' (first | (with_reducible exact Below.refl _ _) | (with_reducible assumption) | (with_reducible refine below_drewN ?_ _) | (with_reducible refine Below.drew ?_) | (with_reducible refine Below.alloc ?_ ?_ _) | (with_reducible refine Below.setCell ?_ ?_ _) | go_size))⟩
        · have hst := Lib.hid (rdAt_text hat.out hlh.out hh)
          clear hh
          obtain ⟨q, hq⟩ : ∃ q, ini.length = q := ⟨_, rfl⟩
          obtain rfl : m = q + 1 := by have := Hm.out; simp at this; omega
          have Hq := Lib.hid hq
          rcases Mine.own HM.out with ⟨_, h0, _⟩ | ⟨g, rfl, hgB, hqc, hcm, ho⟩
          · omega
          have z1 : x1.size ≤ 1048577 := by have h8 : x1.size ≤ sumK lineSz ls k := (hsz.out (x0, x1) (List.mem_append.2 (.inr (by simp)))).2; have h9 := hsk'.out; omega
          have hg := ho.lt
          have fz := ho.frozen
          have hr := Lib.hid ((ho.rd (size := 2) (n := q + 1) (Mine.len HM.out)))
          obtain ⟨b9, o9, e9, _, d0, d1⟩ := doc_at hr.out (k := q) (by omega) (show (ini ++ [(x0, x1)])[q]? = some (x0, x1) by subst hq; simp)
          injection e9 with e9
          injection e9 with e9 e10
          subst e9; subst e10
          simp only [Nat.zero_add] at d0 d1
          have HO := Lib.hid ho
          have hcap : q * 2 + 1 < c * 2 := by omega
          have hqc2 := Lib.hid (And.intro hqc hcm)
          clear ho hq hr hqc hcm
          go_wp2_with (go_at_call 52; refine (H8.out _).mono ?_; rintro e w2 ⟨rfl, rfl⟩)
          have wq : IntKind.i64.wrap (q : Int) = q := IntWalk.i64_in _ (by omega)
          have iq : (q : Int) < q + 1 := by omega
          have hn1 : ¬ 9223372036854775807 < x1.size + l.size := by omega
          have hn2 : ¬ 9223372036854775807 < x1.size + l.size + 1 := by omega
          go_still_tail 19, (by kernel_rfl)
          change wpList _ _ _ _ _ wr.drew
          go_wp2
          go_roundw
          case rel =>
            have e5 : x1 ++ (l ++ ⟨#[10]⟩) = x1 ++ l ++ ⟨#[10]⟩ := ba_ext (by simp only [ba_app, List.append_assoc])
            have ho2 := Own.set (i := q * 2 + 1) HO.out.drew (by rw [flat_len docCells docCells_len, Hm.out]; omega) (.string (x1 ++ l ++ ⟨#[10]⟩))
            rw [← Hq.out, set_text, Hq.out] at ho2
            have hl2 : (ini ++ [(x0, x1 ++ l ++ (⟨#[10]⟩ : ByteArray))]).length = q + 1 := by simp [Hq.out]
            have hM2 := Mine.mk_own (n := q + 1) (B := w.heap.size) (s := 2) ho2 (by rw [flat_len docCells docCells_len, hl2]) hgB hqc2.out.1 hqc2.out.2
            have hL2 := Mine.grown HL.out.drew (grownBy_set _ g (q * 2 + 1) (.string (x1 ++ l ++ ⟨#[10]⟩))) (fun g' e => .inr (Mine.apart HL.out HM.out (by decide) (by rw [← e]; rfl)))
            have h8 := hsz.out (x0, x1) (List.mem_append.2 (.inr (by simp)))
            refine ⟨k + 1, ini ++ [(x0, x1 ++ l ++ (⟨#[10]⟩ : ByteArray))], some ⟨g, 0, none⟩, c, by omega, by rw [hl2]; omega, by go_num, by rw [hl2], (by rw [← e5]; exact hst.out), szTo_snoc (szTo_left hsz.out) (by rw [HSK.out]; omega) h8.1 ?_, (by rw [hl2]; exact hM2), hL2, (by repeat' (first | (with_reducible exact Below.refl _ _) | (with_reducible assumption) | (with_reducible refine below_drewN ?_ _) | (with_reducible refine Below.drew ?_) | (with_reducible refine Below.alloc ?_ ?_ _) | (with_reducible refine Below.setCell ?_ ?_ _) | go_size))⟩
            have h9 : x1.size ≤ sumK lineSz ls k := h8.2
            rw [HSK.out, ByteArray.size_append, ByteArray.size_append, show (⟨#[10]⟩ : ByteArray).size = 1 from rfl]
            omega
          case measure => simp [intOf]; omega
    · obtain rfl : k = nl := by omega
      have hall := Lib.hid (rdAt_all hat.out (by have := HNL.out; omega))
      have hsl := sumK_le lineSz ls k
      have hS := Lib.hid (szTo_ok hsz.out (by have := HZ.out; omega))
      have hr := HM.out.rd
      clear hsl
      obtain ⟨m, hm⟩ : ∃ m, acc.length = m := ⟨_, rfl⟩
      rw [hm] at HM hak hr
      rw [hm]
      have Hm := Lib.hid hm
      clear hm
      cases hd : docsOkB acc with
      | true =>
        have hst := Lib.hid (rd_yes (t := t) (by rw [HLS.out]; exact hall.out) hd)
        have H8 := Lib.hid (show Calls Try.prog 35 #[.slice A m c] wr fun e w' => e = .returned (.bool true) ∧ Below wr.heap.size wr w' by
          have h := specDocsOk_any A m c acc wr (by omega) Hm.out hr hS.out
          rwa [hd] at h)
        clear hd hr
        go_wp2_with fail
        refine H8.out.mono ?_
        rintro e w2 ⟨rfl, h2⟩
        have hM2 := Lib.hid (Mine.next HM.out h2)
        go_wp2
        go_ret2
        rw [hst.out]
        exact ⟨A, c, by rw [show (acc, true).1.length = m from Hm.out]; rfl, by rw [show (acc, true).1.length = m from Hm.out]; exact hM2.out, below_next hb h2⟩
      | false =>
        have hst := Lib.hid (rd_no (t := t) (by rw [HLS.out]; exact hall.out) hd)
        have H8 := Lib.hid (show Calls Try.prog 35 #[.slice A m c] wr fun e w' => e = .returned (.bool false) ∧ Below wr.heap.size wr w' by
          have h := specDocsOk_any A m c acc wr (by omega) Hm.out hr hS.out
          rwa [hd] at h)
        clear hd hr
        go_wp2_with fail
        refine H8.out.mono ?_
        rintro e w2 ⟨rfl, h2⟩
        have hb2 := below_next hb h2
        have hz2 := hb2.size
        go_wp2
        go_ret2
        rw [hst.out]
        exact ⟨some ⟨w2.heap.size, 0, none⟩, 0, rfl, Mine.more (own_empty w2 _ 2) hz2, (by repeat' (first | (with_reducible exact Below.refl _ _) | (with_reducible assumption) | (with_reducible refine below_drewN ?_ _) | (with_reducible refine Below.drew ?_) | (with_reducible refine Below.alloc ?_ ?_ _) | (with_reducible refine Below.setCell ?_ ?_ _) | go_size))⟩
end Go.Proofs.Ytfapdhfjcnehhaa

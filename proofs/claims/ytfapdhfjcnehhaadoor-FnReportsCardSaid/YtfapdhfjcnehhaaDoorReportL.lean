
/-
  The lines of a piece as a text: plain words for the law FnReports.
-/
import Derived.Test.YtfapdhfjcnehhaaDoorShowQ
import Derived.Test.YtfapdhfjcnehhaaDoorLines
namespace Go.Proofs.YtfapdhfjcnehhaaDoor
open Go.RowKit
set_option linter.unusedVariables false

/-- One line with its end. -/
def OneL (l : List UInt8) : Prop := ∃ s, l = s ++ [10] ∧ ∀ c ∈ s, c ≠ 10
/-- No line end within. -/
def NoNl (l : List UInt8) : Prop := ∀ c ∈ l, c ≠ 10
theorem NoNl.app {a b : List UInt8} (h : NoNl a) (h2 : NoNl b) : NoNl (a ++ b) := fun c hc => (List.mem_append.1 hc).elim (h c) (h2 c)
theorem linesGo_noNl {s : List UInt8} (h : NoNl s) : ∀ (acc r : List UInt8), (linesGo acc (s ++ 10 :: r)).length = 1 + (linesGo [] r).length := by
  induction s with
  | nil => intro acc r; simp only [List.nil_append, linesGo, beq_self_eq_true, if_true, List.length_cons]; omega
  | cons x s ih =>
    intro acc r
    have hx : x ≠ 10 := h x (List.mem_cons_self ..)
    rw [List.cons_append, linesGo, if_neg (by simpa using hx)]
    exact ih (fun c hc => h c (List.mem_cons_of_mem _ hc)) _ r
theorem linesGo_one {l : List UInt8} (h : OneL l) (acc r : List UInt8) : (linesGo acc (l ++ r)).length = 1 + (linesGo [] r).length := by
  obtain ⟨s, rfl, hs⟩ := h
  rw [List.append_assoc, List.singleton_append]
  exact linesGo_noNl hs acc r
theorem linesGo_cat {α : Type} {f : Nat → α → ByteArray} {l : List α} (h : ∀ k d, l[k]? = some d → OneL (f k d).data.toList) : ∀ (k : Nat), k ≤ l.length → ∀ r, (linesGo [] (catK f l k ++ r)).length = k + (linesGo [] r).length := by
  intro k
  induction k with
  | zero => intro _ r; rw [catK_zero, List.nil_append]; omega
  | succ k ih =>
    intro hk r
    obtain ⟨d, hd⟩ : ∃ d, l[k]? = some d := ⟨_, List.getElem?_eq_getElem (by omega)⟩
    rw [catK_step hd, List.append_assoc, ih (by omega), linesGo_one (h k d hd)]
    omega
theorem byte_ofNat_ne {n : Nat} (h : 11 ≤ n) (h2 : n ≤ 200) : UInt8.ofNat n ≠ 10 := by
  intro e
  have := congrArg UInt8.toNat e
  simp at this
  omega
theorem decDigits_noNl (u : Nat) : NoNl (Lib.decDigits u) := by
  intro c hc
  rw [Lib.decDigits_eq, List.mem_map] at hc
  obtain ⟨t, _, rfl⟩ := hc
  exact byte_ofNat_ne (by omega) (by omega)
theorem decT_noNl (n : Int) : NoNl (decT n).data.toList := by
  show NoNl (Lib.itoa n)
  unfold Lib.itoa
  split
  · intro c hc
    rcases List.mem_cons.1 hc with rfl | h
    · decide
    · exact decDigits_noNl _ c h
  · exact decDigits_noNl _
theorem noNl_lit {l : List UInt8} (h : l.all (fun c => c != 10) = true) : NoNl l := fun c hc => by
  have := List.all_eq_true.1 h c hc
  simpa using this
theorem plain_noNl {s : ByteArray} (h : plainB s = true) : NoNl s.data.toList := fun c hc e => by
  have h2 := List.all_eq_true.1 h c hc
  rw [e] at h2
  exact absurd h2 (by decide)
theorem oneL_mk {s : ByteArray} (h : NoNl s.data.toList) : OneL (s ++ ⟨#[10]⟩ : ByteArray).data.toList := ⟨s.data.toList, by rw [ba_app], h⟩
theorem oneL_head (m : Int) : OneL (headS m).data.toList := by
  unfold headS
  refine oneL_mk ?_
  rw [ba_app]
  exact (noNl_lit (by rfl)).app (decT_noNl m)
theorem oneL_rule (k : Nat) (d : RuleD) : OneL (ruleS k d).data.toList := by
  unfold ruleS
  refine oneL_mk ?_
  simp only [ba_app]
  exact (((noNl_lit (by rfl)).app (decT_noNl _)).app (noNl_lit (by rfl))).app (decT_noNl _)
theorem oneL_span (k : Nat) (d : SpanD) : OneL (spanS k d).data.toList := by
  unfold spanS
  refine oneL_mk ?_
  simp only [ba_app]
  exact (((((noNl_lit (by rfl)).app (decT_noNl _)).app (noNl_lit (by rfl))).app (decT_noNl _)).app (noNl_lit (by rfl))).app (decT_noNl _)
theorem oneL_tie (k : Nat) (d : TieD) : OneL (tieS k d).data.toList := by
  unfold tieS
  refine oneL_mk ?_
  simp only [ba_app]
  exact (((noNl_lit (by rfl)).app (decT_noNl _)).app (noNl_lit (by rfl))).app (decT_noNl _)
theorem split_noNl (r f q : Int) : NoNl (splitS r f q).data.toList := by
  unfold splitS
  simp only [ba_app]
  exact (((((noNl_lit (by rfl)).app (decT_noNl _)).app (noNl_lit (by rfl))).app (decT_noNl _)).app (noNl_lit (by rfl))).app (decT_noNl _)
theorem oneL_chunk (n k : Nat) (d : ChunkD) (h : plainB d.1 = true) : OneL (chunkS n k d).data.toList := by
  unfold chunkS
  split
  · refine oneL_mk ?_
    rw [ba_app]
    refine (plain_noNl h).app ?_
    unfold splitT
    split
    · rw [ba_app]
      exact (split_noNl _ _ _).app (noNl_lit (by rfl))
    · exact split_noNl _ _ _
  · exact oneL_mk (plain_noNl h)
theorem chunk_plain {m : Int} {l0 : List RuleD} {l1 : List ChunkD} {l2 : List SpanD} {l3 : List TieD} (h : pieceB m l0 l1 l2 l3 = true) {k : Nat} {d : ChunkD} (hd : l1[k]? = some d) : plainB d.1 = true := by
  rw [pieceB_eq] at h
  simp only [Bool.and_eq_true, decide_eq_true_eq] at h
  obtain ⟨h0, h1, h2, h3, h4, h5, h6, h7, h8, h9⟩ := h
  unfold allIx at h6
  rw [List.all_eq_true] at h6
  have hk := (List.getElem?_eq_some_iff.1 hd).1
  have h10 := h6 k (List.mem_range.2 hk)
  rw [hd] at h10
  simp only [chunkB, Bool.and_eq_true] at h10
  exact h10.1
/-- The lines of a right piece: one for its place, each rule, chunk, span and tie. -/
theorem lines_piece {m : Int} {l0 : List RuleD} {l1 : List ChunkD} {l2 : List SpanD} {l3 : List TieD} (h : pieceB m l0 l1 l2 l3 = true) : (linesOf (showPieceT m l0 l1 l2 l3)).length = 1 + l0.length + l1.length + l2.length + l3.length := by
  unfold linesOf showPieceT
  rw [if_pos h]
  show (linesGo [] (showL m l0 l1 l2 l3)).length = _
  unfold showL
  rw [List.append_assoc, List.append_assoc, List.append_assoc, linesGo_one (oneL_head m), linesGo_cat (fun k d _ => oneL_rule k d) _ (Nat.le_refl _), linesGo_cat (fun k d hd => oneL_chunk _ k d (chunk_plain h hd)) _ (Nat.le_refl _), linesGo_cat (fun k d _ => oneL_span k d) _ (Nat.le_refl _)]
  have h3 := linesGo_cat (fun k d (_ : l3[k]? = some d) => oneL_tie k d) _ (Nat.le_refl _) []
  rw [List.append_nil] at h3
  rw [h3]
  simp only [linesGo, List.isEmpty_nil, if_true, List.length_nil]
  omega
/-- The report begins with the line for its place. -/
theorem begins_piece {m : Int} {l0 : List RuleD} {l1 : List ChunkD} {l2 : List SpanD} {l3 : List TieD} (h : pieceB m l0 l1 l2 l3 = true) : (headS m).size ≤ (showPieceT m l0 l1 l2 l3).size ∧ (showPieceT m l0 l1 l2 l3).extract 0 (headS m).size = headS m := by
  have e : (showPieceT m l0 l1 l2 l3).data.toList = (headS m).data.toList ++ (catK ruleS l0 l0.length ++ (catK (chunkS l1.length) l1 l1.length ++ (catK spanS l2 l2.length ++ catK tieS l3 l3.length))) := by
    unfold showPieceT
    rw [if_pos h]
    show showL m l0 l1 l2 l3 = _
    unfold showL
    simp only [List.append_assoc]
  refine ⟨?_, ba_ext ?_⟩
  · rw [← ba_len, ← ba_len, e, List.length_append]; omega
  · rw [ext_list, e, List.drop_zero, ← ba_len, List.take_left']
    rfl
theorem head_size {m : Int} (h : 0 ≤ m ∧ m ≤ 1000) : (headS m).size ≤ 30 := by
  have := decT_sz h.1 h.2
  unfold headS
  simp only [ByteArray.size_append, size_mk, List.length_cons, List.length_nil]
  omega
theorem chunks_sum {l1 : List ChunkD} {n1 : Nat} (hl : l1.length = n1) (hn : n1 ≤ 100) (hs : ∀ d ∈ l1, d.1.size ≤ 20) : (l1.map szChunk).sum ≤ 1048576 := by
  have h : ∀ l : List ChunkD, (∀ d ∈ l, d.1.size ≤ 20) → (l.map szChunk).sum ≤ 1000 * l.length := by
    intro l
    induction l with
    | nil => intro _; simp
    | cons a l ih =>
      intro h
      have h1 := ih (fun d hd => h d (List.mem_cons_of_mem _ hd))
      have h2 := h a (List.mem_cons_self ..)
      simp only [List.map_cons, List.sum_cons, List.length_cons]
      have hz : szChunk a = a.1.size := rfl
      rw [hz]
      omega
  have := h l1 hs
  omega
theorem show_size {m : Int} {l0 : List RuleD} {l1 : List ChunkD} {l2 : List SpanD} {l3 : List TieD} {n0 n1 n2 n3 : Nat} (h : pieceB m l0 l1 l2 l3 = true) (hl : LenP n0 l0 n1 l1 n2 l2 n3 l3) (hz : (l1.map szChunk).sum ≤ 1048576) : (showPieceT m l0 l1 l2 l3).size ≤ 2097152 := by
  have R := right_of h hl
  obtain ⟨rfl, rfl, rfl, rfl⟩ := hl
  have q0 := head_size R.m0
  have q1 := R.lr (Nat.le_refl _)
  have q2 := R.lc hz (Nat.le_refl _)
  have q3 := R.ls (Nat.le_refl _)
  have q4 := R.lt (Nat.le_refl _)
  rw [← ba_len]
  unfold showPieceT
  rw [if_pos h]
  show (showL m l0 l1 l2 l3).length ≤ _
  unfold showL
  simp only [List.length_append, ba_len]
  omega
end Go.Proofs.YtfapdhfjcnehhaaDoor

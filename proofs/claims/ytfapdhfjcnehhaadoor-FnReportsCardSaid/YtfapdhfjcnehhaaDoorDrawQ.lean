
/-
  Contracts: a right piece is drawn (spec.l08Piece).
-/
import Derived.Test.YtfapdhfjcnehhaaDoorDrawP
import Derived.Test.YtfapdhfjcnehhaaDoorStep
import Derived.Deep.RegionLaw
namespace Go.Proofs.YtfapdhfjcnehhaaDoor
open Go.RowKit
set_option linter.unusedVariables false

def wordsC : List ByteArray := [⟨#[97]⟩, ⟨#[99, 97, 108, 108, 40]⟩, ⟨#[115, 111, 109, 101, 32, 43, 32]⟩, ⟨#[97, 76, 111, 110, 103, 101, 114, 78, 97, 109, 101]⟩, ⟨#[120, 44]⟩]
def wordsL : List ByteArray := [⟨#[101, 110, 100, 59]⟩, ⟨#[41]⟩, ⟨#[]⟩]
/-- The four slices lie in blocks from B on. -/
def FarP (B : Nat) (A0 A1 A2 A3 : Option Addr) : Prop := (∀ b off, A0 = some ⟨b, off, none⟩ → B ≤ b) ∧ (∀ b off, A1 = some ⟨b, off, none⟩ → B ≤ b) ∧ (∀ b off, A2 = some ⟨b, off, none⟩ → B ≤ b) ∧ (∀ b off, A3 = some ⟨b, off, none⟩ → B ≤ b)
theorem Mine.addr {w : World} {B : Nat} {e : TypeId} {s n c : Nat} {A : Option Addr} {xs : List Value} (h : Mine w B e s A n c xs) : ∀ b off, A = some ⟨b, off, none⟩ → B ≤ b := fun b off e => (h.blk (g := b) (by rw [e]; rfl)).1
theorem RdP.far {w : World} {B : Nat} {A0 : Option Addr} {n0 : Nat} {l0 : List RuleD} {A1 : Option Addr} {n1 : Nat} {l1 : List ChunkD} {A2 : Option Addr} {n2 : Nat} {l2 : List SpanD} {A3 : Option Addr} {n3 : Nat} {l3 : List TieD} (h : RdP w A0 n0 l0 A1 n1 l1 A2 n2 l2 A3 n3 l3) (hf : FarP B A0 A1 A2 A3) {q o : Nat} (hq : q < B) (u : Value) : RdP (w.setCell ⟨q, o, none⟩ u) A0 n0 l0 A1 n1 l1 A2 n2 l2 A3 n3 l3 :=
  ⟨h.1.turned' (grown_one w ⟨q, o, none⟩ u) (fun _ g e b off ea => by injection e with e; subst e; have := hf.1 b off ea; dsimp only; omega), h.2.1.turned' (grown_one w ⟨q, o, none⟩ u) (fun _ g e b off ea => by injection e with e; subst e; have := hf.2.1 b off ea; dsimp only; omega),
   h.2.2.1.turned' (grown_one w ⟨q, o, none⟩ u) (fun _ g e b off ea => by injection e with e; subst e; have := hf.2.2.1 b off ea; dsimp only; omega), h.2.2.2.turned' (grown_one w ⟨q, o, none⟩ u) (fun _ g e b off ea => by injection e with e; subst e; have := hf.2.2.2 b off ea; dsimp only; omega)⟩
/-- A piece whose slices read as lists, and is right; the cursor is still one. -/
def PieceG (w : World) (g : Nat) (A : Option Addr) (n c : Nat) (l : List Int) (e : Ending) (w' : World) : Prop :=
  ∃ (m : Int) (A0 : Option Addr) (n0 c0 : Nat) (l0 : List RuleD) (A1 : Option Addr) (n1 c1 : Nat) (l1 : List ChunkD) (A2 : Option Addr) (n2 c2 : Nat) (l2 : List SpanD) (A3 : Option Addr) (n3 c3 : Nat) (l3 : List TieD),
    e = .returned (.agg #[.int .i64 m, .slice A0 n0 c0, .slice A1 n1 c1, .slice A2 n2 c2, .slice A3 n3 c3]) ∧ RdP w' A0 n0 l0 A1 n1 l1 A2 n2 l2 A3 n3 l3 ∧ FarP w.heap.size A0 A1 A2 A3 ∧ LenP n0 l0 n1 l1 n2 l2 n3 l3 ∧
    pieceB m l0 l1 l2 l3 = true ∧ 1 ≤ n0 ∧ (∀ d ∈ l1, d.1.size ≤ 20) ∧ CurX w' g A n c l ∧ w.grownBy w' (some g)
/-- What the drawn lists have. -/
def LR (l0 : List RuleD) : Prop := ∀ d ∈ l0, ruleB 0 d = true
def LC (l0 : List RuleD) (l1 : List ChunkD) : Prop := ∀ d ∈ l1, d.1 ∈ wordsC ∧ splitB l0 d.2.1 d.2.2.1 d.2.2.2.2 = true
def LS (q : Int) (l2 : List SpanD) : Prop := ∀ d ∈ l2, 0 ≤ d.1 ∧ d.1 ≤ d.2.1 ∧ d.2.1 < q ∧ inB d.2.2 0 9 = true
def LT (n0 : Nat) (l3 : List TieD) : Prop := ∀ d ∈ l3, tieB n0 0 d = true
theorem mem_snoc {α : Type} {p : α → Prop} {l : List α} {d : α} (h : ∀ x ∈ l, p x) (hd : p d) : ∀ x ∈ l ++ [d], p x := fun x hx => by
  rcases List.mem_append.1 hx with h1 | h1
  · exact h x h1
  · rw [List.mem_singleton] at h1; rw [h1]; exact hd
theorem words_plain : (∀ s ∈ wordsC, plainB s = true) ∧ (∀ s ∈ wordsL, plainB s = true) := by
  refine ⟨fun s hs => ?_, fun s hs => ?_⟩
  · simp only [wordsC, List.mem_cons, List.not_mem_nil, or_false] at hs
    rcases hs with rfl | rfl | rfl | rfl | rfl <;> rfl
  · simp only [wordsL, List.mem_cons, List.not_mem_nil, or_false] at hs
    rcases hs with rfl | rfl | rfl <;> rfl
theorem words_size : (∀ s ∈ wordsC, s.size ≤ 20) ∧ (∀ s ∈ wordsL, s.size ≤ 20) := by
  refine ⟨fun s hs => ?_, fun s hs => ?_⟩
  · simp only [wordsC, List.mem_cons, List.not_mem_nil, or_false] at hs
    rcases hs with rfl | rfl | rfl | rfl | rfl <;> decide
  · simp only [wordsL, List.mem_cons, List.not_mem_nil, or_false] at hs
    rcases hs with rfl | rfl | rfl <;> decide
theorem allIx_mk {α : Type} {p : Nat → α → Bool} {l : List α} (h : ∀ k d, l[k]? = some d → p k d = true) : allIx p l = true := by
  unfold allIx
  rw [List.all_eq_true]
  intro j hj
  have hj2 : j < l.length := List.mem_range.1 hj
  rw [List.getElem?_eq_getElem hj2]
  exact h j _ (List.getElem?_eq_getElem hj2)
theorem right_mk {m : Int} {l0 : List RuleD} {l1 : List ChunkD} {l2 : List SpanD} {l3 : List TieD} {x : ByteArray} (hm : inB m 0 60 = true) (h0 : l0.length ≤ 8) (h1 : l1.length ≤ 79) (h2 : l2.length ≤ 40) (h3 : l3.length ≤ 20)
    (hR : LR l0) (hC : LC l0 l1) (hx : x ∈ wordsL) (hS : LS l1.length l2) (hT : LT l0.length l3) : pieceB m l0 (l1 ++ [(x, 0, 0, false, 0)]) l2 l3 = true := by
  have hlen : (l1 ++ [(x, (0 : Int), (0 : Int), false, (0 : Int))]).length = l1.length + 1 := by simp
  rw [pieceB_eq, hlen]
  simp only [Bool.and_eq_true, decide_eq_true_eq]
  refine ⟨hm, h0, decide_eq_true (by omega), h2, h3, allIx_mk fun k d hd => hR d (List.mem_of_getElem? hd), allIx_mk fun k d hd => ?_, ?_, allIx_mk fun k d hd => ?_, allIx_mk fun k d hd => hT d (List.mem_of_getElem? hd)⟩
  · by_cases hk : k < l1.length
    · rw [List.getElem?_append_left hk] at hd
      have h := hC d (List.mem_of_getElem? hd)
      unfold chunkB
      rw [words_plain.1 _ h.1, h.2, Bool.or_true]; rfl
    · have hk2 : k = l1.length := by
        have := (List.getElem?_eq_some_iff.1 hd).1
        rw [hlen] at this; omega
      subst hk2
      rw [List.getElem?_append_right (Nat.le_refl _), Nat.sub_self] at hd
      obtain rfl := Option.some.inj hd
      unfold chunkB
      rw [words_plain.2 _ hx, decide_eq_true (Nat.le_refl _)]; rfl
  · unfold lastB
    rw [hlen, Nat.add_sub_cancel, List.getElem?_append_right (Nat.le_refl _), Nat.sub_self]; rfl
  · obtain ⟨a, b, c, e⟩ := hS d (List.mem_of_getElem? hd)
    unfold spanB
    rw [decide_eq_true a, decide_eq_true b, decide_eq_true (by omega), e]; rfl
theorem tie_rem {NN : Nat} {t y q : Int} (h0 : 0 ≤ t) (h1 : t < NN) (h2 : 0 ≤ y) (h3 : y < (NN : Int) - 1) (hq : Int.tmod (t + 1 + y) (NN : Int) = q) : 0 ≤ q ∧ q < NN ∧ tieB NN 0 (t, q) = true := by
  rw [Int.tmod_eq_emod_of_nonneg (by omega)] at hq
  have e : (q = t + 1 + y ∧ t + 1 + y < NN) ∨ (q = t + 1 + y - NN ∧ NN ≤ t + 1 + y) := by
    by_cases hlt : t + 1 + y < NN
    · exact .inl ⟨by rw [← hq]; exact Int.emod_eq_of_lt (by omega) hlt, hlt⟩
    · refine .inr ⟨?_, by omega⟩
      rw [← hq, ← Int.sub_emod_right, Int.emod_eq_of_lt (by omega) (by omega)]
  have hne : t ≠ q := by omega
  refine ⟨by omega, by omega, ?_⟩
  unfold tieB
  rw [show inB t 0 ((NN : Int) - 1) = true from decide_eq_true (by omega), show inB q 0 ((NN : Int) - 1) = true from decide_eq_true (by omega), decide_eq_false hne]; rfl
set_option maxRecDepth 100000 in
set_option maxHeartbeats 6400000 in
theorem l08Piece_any (g : Nat) (A : Option Addr) (n c : Nat) (l : List Int) (w : World) (HL : Hid (∀ x ∈ l, 0 ≤ x ∧ x ≤ 255)) (hcur : CurX w g A n c l) (hA : 0 < n → ∀ b off, A = some ⟨b, off, none⟩ → b < w.heap.size) :
    Calls Tryd.prog 56 #[.pointer (some ⟨g, 0, none⟩)] w (PieceG w g A n c l) := by
  obtain ⟨iRule, hi, hz0, hz1, hz2⟩ := info_parts infoRule
  have HIRule := Lib.hid (And.intro hi (And.intro hz0 (And.intro hz1 hz2)))
  clear hi hz0 hz1 hz2
  obtain ⟨iChunk, hi, hz0, hz1, hz2⟩ := info_parts infoChunk
  have HIChunk := Lib.hid (And.intro hi (And.intro hz0 (And.intro hz1 hz2)))
  clear hi hz0 hz1 hz2
  obtain ⟨iSpan, hi, hz0, hz1, hz2⟩ := info_parts infoSpan
  have HISpan := Lib.hid (And.intro hi (And.intro hz0 (And.intro hz1 hz2)))
  clear hi hz0 hz1 hz2
  obtain ⟨iTie, hi, hz0, hz1, hz2⟩ := info_parts infoTie
  have HITie := Lib.hid (And.intro hi (And.intro hz0 (And.intro hz1 hz2)))
  clear hi hz0 hz1 hz2
  have hgl := hcur.lt
  have HA := Lib.hid hA
  have HC := Lib.hid ((hcur.alloc (.cells #[.int .i64 0, .slice none 0 0, .slice none 0 0, .slice none 0 0, .slice none 0 0] 52)).alloc (.cells #[.int .i64 0, .int .i64 2, .int .i64 8] 3))
  clear hcur hA
  go_enter Tryd.func56, Tryd.ntmps56
  go_wp2_with fail
  refine (l01PickIntX g A n c l (some ⟨w.heap.size + 1, 0, none⟩) 3 3 [0, 2, 8] _ HL HC.out (by omega) (by omega) rfl (by have h := Rd.fresh (size := 1) (n := 3) (w.alloc (.cells #[.int .i64 0, .slice none 0 0, .slice none 0 0, .slice none 0 0, .slice none 0 0] 52)) 3 (intCells [0, 2, 8]) rfl; simpa [intCells] using h) (fun b off e => by injection e with e; injection e with e; omega)).mono ?_
  rintro e w2 ⟨m, rfl, hm, hc2, hg2⟩
  have HM := Lib.hid (show inB m 0 60 = true by simp only [List.mem_cons, List.not_mem_nil, or_false] at hm; rcases hm with rfl | rfl | rfl <;> rfl)
  have hmb : 0 ≤ m ∧ m ≤ 8 := by simp only [List.mem_cons, List.not_mem_nil, or_false] at hm; omega
  obtain ⟨gP, hgP⟩ : ∃ gP, gP = w2.heap.size := ⟨_, rfl⟩
  have hgw : w.heap.size < gP := by have := hg2.size; simp at this; omega
  have S : St w (w2.alloc (.cells #[.int .i64 m, .slice none 0 0, .slice none 0 0, .slice none 0 0, .slice none 0 0] 52)) g A n c l gP m none 0 0 [] none 0 0 [] none 0 0 [] none 0 0 [] := by
    have hb : w.grownBy w2 (some g) := grownBy_trans (grown_below (grown_refl w (some g)) (by repeat' (first | (with_reducible exact Below.refl _ _) | (with_reducible assumption) | (with_reducible refine below_drewN ?_ _) | (with_reducible refine Below.drew ?_) | (with_reducible refine Below.alloc ?_ ?_ _) | (with_reducible refine Below.setCell ?_ ?_ _) | go_size))) hg2
    refine ⟨⟨by rw [hgP]; exact Blk.new _ _ _, by omega, Mine.mk_nil _ _ _ _, Mine.mk_nil _ _ _ _, Mine.mk_nil _ _ _ _, Mine.mk_nil _ _ _ _⟩, hc2.alloc _, ((((Blk.new w _ _).alloc _).turned hg2 (fun q e => by injection e with e; omega)).alloc _), grown_alloc hb _, hgw, hgl, HA.out⟩
  have HG := Lib.hid hgP
  clear hc2 hg2 hm hgP
  go_wp2_with fail
  refine (l01BelowX g A n c l 5 _ HL.out S.2.1 (by omega) (by omega)).mono ?_
  rintro e w3 ⟨x5, rfl, h50, h51, hc, hg⟩
  replace S := S.call hc hg
  have hgP := HG.out
  rw [← hgP]
  obtain ⟨NN, hNN⟩ : ∃ NN : Nat, 1 + x5 = (NN : Int) := Int.eq_ofNat_of_zero_le (by omega)
  have hN1 : 1 ≤ NN ∧ NN ≤ 5 := by omega
  obtain ⟨hN1, hN5⟩ := hN1
  clear hgP hc hg
  go_wp2_with fail
  clear hNN h50 h51
  -- the rules
  go_loopw [5] (fun i wr => ∃ (k : Nat) (A0 : Option Addr) (c0 : Nat) (l0 : List RuleD), k ≤ NN ∧ i = .int .i64 k ∧ St w wr g A n c l gP m A0 k c0 l0 none 0 0 [] none 0 0 [] none 0 0 [] ∧ Hid (l0.length = k) ∧ Hid (LR l0)) (fun i _ => NN - (intOf i).toNat)
  case atStart => exact ⟨0, none, 0, [], Nat.zero_le _, rfl, S, Lib.hid rfl, Lib.hid (fun d hd => by cases hd)⟩
  case round =>
  clear S
  obtain ⟨k, A0, c0, l0, hk, rfl, S, hl0, hR⟩ := hrel
  by_cases hlt : k < NN
  · have f0 : wr.cell? ⟨gP, 1, none⟩ = some (.slice A0 k c0) := S.1.1.cell 1
    have hgl2 := S.2.2.2.1.size
    go_upto_region 6 with fail
    go_region_law (first
        | (have _s := S4
           refine step_calls rfl 62 Tryd.func62 (by kernel_rfl) (by kernel_rfl) _ _ rfl #[.pointer (some ⟨g, 0, none⟩), .int .i64 2] (by first | (simp [Act.eval]; done) | (simp [Act.eval, Act.put]; done) | rfl) (l01BelowX g A n c l 2 _ HL.out (by first | exact S4.2.1 | exact S4.2.1.drew) (by omega) (by omega)) ?_
           rintro e w5 ⟨y, rfl, hy0, hy1, hc, hg⟩
           refine ⟨_, rfl, ?_⟩
           have S5 := S4.call hc (by first | exact hg | exact grown_undrew hg)
           have hqw5 := S5.2.2.2.1.size
           have f5 : w5.cell? ⟨gP, 1, none⟩ = some (.slice A0 k c0) := S5.1.1.cell 1
           have fa5 : ∀ o, (w5.alloc o).cell? ⟨gP, 1, none⟩ = some (.slice A0 k c0) := fun o => (S5.alloc o).1.1.cell 1
           have wy : IntKind.i64.wrap (1 + y) = 1 + y := IntWalk.i64_in _ (by omega))
        | (have _s := S
           refine step_calls rfl 62 Tryd.func62 (by kernel_rfl) (by kernel_rfl) _ _ rfl #[.pointer (some ⟨g, 0, none⟩), .int .i64 2] (by first | (simp [Act.eval]; done) | (simp [Act.eval, Act.put]; done) | rfl) (l01BelowX g A n c l 2 _ HL.out (by first | exact S.2.1 | exact S.2.1.drew) (by omega) (by omega)) ?_
           rintro e w4 ⟨x, rfl, hx0, hx1, hc, hg⟩
           refine ⟨_, rfl, ?_⟩
           have S4 := S.call hc (by first | exact hg | exact grown_undrew hg)
           have hqw4 := S4.2.2.2.1.size
           have f4 : w4.cell? ⟨gP, 1, none⟩ = some (.slice A0 k c0) := S4.1.1.cell 1
           have wx : IntKind.i64.wrap (2 + x) = 2 + x := IntWalk.i64_in _ (by omega))
        | (have _s := S5
           refine step_append_lies _ rfl (.tmp 27) (.tmp 35) 47 rfl w.heap.size 92 iRule (.agg #[.int .i64 0, .int .i64 0]) 2 16 Tryd.underlying47 HIRule.out.1 HIRule.out.2.1 HIRule.out.2.2.1 HIRule.out.2.2.2 rfl (by decide) (.slice A0 k c0) k (l0.flatMap ruleCells) (by first | (simp [Act.eval]; done) | (simp [Act.eval, Act.put]; done) | rfl) (by first | exact (S5.alloc _).1.2.2.1 | exact (S5.alloc _).drew.1.2.2.1) ⟨w5.heap.size, 0, none⟩ 1 1 (ruleCells (2 + x, 1 + y)) (by first | (simp [Act.eval]; done) | (simp [Act.eval, Act.put]; done) | rfl) (by rfl) (World.news_of_block (cs := (ruleCells (2 + x, 1 + y)).toArray) (t := 92) (fr := (0, 0)) (heap_alloc_new w5 _)) (fun x hx => by simp [ruleCells] at hx; rcases hx with rfl | rfl <;> rfl) (by decide) (by unfold maxLen; omega) (by omega) (by simp; omega) (w5.heap.size + 1) (by simp) ?_
           intro q cap w6 hown6 hgrow hat hlt6
           have hgrow2 : (w5.alloc (.cells (ruleCells (2 + x, 1 + y)).toArray 92)).grownBy w6 (Value.slice A0 k c0).ownBlock := (by first | exact hgrow | exact grown_undrew hgrow)
           have S7 := (S5.alloc _).put0 hgrow2 (2 + x, 1 + y) hown6
           have K6 := (S5.alloc (.cells (ruleCells (2 + x, 1 + y)).toArray 92)).1.1.turned hgrow2 (S5.1.2.2.1.ne_blk S5.1.1 (by decide))
           have fz : w6.cell? ⟨gP, 1, none⟩ = some (.slice A0 k c0) := K6.cell 1
           have fzf := K6.frozen
           have fzl := K6.lt))
    all_goals
      go_wp2_with fail
      go_roundw
      case rel => exact ⟨k + 1, _, _, l0 ++ [(2 + x, 1 + y)], by omega, by go_num, S7, Lib.hid (by rw [List.length_append, hl0.out]; rfl), Lib.hid (mem_snoc hR.out (by unfold ruleB inB; rw [decide_eq_true (by dsimp only; omega), decide_eq_true (by dsimp only; omega)]; rfl))⟩
      case measure => simp [intOf]; omega
  obtain rfl : NN = k := by omega
  have hgl2 := S.2.2.2.1.size
  go_wp2_with fail
  refine (l01BelowX g A n c l 9 _ HL.out S.2.1 (by omega) (by omega)).mono ?_
  rintro e w3 ⟨x9, rfl, h90, h91, hc, hg⟩
  replace S := S.call hc hg
  obtain ⟨MM, rfl⟩ : ∃ MM : Nat, x9 = (MM : Int) := Int.eq_ofNat_of_zero_le h90
  have hM8 : MM ≤ 8 := by omega
  clear hc hg h90 h91 hgl2 hk hlt
  go_wp2_with fail
  -- the chunks
  go_loopw [7, 8, 9] (fun i _ _ wr => ∃ (k : Nat) (A1 : Option Addr) (c1 : Nat) (l1 : List ChunkD), k ≤ MM ∧ i = .int .i64 k ∧ St w wr g A n c l gP m A0 NN c0 l0 A1 k c1 l1 none 0 0 [] none 0 0 [] ∧ Hid (l1.length = k) ∧ Hid (LC l0 l1)) (fun i _ _ _ => MM - (intOf i).toNat)
  case atStart => exact ⟨0, none, 0, [], Nat.zero_le _, rfl, S, Lib.hid rfl, Lib.hid (fun d hd => by cases hd)⟩
  case round =>
  clear S
  obtain ⟨k, A1, c1, l1, hk, rfl, S, hl1, hC⟩ := hrel
  by_cases hlt : k < MM
  · go_wp2_with fail
    refine (l01BelowX g A n c l NN _ HL.out S.2.1 (by omega) (by omega)).mono ?_
    rintro e w3 ⟨xr, rfl, hr0, hr1, hc, hg⟩
    have S3 := S.call hc hg
    obtain ⟨r, rfl⟩ : ∃ r : Nat, xr = (r : Int) := Int.eq_ofNat_of_zero_le hr0
    have hrN : r < NN := by omega
    obtain ⟨⟨v0, v1⟩, hd⟩ : ∃ d, l0[r]? = some d := ⟨_, List.getElem?_eq_getElem (by have := hl0.out; omega)⟩
    have hrb : ruleB 0 (v0, v1) = true := hR.out _ (List.mem_of_getElem? hd)
    have hv : 2 ≤ v0 ∧ v0 ≤ 3 := by
      unfold ruleB at hrb
      exact inB_ge ((Bool.and_eq_true _ _).mp hrb).1
    obtain ⟨hv0, hv1⟩ := hv
    obtain ⟨b, off, hAe, hblt, y0, y1⟩ := rule_at S3.1.2.2.1.rd hrN hd
    have HFr := Lib.hid (fun (f q : Int) (hf : inB f 1 (v0 - 1) = true) (hq : inB q 0 40 = true) => show splitB l0 (r : Int) f q = true by
      unfold splitB
      rw [fromB_at hd, hf, hq, hl0.out]
      have : inB (r : Int) 0 ((NN : Int) - 1) = true := decide_eq_true (by omega)
      rw [this]; rfl)
    have kc : w3.cell? ⟨gP, 1, none⟩ = some (.slice A0 NN c0) := S3.1.1.cell 1
    subst hAe
    have kz := S3.1.1.lt
    have hz0 := S3.2.2.2.1.size
    clear hd hrb hc hg S
    go_wp2_with fail
    refine (l01BelowX g A n c l (v0 - 1) _ HL.out S3.2.1 (by omega) (by omega)).mono ?_
    rintro e w4 ⟨x, rfl, hx0, hx1, hc, hg⟩
    have S4 := S3.call hc hg
    clear hc hg y0 y1 kc kz S3
    go_wp2_with fail
    refine (l01OnceX g A n c l 2 _ HL S4.2.1 (by omega) (by omega)).mono ?_
    rintro e w5 ⟨bb, rfl, hc, hg⟩
    have S5 := S4.call hc hg
    clear hc hg S4
    go_wp2_with fail
    refine (l01BelowX g A n c l 3 _ HL.out S5.2.1 (by omega) (by omega)).mono ?_
    rintro e w6 ⟨z, rfl, hz0', hz1, hc, hg⟩
    have S6 := S5.call hc hg
    clear hc hg S5
    have HFx := Lib.hid (HFr.out (1 + x) (4 * z) (decide_eq_true (by omega)) (decide_eq_true (by omega)))
    go_upto_region 13 with fail
    obtain ⟨w9, hw9⟩ : ∃ w9, w9 = w6.alloc (.cells #[.int .i64 (r : Int), .int .i64 (1 + x), .bool bb, .int .i64 (4 * z)] 94) := ⟨_, rfl⟩
    rw [← hw9]
    have S9 : St w w9 g A n c l gP m (some ⟨b, off, none⟩) NN c0 l0 A1 k c1 l1 none 0 0 [] none 0 0 [] := by rw [hw9]; exact S6.alloc _
    have V : Blk w9 w6.heap.size 94 #[.int .i64 (r : Int), .int .i64 (1 + x), .bool bb, .int .i64 (4 * z)] := by rw [hw9]; exact Blk.new _ _ _
    have hgS : g < w6.heap.size := by have := S6.2.2.2.1.size; omega
    clear hw9 S6
    have f0 : w9.cell? ⟨gP, 2, none⟩ = some (.slice A1 k c1) := S9.1.1.cell 2
    have fa0 : ∀ o, (w9.alloc o).cell? ⟨gP, 2, none⟩ = some (.slice A1 k c1) := fun o => (S9.alloc o).1.1.cell 2
    have v0c : w9.cell? ⟨w6.heap.size, 0, none⟩ = some (.int .i64 (r : Int)) := V.cell 0
    have v1c : w9.cell? ⟨w6.heap.size, 1, none⟩ = some (.int .i64 (1 + x)) := V.cell 1
    have v2c : w9.cell? ⟨w6.heap.size, 2, none⟩ = some (.bool bb) := V.cell 2
    have v3c : w9.cell? ⟨w6.heap.size, 3, none⟩ = some (.int .i64 (4 * z)) := V.cell 3
    have va0 : ∀ o, (w9.alloc o).cell? ⟨w6.heap.size, 0, none⟩ = some (.int .i64 (r : Int)) := fun o => (V.alloc o).cell 0
    have va1 : ∀ o, (w9.alloc o).cell? ⟨w6.heap.size, 1, none⟩ = some (.int .i64 (1 + x)) := fun o => (V.alloc o).cell 1
    have va2 : ∀ o, (w9.alloc o).cell? ⟨w6.heap.size, 2, none⟩ = some (.bool bb) := fun o => (V.alloc o).cell 2
    have va3 : ∀ o, (w9.alloc o).cell? ⟨w6.heap.size, 3, none⟩ = some (.int .i64 (4 * z)) := fun o => (V.alloc o).cell 3
    have hw0 := S9.2.2.2.1.size
    have hgw9 : g < w9.heap.size := by omega
    go_region_law (first
        | (have _s := (S9.alloc (.cells (strCells wordsC).toArray 9))
           refine step_calls rfl 89 Tryd.func89 (by kernel_rfl) (by kernel_rfl) _ _ rfl #[.pointer (some ⟨g, 0, none⟩), .slice (some ⟨w9.heap.size, 0, none⟩) 5 5] (by first | (simp [Act.eval]; done) | (simp [Act.eval, Act.put]; done) | rfl) (l01PickX g A n c l (some ⟨w9.heap.size, 0, none⟩) 5 5 wordsC _ HL (by first | exact (S9.alloc _).2.1 | exact (S9.alloc _).2.1.drew) (by omega) (by omega) rfl (by first | exact Rd.fresh (size := 1) (n := 5) w9 9 (strCells wordsC) rfl | exact (Rd.fresh (size := 1) (n := 5) w9 9 (strCells wordsC) rfl).drew) (fun b off e => by injection e with e; injection e with e; omega)) ?_
           rintro e w5 ⟨s, rfl, hs, hc, hg⟩
           refine ⟨_, rfl, ?_⟩
           have S5 := (S9.alloc (.cells (strCells wordsC).toArray 9)).call hc (by first | exact hg | exact grown_undrew hg)
           have hqw5 := S5.2.2.2.1.size
           have V5 := (V.alloc (.cells (strCells wordsC).toArray 9)).turned (row := some g) (by first | exact hg | exact grown_undrew hg) (fun q e => by injection e with e; omega)
           have f5 : w5.cell? ⟨gP, 2, none⟩ = some (.slice A1 k c1) := S5.1.1.cell 2
           have fa5 : ∀ o, (w5.alloc o).cell? ⟨gP, 2, none⟩ = some (.slice A1 k c1) := fun o => (S5.alloc o).1.1.cell 2
           have u0 : w5.cell? ⟨w6.heap.size, 0, none⟩ = some (.int .i64 (r : Int)) := V5.cell 0
           have u1 : w5.cell? ⟨w6.heap.size, 1, none⟩ = some (.int .i64 (1 + x)) := V5.cell 1
           have u2 : w5.cell? ⟨w6.heap.size, 2, none⟩ = some (.bool bb) := V5.cell 2
           have u3 : w5.cell? ⟨w6.heap.size, 3, none⟩ = some (.int .i64 (4 * z)) := V5.cell 3)
        | (have _s := S5
           refine step_append_lies _ rfl (.tmp 66) (.tmp 72) 48 rfl w.heap.size 96 iChunk (.agg #[.string ⟨#[]⟩, .int .i64 0, .int .i64 0, .bool false, .int .i64 0]) 5 48 Tryd.underlying48 HIChunk.out.1 HIChunk.out.2.1 HIChunk.out.2.2.1 HIChunk.out.2.2.2 rfl (by decide) (.slice A1 k c1) k (l1.flatMap chunkCells) (by first | (simp [Act.eval]; done) | (simp [Act.eval, Act.put]; done) | rfl) (by first | exact (S5.alloc _).1.2.2.2.1 | exact (S5.alloc _).drew.1.2.2.2.1) ⟨w5.heap.size, 0, none⟩ 1 1 (chunkCells (s, (r : Int), 1 + x, bb, 4 * z)) (by first | (simp [Act.eval]; done) | (simp [Act.eval, Act.put]; done) | rfl) (by rfl) (World.news_of_block (cs := (chunkCells (s, (r : Int), 1 + x, bb, 4 * z)).toArray) (t := 96) (fr := (0, 0)) (heap_alloc_new w5 _)) (fun x hx => by simp [chunkCells] at hx; rcases hx with rfl | rfl | rfl | rfl | rfl <;> rfl) (by decide) (by unfold maxLen; omega) (by omega) (by simp; omega) (w5.heap.size + 1) (by simp) ?_
           intro q cap w6 hown6 hgrow hat hlt6
           have hgrow2 : (w5.alloc (.cells (chunkCells (s, (r : Int), 1 + x, bb, 4 * z)).toArray 96)).grownBy w6 (Value.slice A1 k c1).ownBlock := (by first | exact hgrow | exact grown_undrew hgrow)
           have S7 := (S5.alloc _).put1 hgrow2 (s, (r : Int), 1 + x, bb, 4 * z) hown6
           have K6 := (S5.alloc (.cells (chunkCells (s, (r : Int), 1 + x, bb, 4 * z)).toArray 96)).1.1.turned hgrow2 (S5.1.2.2.2.1.ne_blk S5.1.1 (by decide))
           have fz : w6.cell? ⟨gP, 2, none⟩ = some (.slice A1 k c1) := K6.cell 2
           have fzf := K6.frozen
           have fzl := K6.lt))
    all_goals
      go_wp2_with fail
      go_roundw
      case rel => exact ⟨k + 1, _, _, l1 ++ [(s, (r : Int), 1 + x, bb, 4 * z)], by omega, by go_num, S7, Lib.hid (by rw [List.length_append, hl1.out]; rfl), Lib.hid (mem_snoc hC.out ⟨hs, HFx.out⟩)⟩
      case measure => simp [intOf]; omega
  obtain rfl : MM = k := by omega
  have hw0 := S.2.2.2.1.size
  have f0 : wr.cell? ⟨gP, 2, none⟩ = some (.slice A1 MM c1) := S.1.1.cell 2
  have fa0 : ∀ o, (wr.alloc o).cell? ⟨gP, 2, none⟩ = some (.slice A1 MM c1) := fun o => (S.alloc o).1.1.cell 2
  have hgw9 : g < wr.heap.size := by omega
  obtain ⟨w9, hw9⟩ : ∃ w9, w9 = wr := ⟨_, rfl⟩
  subst hw9
  clear hk hlt
  go_upto_region 14 with fail
  go_cut [3] (fun x wx => x = .pointer (some ⟨gP, 0, none⟩) ∧ ∃ (A1' : Option Addr) (c1' : Nat) (s : ByteArray), St w wx g A n c l gP m A0 NN c0 l0 A1' (MM + 1) c1' (l1 ++ [(s, 0, 0, false, 0)]) none 0 0 [] none 0 0 [] ∧ s ∈ wordsL)
  case first =>
    go_region_law (first
        | (have _s := (S.alloc (.cells (strCells wordsL).toArray 9))
           refine step_calls rfl 89 Tryd.func89 (by kernel_rfl) (by kernel_rfl) _ _ rfl #[.pointer (some ⟨g, 0, none⟩), .slice (some ⟨w9.heap.size, 0, none⟩) 3 3] (by first | (simp [Act.eval]; done) | (simp [Act.eval, Act.put]; done) | rfl) (l01PickX g A n c l (some ⟨w9.heap.size, 0, none⟩) 3 3 wordsL _ HL (by first | exact (S.alloc _).2.1 | exact (S.alloc _).2.1.drew) (by omega) (by omega) rfl (by first | exact Rd.fresh (size := 1) (n := 3) w9 9 (strCells wordsL) rfl | exact (Rd.fresh (size := 1) (n := 3) w9 9 (strCells wordsL) rfl).drew) (fun b off e => by injection e with e; injection e with e; omega)) ?_
           rintro e w5 ⟨s, rfl, hs, hc, hg⟩
           refine ⟨_, rfl, ?_⟩
           have S5 := (S.alloc (.cells (strCells wordsL).toArray 9)).call hc (by first | exact hg | exact grown_undrew hg)
           have hqw5 := S5.2.2.2.1.size
           have f5 : w5.cell? ⟨gP, 2, none⟩ = some (.slice A1 MM c1) := S5.1.1.cell 2
           have fa5 : ∀ o, (w5.alloc o).cell? ⟨gP, 2, none⟩ = some (.slice A1 MM c1) := fun o => (S5.alloc o).1.1.cell 2)
        | (have _s := S5
           refine step_append_lies _ rfl (.tmp 76) (.tmp 81) 48 rfl w.heap.size 96 iChunk (.agg #[.string ⟨#[]⟩, .int .i64 0, .int .i64 0, .bool false, .int .i64 0]) 5 48 Tryd.underlying48 HIChunk.out.1 HIChunk.out.2.1 HIChunk.out.2.2.1 HIChunk.out.2.2.2 rfl (by decide) (.slice A1 MM c1) MM (l1.flatMap chunkCells) (by first | (simp [Act.eval]; done) | (simp [Act.eval, Act.put]; done) | rfl) (by first | exact (S5.alloc _).1.2.2.2.1 | exact (S5.alloc _).drew.1.2.2.2.1) ⟨w5.heap.size, 0, none⟩ 1 1 (chunkCells (s, 0, 0, false, 0)) (by first | (simp [Act.eval]; done) | (simp [Act.eval, Act.put]; done) | rfl) (by rfl) (World.news_of_block (cs := (chunkCells (s, 0, 0, false, 0)).toArray) (t := 96) (fr := (0, 0)) (heap_alloc_new w5 _)) (fun x hx => by simp [chunkCells] at hx; rcases hx with rfl | rfl | rfl | rfl | rfl <;> rfl) (by decide) (by unfold maxLen; omega) (by omega) (by simp; omega) (w5.heap.size + 1) (by simp) ?_
           intro q cap w6 hown6 hgrow hat hlt6
           have hgrow2 : (w5.alloc (.cells (chunkCells (s, 0, 0, false, 0)).toArray 96)).grownBy w6 (Value.slice A1 MM c1).ownBlock := (by first | exact hgrow | exact grown_undrew hgrow)
           have S7 := (S5.alloc _).put1 hgrow2 (s, 0, 0, false, 0) hown6
           have K6 := (S5.alloc (.cells (chunkCells (s, 0, 0, false, 0)).toArray 96)).1.1.turned hgrow2 (S5.1.2.2.2.1.ne_blk S5.1.1 (by decide))
           have fz : w6.cell? ⟨gP, 2, none⟩ = some (.slice A1 MM c1) := K6.cell 2
           have fzf := K6.frozen
           have fzl := K6.lt))
    all_goals (go_wp2_with fail; go_meet; exact ⟨rfl, _, _, _, S7, hs⟩)
  case rest =>
  obtain ⟨rfl, A1', c1', sl, S', hsl⟩ := hcut
  clear S f0 fa0
  obtain ⟨LCH, hLCH⟩ : ∃ LCH, LCH = l1 ++ [(sl, 0, 0, false, 0)] := ⟨_, rfl⟩
  rw [← hLCH] at S'
  have HLCH := Lib.hid hLCH
  clear hLCH
  have S := S'
  clear S'
  -- the spans
  go_upto_block 4 with fail
  go_cut [3] (fun x wx => x = .pointer (some ⟨gP, 0, none⟩) ∧ ∃ (A2 : Option Addr) (n2 c2 : Nat) (l2 : List SpanD), n2 ≤ 2 ∧ St w wx g A n c l gP m A0 NN c0 l0 A1' (MM + 1) c1' LCH A2 n2 c2 l2 none 0 0 [] ∧ Hid (l2.length = n2) ∧ Hid (LS MM l2))
  case first =>
    go_wp2_with fail
    go_loopw [10, 11] (fun i _ wr => ∃ (k : Nat) (A2 : Option Addr) (c2 : Nat) (l2 : List SpanD), k ≤ 2 ∧ i = .int .i64 k ∧ St w wr g A n c l gP m A0 NN c0 l0 A1' (MM + 1) c1' LCH A2 k c2 l2 none 0 0 [] ∧ Hid (l2.length = k) ∧ Hid (LS MM l2)) (fun i _ _ => 3 - (intOf i).toNat)
    case atStart => exact ⟨0, none, 0, [], Nat.zero_le _, rfl, S, Lib.hid rfl, Lib.hid (fun d hd => by cases hd)⟩
    case round =>
      clear S
      obtain ⟨k, A2, c2, l2, hk, rfl, S, hl2, hS⟩ := hrel
      go_wp2_with fail
      refine (l01BelowX g A n c l 3 _ HL.out S.2.1 (by omega) (by omega)).mono ?_
      rintro e w3 ⟨x, rfl, hx0, hx1, hc, hg⟩
      have S3 := S.call hc hg
      clear hc hg S
      by_cases hx : (k : Int) < x
      · by_cases hM0 : 0 < MM
        · go_wp2_with fail
          refine (l01BelowX g A n c l MM _ HL.out S3.2.1 (by omega) (by omega)).mono ?_
          rintro e w4 ⟨t, rfl, ht0, ht1, hc, hg⟩
          have S4 := S3.call hc hg
          clear hc hg S3
          have hw0 := S4.2.2.2.1.size
          have f0 : w4.cell? ⟨gP, 3, none⟩ = some (.slice A2 k c2) := S4.1.1.cell 3
          have wt : IntKind.i64.wrap (t + 1) = t + 1 := IntWalk.i64_in _ (by omega)
          have WT := Lib.hid wt
          clear wt
          go_upto_region 19 with fail
          have wt := WT.out
          go_region_law (first
            | (have _s := S5x
               refine step_calls rfl 62 Tryd.func62 (by kernel_rfl) (by kernel_rfl) _ _ rfl #[.pointer (some ⟨g, 0, none⟩), .int .i64 2] (by first | (simp [Act.eval]; done) | (simp [Act.eval, Act.put]; done) | rfl) (l01BelowX g A n c l 2 _ HL.out (by first | exact S5x.2.1 | exact S5x.2.1.drew) (by omega) (by omega)) ?_
               rintro e w5 ⟨z, rfl, hz0, hz1, hc, hg⟩
               refine ⟨_, rfl, ?_⟩
               have S5 := S5x.call hc (by first | exact hg | exact grown_undrew hg)
               have hqw5 := S5.2.2.2.1.size
               have f5 : w5.cell? ⟨gP, 3, none⟩ = some (.slice A2 k c2) := S5.1.1.cell 3
               have fa5 : ∀ o, (w5.alloc o).cell? ⟨gP, 3, none⟩ = some (.slice A2 k c2) := fun o => (S5.alloc o).1.1.cell 3
               have wz : IntKind.i64.wrap (1 + z) = 1 + z := IntWalk.i64_in _ (by omega))
            | (have _s := S4
               refine step_calls rfl 62 Tryd.func62 (by kernel_rfl) (by kernel_rfl) _ _ rfl #[.pointer (some ⟨g, 0, none⟩), .int .i64 (t + 1)] (by first | (simp [Act.eval]; done) | (simp [Act.eval, Act.put]; done) | rfl) (l01BelowX g A n c l (t + 1) _ HL.out (by first | exact S4.2.1 | exact S4.2.1.drew) (by omega) (by omega)) ?_
               rintro e w5x ⟨y, rfl, hy0, hy1, hc, hg⟩
               refine ⟨_, rfl, ?_⟩
               have S5x := S4.call hc (by first | exact hg | exact grown_undrew hg)
               have hqw5x := S5x.2.2.2.1.size
               have f5x : w5x.cell? ⟨gP, 3, none⟩ = some (.slice A2 k c2) := S5x.1.1.cell 3)
            | (have _s := S5
               refine step_append_lies _ rfl (.tmp 98) (.tmp 108) 49 rfl w.heap.size 99 iSpan (.agg #[.int .i64 0, .int .i64 0, .int .i64 0]) 3 24 Tryd.underlying49 HISpan.out.1 HISpan.out.2.1 HISpan.out.2.2.1 HISpan.out.2.2.2 rfl (by decide) (.slice A2 k c2) k (l2.flatMap spanCells) (by first | (simp [Act.eval]; done) | (simp [Act.eval, Act.put]; done) | rfl) (by first | exact (S5.alloc _).1.2.2.2.2.1 | exact (S5.alloc _).drew.1.2.2.2.2.1) ⟨w5.heap.size, 0, none⟩ 1 1 (spanCells (y, t, 1 + z)) (by first | (simp [Act.eval]; done) | (simp [Act.eval, Act.put]; done) | rfl) (by rfl) (World.news_of_block (cs := (spanCells (y, t, 1 + z)).toArray) (t := 99) (fr := (0, 0)) (heap_alloc_new w5 _)) (fun x hx => by simp [spanCells] at hx; rcases hx with rfl | rfl | rfl <;> rfl) (by decide) (by unfold maxLen; omega) (by omega) (by simp; omega) (w5.heap.size + 1) (by simp) ?_
               intro q cap w6 hown6 hgrow hat hlt6
               have hgrow2 : (w5.alloc (.cells (spanCells (y, t, 1 + z)).toArray 99)).grownBy w6 (Value.slice A2 k c2).ownBlock := (by first | exact hgrow | exact grown_undrew hgrow)
               have S7 := (S5.alloc _).put2 hgrow2 (y, t, 1 + z) hown6
               have K6 := (S5.alloc (.cells (spanCells (y, t, 1 + z)).toArray 99)).1.1.turned hgrow2 (S5.1.2.2.2.2.1.ne_blk S5.1.1 (by decide))
               have fz : w6.cell? ⟨gP, 3, none⟩ = some (.slice A2 k c2) := K6.cell 3
               have fzf := K6.frozen
               have fzl := K6.lt))
          all_goals
            go_wp2_with fail
            go_roundw
            case rel => exact ⟨k + 1, _, _, l2 ++ [(y, t, 1 + z)], by omega, by go_num, S7, Lib.hid (by rw [List.length_append, hl2.out]; rfl), Lib.hid (mem_snoc hS.out ⟨hy0, by dsimp only; omega, by dsimp only; omega, decide_eq_true (by dsimp only; omega)⟩)⟩
            case measure => simp [intOf]; omega
        · have hM0' : ¬ (0 : Int) < (MM : Int) := by omega
          go_wp2_with fail
          go_meet
          case rel => exact ⟨rfl, A2, k, c2, l2, hk, S3, hl2, hS⟩
      · go_wp2_with fail
        go_meet
        case rel => exact ⟨rfl, A2, k, c2, l2, hk, S3, hl2, hS⟩
  case rest =>
  obtain ⟨rfl, A2, n2, c2, l2, hn2, S', hl2, hS⟩ := hcut
  clear S
  have S := S'
  clear S'
  -- the ties
  go_upto_block 6 with fail
  go_cut [3] (fun x wx => x = .pointer (some ⟨gP, 0, none⟩) ∧ ∃ (A3 : Option Addr) (n3 c3 : Nat) (l3 : List TieD), n3 ≤ 2 ∧ St w wx g A n c l gP m A0 NN c0 l0 A1' (MM + 1) c1' LCH A2 n2 c2 l2 A3 n3 c3 l3 ∧ Hid (l3.length = n3) ∧ Hid (LT NN l3))
  case first =>
    go_wp2_with fail
    go_loopw [12, 13] (fun i _ wr => ∃ (k : Nat) (A3 : Option Addr) (c3 : Nat) (l3 : List TieD), k ≤ 2 ∧ i = .int .i64 k ∧ St w wr g A n c l gP m A0 NN c0 l0 A1' (MM + 1) c1' LCH A2 n2 c2 l2 A3 k c3 l3 ∧ Hid (l3.length = k) ∧ Hid (LT NN l3)) (fun i _ _ => 3 - (intOf i).toNat)
    case atStart => exact ⟨0, none, 0, [], Nat.zero_le _, rfl, S, Lib.hid rfl, Lib.hid (fun d hd => by cases hd)⟩
    case round =>
      clear S
      obtain ⟨k, A3, c3, l3, hk, rfl, S, hl3, hT⟩ := hrel
      go_wp2_with fail
      refine (l01BelowX g A n c l 3 _ HL.out S.2.1 (by omega) (by omega)).mono ?_
      rintro e w3 ⟨x, rfl, hx0, hx1, hc, hg⟩
      have S3 := S.call hc hg
      clear hc hg S
      by_cases hx : (k : Int) < x
      · by_cases hM0 : 1 < NN
        · go_wp2_with fail
          refine (l01BelowX g A n c l NN _ HL.out S3.2.1 (by omega) (by omega)).mono ?_
          rintro e w4 ⟨t, rfl, ht0, ht1, hc, hg⟩
          have S4 := S3.call hc hg
          clear hc hg S3
          have hw0 := S4.2.2.2.1.size
          have f0 : w4.cell? ⟨gP, 4, none⟩ = some (.slice A3 k c3) := S4.1.1.cell 4
          have wt : IntKind.i64.wrap (t + 1) = t + 1 := IntWalk.i64_in _ (by omega)
          have wn : IntKind.i64.wrap ((NN : Int) - 1) = (NN : Int) - 1 := IntWalk.i64_in _ (by omega)
          have WT := Lib.hid wt
          have WN := Lib.hid wn
          have nz : ¬ NN = 0 := by omega
          clear wt wn
          go_upto_region 24 with fail
          have wt := WT.out
          have wn := WN.out
          go_region_law (first
            | (have _s := S4
               refine step_calls rfl 62 Tryd.func62 (by kernel_rfl) (by kernel_rfl) _ _ rfl #[.pointer (some ⟨g, 0, none⟩), .int .i64 ((NN : Int) - 1)] (by first | (simp [Act.eval]; done) | (simp [Act.eval, Act.put]; done) | rfl) (l01BelowX g A n c l ((NN : Int) - 1) _ HL.out (by first | exact S4.2.1 | exact S4.2.1.drew) (by omega) (by omega)) ?_
               rintro e w5 ⟨y, rfl, hy0, hy1, hc, hg⟩
               refine ⟨_, rfl, ?_⟩
               have S5 := S4.call hc (by first | exact hg | exact grown_undrew hg)
               have hqw5 := S5.2.2.2.1.size
               have f5 : w5.cell? ⟨gP, 4, none⟩ = some (.slice A3 k c3) := S5.1.1.cell 4
               have fa5 : ∀ o, (w5.alloc o).cell? ⟨gP, 4, none⟩ = some (.slice A3 k c3) := fun o => (S5.alloc o).1.1.cell 4
               obtain ⟨q3, hq3⟩ : ∃ q3, Int.tmod (t + 1 + y) (NN : Int) = q3 := ⟨_, rfl⟩
               have hq4 := Lib.hid (tie_rem ht0 ht1 hy0 hy1 hq3)
               have wq : IntKind.i64.wrap q3 = q3 := IntWalk.i64_in _ (by have := hq4.out; omega)
               have wz : IntKind.i64.wrap (t + 1 + y) = t + 1 + y := IntWalk.i64_in _ (by omega))
            | (have _s := S5
               refine step_append_lies _ rfl (.tmp 125) (.tmp 137) 50 rfl w.heap.size 101 iTie (.agg #[.int .i64 0, .int .i64 0]) 2 16 Tryd.underlying50 HITie.out.1 HITie.out.2.1 HITie.out.2.2.1 HITie.out.2.2.2 rfl (by decide) (.slice A3 k c3) k (l3.flatMap tieCells) (by first | (simp [Act.eval]; done) | (simp [Act.eval, Act.put]; done) | rfl) (by first | exact (S5.alloc _).1.2.2.2.2.2 | exact (S5.alloc _).drew.1.2.2.2.2.2) ⟨w5.heap.size, 0, none⟩ 1 1 (tieCells (t, q3)) (by first | (simp [Act.eval]; done) | (simp [Act.eval, Act.put]; done) | rfl) (by rfl) (World.news_of_block (cs := (tieCells (t, q3)).toArray) (t := 101) (fr := (0, 0)) (heap_alloc_new w5 _)) (fun x hx => by simp [tieCells] at hx; rcases hx with rfl | rfl <;> rfl) (by decide) (by unfold maxLen; omega) (by omega) (by simp; omega) (w5.heap.size + 1) (by simp) ?_
               intro q cap w6 hown6 hgrow hat hlt6
               have hgrow2 : (w5.alloc (.cells (tieCells (t, q3)).toArray 101)).grownBy w6 (Value.slice A3 k c3).ownBlock := (by first | exact hgrow | exact grown_undrew hgrow)
               have S7 := (S5.alloc _).put3 hgrow2 (t, q3) hown6
               have K6 := (S5.alloc (.cells (tieCells (t, q3)).toArray 101)).1.1.turned hgrow2 (S5.1.2.2.2.2.2.ne_blk S5.1.1 (by decide))
               have fz : w6.cell? ⟨gP, 4, none⟩ = some (.slice A3 k c3) := K6.cell 4
               have fzf := K6.frozen
               have fzl := K6.lt))
          all_goals
            go_wp2_with fail
            go_roundw
            case rel => exact ⟨k + 1, _, _, l3 ++ [(t, q3)], by omega, by go_num, S7, Lib.hid (by rw [List.length_append, hl3.out]; rfl), Lib.hid (mem_snoc hT.out hq4.out.2.2)⟩
            case measure => simp [intOf]; omega
        · have hM0' : ¬ (1 : Int) < (NN : Int) := by omega
          go_wp2_with fail
          go_meet
          case rel => exact ⟨rfl, A3, k, c3, l3, hk, S3, hl3, hT⟩
      · go_wp2_with fail
        go_meet
        case rel => exact ⟨rfl, A3, k, c3, l3, hk, S3, hl3, hT⟩
  case rest =>
  obtain ⟨rfl, A3, n3, c3, l3, hn3, S', hl3, hT⟩ := hcut
  clear S
  have S := S'
  clear S'
  have k0 : wc.cell? ⟨gP, 0, none⟩ = some (.int .i64 m) := S.1.1.cell 0
  have k1 : wc.cell? ⟨gP, 1, none⟩ = some (.slice A0 NN c0) := S.1.1.cell 1
  have k2 : wc.cell? ⟨gP, 2, none⟩ = some (.slice A1' (MM + 1) c1') := S.1.1.cell 2
  have k3 : wc.cell? ⟨gP, 3, none⟩ = some (.slice A2 n2 c2) := S.1.1.cell 3
  have k4 : wc.cell? ⟨gP, 4, none⟩ = some (.slice A3 n3 c3) := S.1.1.cell 4
  have z0 : wc.cell? ⟨w.heap.size, 0, none⟩ = some (.int .i64 0) := S.2.2.1.cell 0
  have z1 : wc.cell? ⟨w.heap.size, 1, none⟩ = some (.slice none 0 0) := S.2.2.1.cell 1
  have z2 : wc.cell? ⟨w.heap.size, 2, none⟩ = some (.slice none 0 0) := S.2.2.1.cell 2
  have z3 : wc.cell? ⟨w.heap.size, 3, none⟩ = some (.slice none 0 0) := S.2.2.1.cell 3
  have z4 : wc.cell? ⟨w.heap.size, 4, none⟩ = some (.slice none 0 0) := S.2.2.1.cell 4
  have zf := S.2.2.1.frozen
  have zl := S.2.2.1.lt
  have kl := S.1.1.lt
  go_wp2_with fail
  refine bodyPost_ret (by simp [results, Tryd.results56, go_sem, z0, z1, z2, z3, z4]; try rfl) rfl ?_
  have hchl : LCH.length = MM + 1 := by rw [HLCH.out, List.length_append, hl1.out]; rfl
  have hright : pieceB m l0 LCH l2 l3 = true := by
    rw [HLCH.out]
    exact right_mk HM.out (by rw [hl0.out]; omega) (by rw [hl1.out]; omega) (by rw [hl2.out]; omega) (by rw [hl3.out]; omega) hR.out hC.out hsl (by rw [hl1.out]; exact hS.out) (by rw [hl0.out]; exact hT.out)
  have hsz : ∀ d ∈ LCH, d.1.size ≤ 20 := by
    rw [HLCH.out]
    exact mem_snoc (fun d hd => words_size.1 _ (hC.out d hd).1) (words_size.2 _ hsl)
  have hK := S.2.2.1
  have r0 := S.1.2.2.1
  have r1 := S.1.2.2.2.1
  have r2 := S.1.2.2.2.2.1
  have r3 := S.1.2.2.2.2.2
  have hcu := S.2.1
  have hgr := S.2.2.2.1
  have hgl3 := S.2.2.2.2.2.1
  have hA3 := S.2.2.2.2.2.2
  refine ⟨m, A0, NN, c0, l0, A1', MM + 1, c1', LCH, A2, n2, c2, l2, A3, n3, c3, l3, rfl, ⟨?_, ?_, ?_, ?_⟩, ⟨r0.addr, r1.addr, r2.addr, r3.addr⟩, ⟨hl0.out, hchl, hl2.out, hl3.out⟩, hright, hN1, hsz, ?_, ?_⟩
  · exact (((((r0.far hK (by decide) _).far (hK.set_ _ _) (by decide) _).far ((hK.set_ _ _).set_ _ _) (by decide) _).far (((hK.set_ _ _).set_ _ _).set_ _ _) (by decide) _).far ((((hK.set_ _ _).set_ _ _).set_ _ _).set_ _ _) (by decide) _).rd
  · exact (((((r1.far hK (by decide) _).far (hK.set_ _ _) (by decide) _).far ((hK.set_ _ _).set_ _ _) (by decide) _).far (((hK.set_ _ _).set_ _ _).set_ _ _) (by decide) _).far ((((hK.set_ _ _).set_ _ _).set_ _ _).set_ _ _) (by decide) _).rd
  · exact (((((r2.far hK (by decide) _).far (hK.set_ _ _) (by decide) _).far ((hK.set_ _ _).set_ _ _) (by decide) _).far (((hK.set_ _ _).set_ _ _).set_ _ _) (by decide) _).far ((((hK.set_ _ _).set_ _ _).set_ _ _).set_ _ _) (by decide) _).rd
  · exact (((((r3.far hK (by decide) _).far (hK.set_ _ _) (by decide) _).far ((hK.set_ _ _).set_ _ _) (by decide) _).far (((hK.set_ _ _).set_ _ _).set_ _ _) (by decide) _).far ((((hK.set_ _ _).set_ _ _).set_ _ _).set_ _ _) (by decide) _).rd
  · have hp : ∀ o : Nat, (⟨w.heap.size, o, none⟩ : Addr).block ≠ g ∧ (0 < n → ∀ b off, A = some ⟨b, off, none⟩ → b ≠ (⟨w.heap.size, o, none⟩ : Addr).block) := fun o => ⟨by dsimp only; omega, fun hn b off e => by have := hA3 hn b off e; dsimp only; omega⟩
    exact ((((hcu.far (hp 0) _).far (hp 1) _).far (hp 2) _).far (hp 3) _).far (hp 4) _
  · have hp : ∀ (o q : Nat), some (⟨w.heap.size, o, none⟩ : Addr).block = some q → w.heap.size ≤ q := fun o q e => by injection e with e; subst e; exact Nat.le_refl _
    exact grown_row (grown_row (grown_row (grown_row (grown_row hgr (grown_one _ _ _) (hp 0)) (grown_one _ _ _) (hp 1)) (grown_one _ _ _) (hp 2)) (grown_one _ _ _) (hp 3)) (grown_one _ _ _) (hp 4)
end Go.Proofs.YtfapdhfjcnehhaaDoor

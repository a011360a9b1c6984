
/-
  Contracts: values are drawn for a piece (spec.l08Values); what is drawn for the reports (spec.l08Pair, DrawPiece, DrawShowPiece, DrawShowValues, DrawShowState).
-/
import Derived.Test.YtfapdhfjcnehhaaDoorAnyP
namespace Go.Proofs.YtfapdhfjcnehhaaDoor
open Go.RowKit
set_option linter.unusedVariables false

theorem intCells_len (l : List Int) : (intCells l).length = l.length := by simp [intCells]
theorem intCells_app (l : List Int) (x : Int) : intCells l ++ [.int .i64 x] = intCells (l ++ [x]) := by simp [intCells]
/-- Integers in a slice, all in range. -/
def ValsX (w : World) (g : Nat) (e : Ending) (w' : World) : Prop :=
  ∃ (A' : Option Addr) (n' c' : Nat) (xs : List Int), e = .returned (.slice A' n' c') ∧ Rd w' 1 A' n' (intCells xs) ∧ (∀ b off, A' = some ⟨b, off, none⟩ → w.heap.size ≤ b) ∧ xs.length = n' ∧ n' ≤ 200 ∧ (∀ x ∈ xs, IntB x) ∧ w.grownBy w' (some g)
/-- How the values stand. -/
def Vs (w wr : World) (g : Nat) (A : Option Addr) (n c : Nat) (l : List Int) (A' : Option Addr) (k c' : Nat) (xs : List Int) (C : Array Value) : Prop :=
  Mine wr (w.heap.size + 1) 3 1 A' k c' (intCells xs) ∧ Hid (xs.length = k) ∧ Hid (∀ x ∈ xs, IntB x) ∧ Blk wr w.heap.size 52 C ∧ CurX wr g A n c l ∧ w.grownBy wr (some g) ∧ g < w.heap.size ∧ (0 < n → ∀ b off, A = some ⟨b, off, none⟩ → b < w.heap.size)
section
variable {w wr w2 : World} {g n c k c' : Nat} {A A' : Option Addr} {l xs : List Int} {C : Array Value}
theorem Vs.call (h : Vs w wr g A n c l A' k c' xs C) (hc : CurX w2 g A n c l) (hg : wr.grownBy w2 (some g)) : Vs w w2 g A n c l A' k c' xs C := by
  obtain ⟨h1, h2, h3, h4, h5, h6, h7, h8⟩ := h
  exact ⟨h1.grown hg (fun q e => .inl (by injection e with e; omega)), h2, h3, h4.turned hg (fun q e => by injection e with e; omega), hc, grownBy_trans h6 hg, h7, h8⟩
theorem Vs.next (h : Vs w wr g A n c l A' k c' xs C) (hb : Below wr.heap.size wr w2) : Vs w w2 g A n c l A' k c' xs C := by
  obtain ⟨h1, h2, h3, h4, h5, h6, h7, h8⟩ := h
  exact ⟨h1.next hb, h2, h3, h4.next hb, h5.next hb, grown_below h6 hb, h7, h8⟩
theorem Vs.alloc (h : Vs w wr g A n c l A' k c' xs C) (o : Obj) : Vs w (wr.alloc o) g A n c l A' k c' xs C := h.next ((Below.refl _ _).alloc (Nat.le_refl _) o)
theorem Vs.put (h : Vs w wr g A n c l A' k c' xs C) (hg : wr.grownBy w2 (Value.slice A' k c').ownBlock) {x : Int} (hx : IntB x) {q cap : Nat} (hown : w2.ownsRow (w.heap.size + 1) 3 1 (.slice (some ⟨q, 0, none⟩) (k + 1) cap) (k + 1) (intCells xs ++ [.int .i64 x])) :
    Vs w w2 g A n c l (some ⟨q, 0, none⟩) (k + 1) cap (xs ++ [x]) C := by
  obtain ⟨h1, h2, h3, h4, h5, h6, h7, h8⟩ := h
  have hr := h1.row_ge
  have hs := h6.size
  refine ⟨by rw [← intCells_app]; exact hown, Lib.hid (by rw [List.length_append, h2.out]; rfl), Lib.hid (mem_snoc h3.out hx), h4.turned hg (fun q e => by have := hr q e; omega), h5.turned hg (fun q e => ⟨by have := hr q e; omega, fun hn b off eA => by have := hr q e; have := h8 hn b off eA; omega⟩), grown_row h6 hg (fun q e => by have := hr q e; omega), h7, h8⟩
end
set_option maxRecDepth 100000 in
set_option maxHeartbeats 3200000 in
theorem l08Values_any (m : Int) (A0 : Option Addr) (n0 c0 : Nat) (l0 : List RuleD) (A1 : Option Addr) (n1 c1 : Nat) (l1 : List ChunkD) (A2 : Option Addr) (n2 c2 : Nat) (l2 : List SpanD) (A3 : Option Addr) (n3 c3 : Nat) (l3 : List TieD) (g : Nat) (A : Option Addr) (n c : Nat) (l : List Int) (w : World) (hl : Hid (LenP n0 l0 n1 l1 n2 l2 n3 l3)) (hr : RdP w A0 n0 l0 A1 n1 l1 A2 n2 l2 A3 n3 l3) (hn : n0 ≤ 100) (hv : Hid (∀ d ∈ l0, d.1 ≤ 256)) (hne : ∀ b off, A0 = some ⟨b, off, none⟩ → b ≠ g)
    (HL : Hid (∀ x ∈ l, 0 ≤ x ∧ x ≤ 255)) (hcur : CurX w g A n c l) (hA : 0 < n → ∀ b off, A = some ⟨b, off, none⟩ → b < w.heap.size) :
    Calls Tryd.prog 95 #[.pointer (some ⟨g, 0, none⟩), .agg #[.int .i64 m, .slice A0 n0 c0, .slice A1 n1 c1, .slice A2 n2 c2, .slice A3 n3 c3]] w (ValsX w g) := by
  obtain ⟨iT, hi, hz0, hz1, hz2⟩ := info_parts infoInt
  have HI := Lib.hid (And.intro hi (And.intro hz0 (And.intro hz1 hz2)))
  clear hi hz0 hz1 hz2
  have hgl := hcur.lt
  have HR := Lib.hid (fun (W : World) (hW : w.grownBy W (some g)) => (hr.1.grown hW (fun _ => hne) : Rd W 2 A0 n0 (l0.flatMap ruleCells)))
  have hL0 := Lib.hid hl.out.1
  have hwb : w.grownBy ((w.alloc (.cells #[.int .i64 m, .slice A0 n0 c0, .slice A1 n1 c1, .slice A2 n2 c2, .slice A3 n3 c3] 52)).alloc (.cells #[] 3)) (some g) := grown_below (grown_refl w (some g)) (by repeat' (first | (with_reducible exact Below.refl _ _) | (with_reducible assumption) | (with_reducible refine below_drewN ?_ _) | (with_reducible refine Below.drew ?_) | (with_reducible refine Below.alloc ?_ ?_ _) | (with_reducible refine Below.setCell ?_ ?_ _) | go_size))
  have V0 : Vs w ((w.alloc (.cells #[.int .i64 m, .slice A0 n0 c0, .slice A1 n1 c1, .slice A2 n2 c2, .slice A3 n3 c3] 52)).alloc (.cells #[] 3)) g A n c l (some ⟨w.heap.size + 1, 0, none⟩) 0 0 [] #[.int .i64 m, .slice A0 n0 c0, .slice A1 n1 c1, .slice A2 n2 c2, .slice A3 n3 c3] := by
    refine ⟨?_, Lib.hid rfl, Lib.hid (fun x hx => by cases hx), (Blk.new w _ _).alloc _, (hcur.alloc _).alloc _, hwb, hgl, hA⟩
    have h := own_empty (w.alloc (.cells #[.int .i64 m, .slice A0 n0 c0, .slice A1 n1 c1, .slice A2 n2 c2, .slice A3 n3 c3] 52)) 3 1
    rw [World.size_alloc] at h
    exact h
  clear hr hne hcur hA hwb
  go_enter Tryd.func95, Tryd.ntmps95
  go_wp2_with fail
  go_loopw [5, 6, 7] (fun s i _ wr => ∃ (k : Nat) (A' : Option Addr) (c' : Nat) (xs : List Int), k ≤ n0 ∧ i = .int .i64 k ∧ s = .slice A' k c' ∧ Vs w wr g A n c l A' k c' xs #[.int .i64 m, .slice A0 n0 c0, .slice A1 n1 c1, .slice A2 n2 c2, .slice A3 n3 c3]) (fun _ i _ _ => n0 - (intOf i).toNat)
  case atStart => exact ⟨0, _, 0, [], Nat.zero_le _, rfl, rfl, V0⟩
  case round =>
  clear V0
  obtain ⟨k, A', c', xs, hk, rfl, rfl, V⟩ := hrel
  have cK := V.2.2.2.1.cell
  have zK := V.2.2.2.1.lt
  by_cases hlt : k < n0
  · obtain ⟨⟨x0, x1⟩, hd⟩ : ∃ d, l0[k]? = some d := ⟨_, List.getElem?_eq_getElem (by have := hL0.out; omega)⟩
    obtain ⟨b, off, hA0, hblt, y0, y1⟩ := rule_at (HR.out _ V.2.2.2.2.2.1) hlt hd
    have hx0 : x0 ≤ 256 := hv.out _ (List.mem_of_getElem? hd)
    subst hA0
    have hsz := V.2.2.2.2.2.1.size
    obtain ⟨nn, hnn⟩ : ∃ nn : Int, nn = if x0 < 1 then 1 else x0 := ⟨_, rfl⟩
    have hnn1 : 1 ≤ nn ∧ nn ≤ 256 := by rw [hnn]; split <;> omega
    obtain ⟨hn1, hn2⟩ := hnn1
    clear hd
    by_cases hx1 : x0 < 1
    · rw [if_pos hx1] at hnn
      go_wp2_with fail
      refine (l01BelowX g A n c l 1 _ HL.out V.2.2.2.2.1 (by omega) (by omega)).mono ?_
      rintro e w3 ⟨x, rfl, hxa, hxb, hc, hg⟩
      have V3 := V.call hc hg
      have hsz3 := V3.2.2.2.2.2.1.size
      clear hc hg V cK zK y0 y1 hblt hnn
      go_wp2_with (at_builtin; (refine wpList_append_lies _ rfl (.tmp 24) (.tmp 28) _ rfl (w.heap.size + 1) 3 iT (.int .i64 0) 1 8 Tryd.underlying35 HI.out.1 HI.out.2.1 HI.out.2.2.1 HI.out.2.2.2 rfl (by decide) (.slice A' k c') k (intCells xs) rfl (V3.alloc _).1 ⟨w3.heap.size, 0, none⟩ 1 1 [.int .i64 x] rfl rfl (World.news_of_block (Blk.new w3 3 #[.int .i64 x])) (fun u hu => by simp at hu; rcases hu with rfl; rfl) (by decide) (by unfold maxLen; omega) (by omega) (by simp; have := V3.2.2.2.1.lt; omega) _ rfl ?_); intro q cap w7 hown hgrow hat hlt7
                   have V7 := (V3.alloc _).put hgrow ⟨by omega, by omega⟩ hown
                   clear hown hgrow hat hlt7)
      go_roundw
      case rel => exact ⟨k + 1, _, _, _, by omega, by go_num, rfl, V7⟩
      case measure => simp [intOf]; omega
    · rw [if_neg hx1] at hnn
      go_wp2_with fail
      refine (l01BelowX g A n c l x0 _ HL.out V.2.2.2.2.1 (by omega) (by omega)).mono ?_
      rintro e w3 ⟨x, rfl, hxa, hxb, hc, hg⟩
      have V3 := V.call hc hg
      have hsz3 := V3.2.2.2.2.2.1.size
      clear hc hg V cK zK y0 y1 hblt hnn
      go_wp2_with (at_builtin; (refine wpList_append_lies _ rfl (.tmp 24) (.tmp 28) _ rfl (w.heap.size + 1) 3 iT (.int .i64 0) 1 8 Tryd.underlying35 HI.out.1 HI.out.2.1 HI.out.2.2.1 HI.out.2.2.2 rfl (by decide) (.slice A' k c') k (intCells xs) rfl (V3.alloc _).1 ⟨w3.heap.size, 0, none⟩ 1 1 [.int .i64 x] rfl rfl (World.news_of_block (Blk.new w3 3 #[.int .i64 x])) (fun u hu => by simp at hu; rcases hu with rfl; rfl) (by decide) (by unfold maxLen; omega) (by omega) (by simp; have := V3.2.2.2.1.lt; omega) _ rfl ?_); intro q cap w7 hown hgrow hat hlt7
                   have V7 := (V3.alloc _).put hgrow ⟨by omega, by omega⟩ hown
                   clear hown hgrow hat hlt7)
      go_roundw
      case rel => exact ⟨k + 1, _, _, _, by omega, by go_num, rfl, V7⟩
      case measure => simp [intOf]; omega
  obtain rfl : n0 = k := by omega
  clear hlt hk
  go_wp2_with fail
  refine (l01BelowX g A n c l 10 _ HL.out V.2.2.2.2.1 (by omega) (by omega)).mono ?_
  rintro e w3 ⟨x, rfl, hxa, hxb, hc, hg⟩
  have V3 := V.call hc hg
  have hsz3 := V3.2.2.2.2.2.1.size
  have hzk := V3.2.2.2.1.lt
  clear hc hg V cK zK
  by_cases q0 : x = 0
  · subst q0
    go_wp2_with (at_builtin; (refine wpList_append_lies _ rfl (.tmp 34) (.tmp 35) _ rfl (w.heap.size + 1) 3 iT (.int .i64 0) 1 8 Tryd.underlying35 HI.out.1 HI.out.2.1 HI.out.2.2.1 HI.out.2.2.2 rfl (by decide) (.slice A' n0 c') n0 (intCells xs) rfl (V3.alloc _).1 ⟨w3.heap.size, 0, none⟩ 1 1 [.int .i64 0] rfl rfl (World.news_of_block (Blk.new w3 3 #[.int .i64 0])) (fun u hu => by simp at hu; rcases hu with rfl; rfl) (by decide) (by unfold maxLen; omega) (by omega) (by simp; omega) _ rfl ?_); intro q cap w7 hown hgrow hat hlt7
                 have V7 := (V3.alloc _).put hgrow ⟨by omega, by omega⟩ hown
                 clear hown hgrow hat hlt7)
    go_ret
    exact ⟨_, _, _, _, rfl, V7.1.rd, fun b off e => Nat.le_of_succ_le (V7.1.addr b off e), V7.2.1.out, by omega, V7.2.2.1.out, V7.2.2.2.2.2.1⟩
  · have d0 : (x == 0) = false := beq_eq_false_iff_ne.2 q0
    by_cases q1 : x = 1
    · subst q1
      by_cases hp : 0 < n0
      · obtain ⟨q, hq, hqB, cs, hqb⟩ := V3.1.some_ hp
        subst hq
        have hp' : (0 : Int) < (n0 : Int) := by omega
        go_wp2_with fail
        refine (l01PickIntX g A n c l (some ⟨w3.heap.size, 0, none⟩) 2 2 [-1, 3] _ HL (V3.alloc _).2.2.2.2.1 (by omega) (by omega) rfl (by have h := Rd.fresh (size := 1) (n := 2) w3 3 (intCells [-1, 3]) rfl; simpa [intCells] using h) (fun b off e => by injection e with e; injection e with e; have := V3.2.2.2.2.2.2.1; omega)).mono ?_
        rintro e w4 ⟨y, rfl, hy, hc, hg⟩
        have hyb : IntB y := by simp only [List.mem_cons, List.not_mem_nil, or_false] at hy; rcases hy with rfl | rfl <;> exact ⟨by omega, by omega⟩
        have V4 := (V3.alloc _).call hc hg
        obtain ⟨z0, hz⟩ : ∃ z0, xs[0]? = some z0 := ⟨_, List.getElem?_eq_getElem (by rw [V4.2.1.out]; exact hp)⟩
        obtain ⟨b, off, e, hbl, c0⟩ := int_at V4.1.rd hp hz
        injection e with e; injection e with e1 e2; subst e1; subst e2
        obtain ⟨q2, e, _, cs2, hqb2⟩ := V4.1.some_ hp
        injection e with e; injection e with e; subst e
        have cf := hqb2.frozen
        have M5 := V4.1.set_ (i := 0) (by omega) (.int .i64 y)
        have he : (intCells xs).set 0 (.int .i64 y) = intCells (xs.set 0 y) := by simp [intCells]
        rw [he] at M5
        have hb5 := grown_row V4.2.2.2.2.2.1 (grown_one w4 ⟨q, 0, none⟩ (.int .i64 y)) (fun z e => by injection e with e; subst e; dsimp only; omega)
        have HV2 := V4.2.1
        have HV3 := V4.2.2.1
        simp only [Nat.add_zero] at c0
        clear hqb hqb2 he hc hg V3 V4
        go_wp2_with fail
        go_ret
        exact ⟨_, _, _, xs.set 0 y, rfl, M5.rd, fun b off e => Nat.le_of_succ_le (M5.addr b off e), by rw [List.length_set]; exact HV2.out, by omega, mem_set HV3.out hyb, hb5⟩
      · obtain rfl : n0 = 0 := by omega
        go_wp2_with fail
        go_ret
        exact ⟨_, _, _, xs, rfl, V3.1.rd, fun b off e => Nat.le_of_succ_le (V3.1.addr b off e), V3.2.1.out, by omega, V3.2.2.1.out, V3.2.2.2.2.2.1⟩
    · have d1 : (x == 1) = false := beq_eq_false_iff_ne.2 q1
      go_wp2_with fail
      go_ret
      exact ⟨_, _, _, xs, rfl, V3.1.rd, fun b off e => Nat.le_of_succ_le (V3.1.addr b off e), V3.2.1.out, by omega, V3.2.2.1.out, V3.2.2.2.2.2.1⟩
end Go.Proofs.YtfapdhfjcnehhaaDoor

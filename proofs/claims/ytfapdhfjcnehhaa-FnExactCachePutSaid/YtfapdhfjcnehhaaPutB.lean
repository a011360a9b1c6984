
/-
  Contracts: entries taken out of a list in place (slices.DeleteFunc, slices.Delete).
-/
import Derived.Test.YtfapdhfjcnehhaaPutA
import Derived.Deep.RegionLaw
namespace Go.Proofs.Ytfapdhfjcnehhaa
open Go.RowKit
set_option linter.unusedVariables false

def outE (p : EntryD → Bool) (l : List EntryD) : List EntryD := l.filter (fun e => !p e)
theorem firstIx_cases (p : EntryD → Bool) (l : List EntryD) : ∀ i0 : Nat, (firstIx p l i0 = -1 ∧ outE p l = l) ∨ ∃ k d, firstIx p l i0 = ((i0 + k : Nat) : Int) ∧ k < l.length ∧ outE p (l.take k) = l.take k ∧ l[k]? = some d ∧ p d = true := by
  induction l with
  | nil => intro i0; exact .inl ⟨rfl, rfl⟩
  | cons x l ih =>
    intro i0
    rw [firstIx]
    by_cases h : p x = true
    · rw [if_pos h]
      exact .inr ⟨0, x, by simp, by simp, rfl, rfl, h⟩
    · rw [if_neg h]
      have h0 : p x = false := by simpa using h
      rcases ih (i0 + 1) with ⟨e1, e2⟩ | ⟨k, d, e1, e2, e3, e4, e5⟩
      · refine .inl ⟨by push_cast at e1; exact e1, ?_⟩
        unfold outE at e2 ⊢
        rw [List.filter_cons_of_pos (by rw [h0]; rfl), e2]
      · refine .inr ⟨k + 1, d, by push_cast at e1 ⊢; rw [e1]; omega, by simp; omega, ?_, by simpa using e4, e5⟩
        unfold outE at e3 ⊢
        rw [List.take_succ_cons, List.filter_cons_of_pos (by rw [h0]; rfl), e3]
/-- Where the walk is: the first i of the list are what is kept of the first j; from j on it is as it was. -/
def DelAt (p : EntryD → Bool) (l cur : List EntryD) (i j : Nat) : Prop := cur.length = l.length ∧ cur.take i = outE p (l.take j) ∧ cur.drop j = l.drop j
theorem del_start {p : EntryD → Bool} {l : List EntryD} {k : Nat} {d : EntryD} (h1 : outE p (l.take k) = l.take k) (h2 : l[k]? = some d) (h3 : p d = true) : DelAt p l l k (k + 1) := by
  refine ⟨rfl, ?_, rfl⟩
  rw [List.take_add_one, h2]
  unfold outE at h1 ⊢
  rw [List.filter_append, h1]
  simp [h3]
theorem del_at {p : EntryD → Bool} {l cur : List EntryD} {i j : Nat} (h : DelAt p l cur i j) : cur[j]? = l[j]? := by
  have h1 := congrArg (fun x => x[0]?) h.2.2
  simpa using h1
theorem drop_next {α : Type} {a b : List α} {j : Nat} (h : a.drop j = b.drop j) : a.drop (j + 1) = b.drop (j + 1) := by
  rw [← List.drop_drop, ← List.drop_drop, h]
theorem del_skip {p : EntryD → Bool} {l cur : List EntryD} {i j : Nat} {d : EntryD} (h : DelAt p l cur i j) (hd : l[j]? = some d) (hp : p d = true) : DelAt p l cur i (j + 1) := by
  refine ⟨h.1, ?_, drop_next h.2.2⟩
  rw [h.2.1, List.take_add_one, hd]
  unfold outE
  rw [List.filter_append]
  simp [hp]
theorem del_keep {p : EntryD → Bool} {l cur : List EntryD} {i j : Nat} {d : EntryD} (h : DelAt p l cur i j) (hij : i ≤ j) (hd : l[j]? = some d) (hp : p d = false) : DelAt p l (cur.set i d) (i + 1) (j + 1) := by
  have hj : j < l.length := (List.getElem?_eq_some_iff.1 hd).1
  have hi : i < cur.length := by rw [h.1]; omega
  refine ⟨by rw [List.length_set, h.1], ?_, ?_⟩
  · rw [List.take_add_one, List.getElem?_set_self hi, List.take_set_of_le (Nat.le_refl _), h.2.1, List.take_add_one, hd]
    unfold outE
    rw [List.filter_append]
    simp [hp]
  · rw [List.drop_set_of_lt (by omega)]
    exact drop_next h.2.2
theorem del_end {p : EntryD → Bool} {l cur : List EntryD} {i j : Nat} (h : DelAt p l cur i j) (hj : l.length ≤ j) : cur.take i = outE p l := by
  rw [h.2.1, List.take_of_length_le hj]
theorem flat_take (l : List EntryD) (i : Nat) : (l.flatMap entryCells).take (i * 5) = (l.take i).flatMap entryCells := by
  induction l generalizing i with
  | nil => simp
  | cons e l ih =>
    cases i with
    | zero => simp
    | succ i =>
      rw [List.flatMap_cons, List.take_succ_cons, List.flatMap_cons, List.take_append, entryCells_len, show (i + 1) * 5 - 5 = i * 5 by omega, ih, List.take_of_length_le (by rw [entryCells_len]; omega)]

/-- What DeleteFunc has: the kept ones, in the same block. -/
def DelP (g c : Nat) (l : List EntryD) (w : World) (e : Ending) (w' : World) : Prop :=
  e = .returned (.slice (some ⟨g, 0, none⟩) l.length c) ∧ Own w' g 47 (c * 5) (l.flatMap entryCells) ∧ w.grownBy w' (some g)
set_option maxRecDepth 100000 in
set_option maxHeartbeats 1600000 in
theorem deleteFunc_any (g n c : Nat) (l : List EntryD) (t x3 : ByteArray) (a b x4 : Int) (g1 : Nat) (w : World) (hn : n ≤ 1048577) (hnc : n ≤ c) (hc : c ≤ maxLen) (hl : Hid (l.length = n)) (ho : Own w g 47 (c * 5) (l.flatMap entryCells)) (K : Blk w g1 47 #[.string t, .int .i64 a, .int .i64 b, .string x3, .int .i64 x4]) (hne : g1 ≠ g) :
    Calls Try.prog 45 #[.slice (some ⟨g, 0, none⟩) n c, .func (Fn.func 46) #[] #[.pointer (some ⟨g1, 0, none⟩)]] w (DelP g c (outE (sameE t a b) l) w) := by
  have hr : Rd w 5 (some ⟨g, 0, none⟩) n (l.flatMap entryCells) := ho.rd (by rw [flat_len entryCells entryCells_len, hl.out])
  have HX := Lib.hid (indexFuncPut_any (some ⟨g, 0, none⟩) n c l t a b g1 w (by omega) hl hr (K.cell 0) (K.cell 1) (K.cell 2))
  have HK := Lib.hid K
  have HO := Lib.hid ho
  have hmc : c ≤ 9223372036854775807 := by unfold maxLen at hc; omega
  clear hr K ho
  rcases firstIx_cases (sameE t a b) l 0 with ⟨e1, e2⟩ | ⟨k, d, e1, hk, e3, e4, e5⟩
  · have e1' : firstIx (sameE t a b) l 0 = -1 := e1
    rw [e1'] at HX
    rw [e2]
    clear e1 e1' e2
    go_enter Try.func45, Try.ntmps45
    go_wp2_with fail
    refine HX.out.mono ?_
    rintro e w1 ⟨rfl, h1⟩
    go_wp2
    go_ret
    exact ⟨(by rw [hl.out]; rfl), HO.out.next h1, grow_below (World.grownBy.refl _ _) h1⟩
  · have e1' : firstIx (sameE t a b) l 0 = (k : Int) := by simpa using e1
    rw [e1'] at HX
    have hst := Lib.hid (del_start e3 e4 e5)
    have hkn : k < n := by rw [← hl.out]; exact hk
    have hk1 : ¬ ((k : Int) = -1) := by omega
    have hk2 : ((k : Int) == -1) = false := by rw [beq_eq_false_iff_ne]; exact hk1
    clear e1 e1' e3 e4 e5 hk hk1
    go_enter Try.func45, Try.ntmps45
    go_wp2_with fail
    refine HX.out.mono ?_
    rintro e w1 ⟨rfl, h1⟩
    have K1 := Lib.hid (HK.out.next h1)
    have O1 := Lib.hid (HO.out.next h1)
    have G1 := grow_below (row := some g) (World.grownBy.refl w _) h1
    clear HK HO HX h1
    go_wp2
    go_loopw [5, 6] (fun i j wr => ∃ (x y : Nat) (cur : List EntryD), x < y ∧ y ≤ n ∧ i = .int .i64 x ∧ j = .int .i64 y ∧ Hid (DelAt (sameE t a b) l cur x y) ∧ Hid (Own wr g 47 (c * 5) (cur.flatMap entryCells)) ∧ Hid (Blk wr g1 47 #[.string t, .int .i64 a, .int .i64 b, .string x3, .int .i64 x4]) ∧ w.grownBy wr (some g)) (fun _ j _ => n - (intOf j).toNat)
    case atStart => exact ⟨k, k + 1, l, by omega, by omega, rfl, by go_num, hst, O1, K1, G1⟩
    case round =>
      clear O1 K1 G1 hst
      obtain ⟨x, y, cur, hxy, hy, rfl, rfl, HD, HO, HK, hG⟩ := hrel
      have hcl : cur.length = n := by have h1 := HD.out.1; have h2 := hl.out; omega
      have hgl := HO.out.lt
      have hfz := HO.out.frozen
      by_cases hyn : y < n
      · obtain ⟨⟨y0, y1, y2, y3, y4⟩, hd⟩ : ∃ d, cur[y]? = some d := ⟨_, List.getElem?_eq_getElem (by omega)⟩
        obtain ⟨b', off, e, hblt, c0, c1, c2, c3, c4⟩ := entry_at (HO.out.rd (n := n) (by rw [flat_len entryCells entryCells_len, hcl])) hyn hd
        injection e with e; injection e with eb eo; subst eb; subst eo
        simp only [Nat.zero_add] at c0 c1 c2 c3 c4
        have hd2 : l[y]? = some (y0, y1, y2, y3, y4) := by rw [← del_at HD.out]; exact hd
        have HD2 := Lib.hid hd2
        have HC := Lib.hid (fun s (hs : sameE t a b (y0, y1, y2, y3, y4) = s) (W : World) (KK : Blk W g1 47 #[.string t, .int .i64 a, .int .i64 b, .string x3, .int .i64 x4]) => show Calls Try.prog 46 #[.agg #[.string y0, .int .i64 y1, .int .i64 y2, .string y3, .int .i64 y4], .pointer (some ⟨g1, 0, none⟩)] W fun e w' => e = .returned (.bool s) ∧ Below W.heap.size W w' by
          have h := putFn_any t y0 y3 a b y1 y2 y4 g1 W (KK.cell 0) (KK.cell 1) (KK.cell 2)
          rwa [hs] at h)
        clear hd hd2
        cases hs : sameE t a b (y0, y1, y2, y3, y4) with
        | true =>
          have hst := Lib.hid (del_skip HD.out HD2.out hs)
          have HS := Lib.hid (HC.out _ hs)
          clear hs HC
          go_wp2_with fail
          refine (HS.out _ (by exact HK.out.alloc _)).mono ?_
          rintro e w2 ⟨rfl, h2⟩
          have O2 := Lib.hid (HO.out.next1 h2)
          have K2 := Lib.hid (HK.out.next1 h2)
          have G2 := grow_below (grownBy_trans hG (World.grownBy_alloc wr _ _)) h2
          clear c0 c1 c2 c3 c4 hblt hgl hfz HO HK hG h2 hcl
          go_wp2
          go_roundw
          case rel => exact ⟨x, y + 1, cur, by omega, by omega, rfl, by go_num, hst, O2, K2, G2⟩
          case measure => simp [intOf]; omega
        | false =>
          have hst := Lib.hid (del_keep HD.out (by omega) HD2.out hs)
          have HS := Lib.hid (HC.out _ hs)
          clear hs HC
          go_wp2_with fail
          refine (HS.out _ (by exact HK.out.alloc _)).mono ?_
          rintro e w2 ⟨rfl, h2⟩
          have O2 := Lib.hid (HO.out.next1 h2)
          have K2 := Lib.hid (HK.out.next1 h2)
          have G2 := grow_below (grownBy_trans hG (World.grownBy_alloc wr _ _)) h2
          have N2 : Blk w2 wr.heap.size 47 #[.string y0, .int .i64 y1, .int .i64 y2, .string y3, .int .i64 y4] := Blk.fresh h2
          have n0 : w2.cell? ⟨wr.heap.size, 0, none⟩ = some (.string y0) := N2.cell 0
          have n1 : w2.cell? ⟨wr.heap.size, 1, none⟩ = some (.int .i64 y1) := N2.cell 1
          have n2 : w2.cell? ⟨wr.heap.size, 2, none⟩ = some (.int .i64 y2) := N2.cell 2
          have n3 : w2.cell? ⟨wr.heap.size, 3, none⟩ = some (.string y3) := N2.cell 3
          have n4 : w2.cell? ⟨wr.heap.size, 4, none⟩ = some (.int .i64 y4) := N2.cell 4
          have zn := N2.lt
          have hg2 := O2.out.lt
          have hf2 := O2.out.frozen
          obtain ⟨o0, e0⟩ := O2.out.there (i := x * 5) (by omega)
          obtain ⟨o1, e1⟩ := O2.out.there (i := x * 5 + 1) (by omega)
          obtain ⟨o2, e2⟩ := O2.out.there (i := x * 5 + 2) (by omega)
          obtain ⟨o3, e3⟩ := O2.out.there (i := x * 5 + 3) (by omega)
          obtain ⟨o4, e4⟩ := O2.out.there (i := x * 5 + 4) (by omega)
          clear c0 c1 c2 c3 c4 hblt hgl hfz HO HK hG h2 N2
          have hcl5 : x * 5 + 5 ≤ (cur.flatMap entryCells).length := by rw [flat_len entryCells entryCells_len, hcl]; omega
          go_wp2
          go_roundw
          case rel =>
            have hO := O2.out.setAll (entryCells (y0, y1, y2, y3, y4)) (i := x * 5) hcl5
            rw [setRow_flat cur x _ (by omega)] at hO
            exact ⟨x + 1, y + 1, _, by omega, by omega, by go_num, by go_num, hst, hO, (((((K2.out.far (by dsimp only; exact hne) _).far (by dsimp only; exact hne) _).far (by dsimp only; exact hne) _).far (by dsimp only; exact hne) _).far (by dsimp only; exact hne) _), grow_sets (entryCells (y0, y1, y2, y3, y4)) (i := x * 5) G2⟩
          case measure => simp [intOf]; omega
      · obtain rfl : y = n := by omega
        have hfin := Lib.hid (del_end HD.out (by rw [hl.out]; exact Nat.le_refl _))
        have hsh : (cur.take x).length = x := by rw [List.length_take]; omega
        have hz5 : ∀ j, j < (y - x) * 5 → (wr.cell? ⟨g, x * 5 + j, none⟩).isSome = true := fun j hj => by
          obtain ⟨u, hu⟩ := HO.out.there (i := x * 5 + j) (by omega)
          rw [hu]; rfl
        have hcl := fun ty => run_clear_cells (P := Try.prog) wr 42 47 ty _ Try.underlying42 zeroEntry (by intro v hv; simp [Value.cells] at hv; rcases hv with rfl | rfl | rfl | rfl | rfl <;> rfl) (by decide) g (x * 5) (y - x) (c - x) (by omega) hz5 (fun j _ => hfz _)
        have hxc : x ≤ c := by omega
        clear hz5
        have hown : Own wr g 47 (c * 5) ((cur.take x).flatMap entryCells) := by
          have h := HO.out.cut (x * 5)
          rwa [flat_take] at h
        have hown2 := fun us => Own.pastAll us hown (i := x * 5) (by rw [flat_len entryCells entryCells_len, hsh]; exact Nat.le_refl _)
        go_wp2
        go_ret
        rw [← hfin.out]
        exact ⟨(by rw [hsh]; rfl), hown2 _, grow_sets _ hG⟩
end Go.Proofs.Ytfapdhfjcnehhaa

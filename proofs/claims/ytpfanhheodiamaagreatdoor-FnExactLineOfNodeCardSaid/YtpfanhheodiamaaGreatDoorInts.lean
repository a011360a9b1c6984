
/-
  Lists of integers: the argument opened, copies, equality (laws.toIntS, eqIntS).
-/
import Derived.Test.YtpfanhheodiamaaGreatDoorOpen
import Derived.Test.YtpfanhheodiamaaGreatDoorMine
import Derived.Laws.MakeOwn
import Derived.SliceStrings
import Derived.DataShut
namespace Go.Proofs.YtpfanhheodiamaaGreatDoor
open Go.RowKit Go.WideShapes Go.ChangeShapes Go.Joins Go.Deep
set_option linter.unusedVariables false

def intCells (l : List Int) : List Value := l.map (Value.int .i64)
def IntB (x : Int) : Prop := -9223372036854775808 ≤ x ∧ x ≤ 9223372036854775807
theorem int_at {w : World} {A : Option Addr} {n k : Nat} {l : List Int} {x : Int} (h : Rd w 1 A n (intCells l)) (hk : k < n) (hd : l[k]? = some x) :
    ∃ b off, A = some ⟨b, off, none⟩ ∧ b < w.heap.size ∧ w.cell? ⟨b, off + k, none⟩ = some (.int .i64 x) := by
  obtain ⟨b, off, e, hb, hc⟩ := h.at_ (by omega)
  exact ⟨b, off, e, hb, hc k _ (by unfold intCells; rw [List.getElem?_map, hd]; rfl)⟩
section
variable {H : Type} {enc : TypeId × Value → H} {W : World} {base : Nat} {v : Value} {d : DataW H} {p : List MemPlace} {hd : Bool}
theorem flat_ints (l : List Int) : l.flatMap (fun x => [Value.int .i64 x]) = intCells l := by
  induction l with
  | nil => rfl
  | cons x l ih => simp [ih, intCells]
theorem cellsInt : Tryz.prog.cellsOf 3 = 1 := by kernel_rfl
set_option maxRecDepth 100000 in
theorem open_nums_cells {cs : List Value} {fuel : Nat} {x : DataW H × List MemPlace} (hf : DataW.trod enc Tryz.prog W 0 (fun _ => true) hd fuel 38 cs = some x) :
    ∃ (A : Option Addr) (n c : Nat) (l : List Int), cs = [.slice A n c] ∧ (l.length = n ∧ n ≤ maxLen ∧ Rd W 1 A n (intCells l) ∧ ∀ x ∈ l, IntB x) := by
  rcases open_ints Tryz.underlying38 Tryz.underlying3 cellsInt hf with ⟨h1, _⟩ | ⟨a, n', c', zs, h1, _, hle, hmax, hm, hx, hi, hw⟩
  · exact ⟨none, 0, 0, [], h1, rfl, Nat.zero_le _, Rd.none_ _ _ _, fun d hd => by cases hd⟩
  · simp only [if_true] at hm
    have key : ∀ i, i < n' → ∃ x : Int, IntB x ∧ ∀ j u, ([Value.int .i64 x])[j]? = some u → W.cell? (a.add (i * 1 + j)) = some u := by
      intro i hin
      refine ⟨zs[i]'(by omega), (Lit.wf_int_iff .i64 _).1 (hw _ (List.getElem_mem _)), fun j u hj => ?_⟩
      match j, hj with
      | 0, hj =>
        obtain rfl := Option.some.inj hj
        have h3 := hi i (by omega)
        simp only [Nat.mul_one, Nat.add_zero]
        rw [h3, List.getD_eq_getElem?_getD, List.getElem?_eq_getElem (by omega)]; rfl
      | j + 1, hj => simp at hj
    obtain ⟨l, hl, hr, ho⟩ := rd_of_elems (W := W) (a := a) (n := n') (fun x => [Value.int .i64 x]) IntB (size := 1) (fun _ => rfl) (by omega) key
    exact ⟨some a, n', c', l, h1, hl, by omega, by rw [flat_ints] at hr; exact hr, ho⟩
set_option maxRecDepth 100000 in
theorem open_nums (hv : Value.okWide Tryz.prog W .any base 38 v) (h : DataW.Trod enc Tryz.prog W 0 (fun _ => true) hd 38 v d p) :
    ∃ (A : Option Addr) (n c : Nat) (l : List Int), v = .slice A n c ∧ (l.length = n ∧ n ≤ maxLen ∧ Rd W 1 A n (intCells l) ∧ ∀ x ∈ l, IntB x) := by
  obtain ⟨A, n, c, rfl⟩ := okWide_slice Tryz.underlying38 hv
  obtain ⟨fuel, hf⟩ := h
  obtain ⟨A', n', c', l, e, r⟩ := open_nums_cells hf
  simp only [Value.cells, List.cons.injEq, Value.slice.injEq, and_true] at e
  obtain ⟨rfl, rfl, rfl⟩ := e
  exact ⟨_, _, _, l, rfl, r⟩
end

theorem infoInt : (Tryz.prog.info? 3).map (fun i => (i.zero, i.size, i.bytes)) = some (some (.int .i64 0), 1, 8) := by kernel_rfl
def intTo (l : List Int) (k : Nat) : List Value := intCells (l.take k)
theorem intTo_step {l : List Int} {k : Nat} {x : Int} (h : l[k]? = some x) : intTo l (k + 1) = intTo l k ++ [.int .i64 x] := by
  unfold intTo intCells; rw [List.take_add_one, h]; simp
set_option maxHeartbeats 400000 in
theorem toIntS_any (A : Option Addr) (n c : Nat) (l : List Int) (w : World) (hn : n ≤ 1048576) (hl : Hid (l.length = n)) (hr : Rd w 1 A n (intCells l)) :
    Calls Tryz.prog 52 #[.slice A n c] w fun e w' => ∃ g, e = .returned (.slice (some ⟨g, 0, none⟩) n n) ∧ Own w' g 3 n (intCells l) ∧ w.heap.size ≤ g ∧ Below w.heap.size w w' := by
  obtain ⟨i0, hi, hz0, hz1, hz2⟩ := info_parts infoInt
  have hmk := fun W => run_make_rowN (P := Tryz.prog) 38 3 i0 _ Tryz.underlying38 hi hz0 .i64 .i64 n n (Nat.le_refl _) (by rw [hz2]; omega) (by omega) W
  have HR := Lib.hid hr
  rw [hz1] at hmk
  clear hi hz0 hz1 hz2 hr
  go_enter Tryz.func52, Tryz.ntmps52
  go_wp2
  clear hmk
  go_loopw [4] (fun i wr => ∃ k : Nat, k ≤ n ∧ i = .int .i64 k ∧ Own wr w.heap.size 3 n (intTo l k) ∧ Below w.heap.size w wr) (fun i _ => n - (intOf i).toNat)
  case atStart => exact ⟨0, Nat.zero_le _, rfl, by unfold intTo; simpa [intCells] using (Own.made (by rw [size_madeCells])), (by repeat' (first | (with_reducible exact Below.refl _ _) | (with_reducible assumption) | (with_reducible refine below_drewN ?_ _) | (with_reducible refine Below.drew ?_) | (with_reducible refine Below.alloc ?_ ?_ _) | (with_reducible refine Below.setCell ?_ ?_ _) | go_size))⟩
  case round =>
    obtain ⟨k, hk, rfl, how, hb⟩ := hrel
    by_cases hkn : k < n
    · obtain ⟨x, hd⟩ : ∃ d, l[k]? = some d := ⟨_, List.getElem?_eq_getElem (by have := hl.out; omega)⟩
      obtain ⟨b, off, rfl, hblt, c0⟩ := int_at (HR.out.below hb) hkn hd
      have HD := Lib.hid hd
      have hzz := hb.size
      have hgg := how.lt
      obtain ⟨o0, e0⟩ := how.there (i := k) (by omega)
      have hfz := how.frozen
      clear hd
      go_wp2
      go_roundw
      case rel =>
        have hlen : (intTo l k).length = k := by
          unfold intTo intCells
          rw [List.length_map, List.length_take, Nat.min_eq_left (by have := hl.out; omega)]
        exact ⟨k + 1, by omega, by go_num, by rw [intTo_step HD.out]; exact how.push (by omega) hlen.symm _, (by repeat' (first | (with_reducible exact Below.refl _ _) | (with_reducible assumption) | (with_reducible refine below_drewN ?_ _) | (with_reducible refine Below.drew ?_) | (with_reducible refine Below.alloc ?_ ?_ _) | (with_reducible refine Below.setCell ?_ ?_ _) | go_size))⟩
      case measure => simp [intOf]; omega
    · obtain rfl : k = n := by omega
      have hfin : intTo l k = intCells l := by unfold intTo; rw [List.take_of_length_le (by have := hl.out; omega)]
      rw [hfin] at how
      go_wp2
      go_ret
      exact ⟨_, rfl, how, Nat.le_refl _, hb⟩
set_option maxHeartbeats 400000 in
theorem eqIntS_same (A B : Option Addr) (n c c' : Nat) (l : List Int) (w : World) (hn : n ≤ 4194304) (hl : Hid (l.length = n)) (ha : Rd w 1 A n (intCells l)) (hb : Rd w 1 B n (intCells l)) :
    Calls Tryz.prog 55 #[.slice A n c, .slice B n c'] w fun e w' => e = .returned (.bool true) ∧ Below w.heap.size w w' := by
  have HA := Lib.hid ha
  have HB := Lib.hid hb
  clear ha hb
  go_enter Tryz.func55, Tryz.ntmps55
  go_wp2
  go_loopw [5] (fun i wr => ∃ k : Nat, k ≤ n ∧ i = .int .i64 k ∧ Below w.heap.size w wr) (fun i _ => n - (intOf i).toNat)
  case atStart => exact ⟨0, Nat.zero_le _, rfl, Below.refl _ _⟩
  case round =>
    obtain ⟨k, hk, rfl, hbb⟩ := hrel
    by_cases hkn : k < n
    · obtain ⟨x, hd⟩ : ∃ d, l[k]? = some d := ⟨_, List.getElem?_eq_getElem (by have := hl.out; omega)⟩
      obtain ⟨b, off, rfl, hblt, c0⟩ := int_at (HA.out.below hbb) hkn hd
      obtain ⟨b', off', rfl, hblt', c1⟩ := int_at (HB.out.below hbb) hkn hd
      clear hd
      go_wp2
      go_quiet (fail)
      go_wp2
      go_roundw
      case rel => exact ⟨k + 1, by omega, by go_num, (by repeat' (first | (with_reducible exact Below.refl _ _) | (with_reducible assumption) | (with_reducible refine below_drewN ?_ _) | (with_reducible refine Below.drew ?_) | (with_reducible refine Below.alloc ?_ ?_ _) | (with_reducible refine Below.setCell ?_ ?_ _) | go_size))⟩
      case measure => simp [intOf]; omega
    · obtain rfl : k = n := by omega
      go_wp2
      go_ret
      exact ⟨rfl, hbb⟩
end Go.Proofs.YtpfanhheodiamaaGreatDoor

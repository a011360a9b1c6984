
/-
  Contracts: values as a text (spec.ShowValues, impl.ShowValues), and the law.
-/
import Derived.Test.YtfapdhfjcnehhaaDoorInts
import Derived.Test.YtfapdhfjcnehhaaDoorDec
import Derived.Test.YtfapdhfjcnehhaaDoorBuilder
namespace Go.Proofs.YtfapdhfjcnehhaaDoor
open Go.RowKit
set_option linter.unusedVariables false

def numT (x : Int) : ByteArray := if x < 0 then ⟨#[45]⟩ else decT x
theorem numT_neg {x : Int} (h : x < 0) : numT x = ⟨#[45]⟩ := by unfold numT; rw [if_pos h]
theorem numT_pos {x : Int} (h : ¬ x < 0) : numT x = decT x := by unfold numT; rw [if_neg h]
theorem numT_size {x : Int} (h : IntB x) : (numT x).size ≤ 21 := by
  unfold numT
  split
  · decide
  · exact decT_size x h.1 h.2
def valsTo (l : List Int) (k : Nat) : List UInt8 := (l.take k).flatMap (fun x => (numT x).data.toList)
theorem valsTo_zero (l : List Int) : valsTo l 0 = [] := by simp [valsTo]
theorem valsTo_step {l : List Int} {k : Nat} {x : Int} (h : l[k]? = some x) : valsTo l (k + 1) = valsTo l k ++ (numT x).data.toList := by
  unfold valsTo; rw [List.take_add_one, h]; simp
theorem valsTo_len {l : List Int} (h : ∀ x ∈ l, IntB x) (k : Nat) : (valsTo l k).length ≤ 21 * k := by
  induction k with
  | zero => simp [valsTo]
  | succ k ih =>
    cases hd : l[k]? with
    | none =>
      have : valsTo l (k + 1) = valsTo l k := by unfold valsTo; rw [List.take_add_one, hd]; simp
      rw [this]; omega
    | some x =>
      rw [valsTo_step hd, List.length_append, ba_len]
      have := numT_size (h x (List.mem_of_getElem? hd))
      omega
def valsT (l : List Int) : ByteArray := ⟨(valsTo l l.length).toArray⟩
set_option maxHeartbeats 400000 in
theorem l32Num_any (x : Int) (w : World) (h : x ≤ 9223372036854775807) : Calls Tryd.prog 49 #[.int .i64 x] w fun e w' => e = .returned (.string (numT x)) ∧ Below w.heap.size w w' := by
  by_cases hx : x < 0
  · rw [numT_neg hx]
    go_enter Tryd.func49, Tryd.ntmps49
    go_wp2
    go_ret
    exact ⟨rfl, (by repeat' (first | (with_reducible exact Below.refl _ _) | (with_reducible assumption) | (with_reducible refine below_drewN ?_ _) | (with_reducible refine Below.drew ?_) | (with_reducible refine Below.alloc ?_ ?_ _) | (with_reducible refine Below.setCell ?_ ?_ _) | go_size))⟩
  · rw [numT_pos hx]
    go_enter Tryd.func49, Tryd.ntmps49
    go_wp2_with fail
    refine (specDecimal_any x _ (by omega) h).mono ?_
    rintro e w2 ⟨rfl, h2⟩
    go_wp2
    go_ret
    exact ⟨rfl, h2⟩
set_option maxHeartbeats 800000 in
theorem specShowValues_any (A : Option Addr) (n c : Nat) (l : List Int) (w : World) (hn : n ≤ 1048576) (hl : Hid (l.length = n)) (hr : Rd w 1 A n (intCells l)) (hs : Hid (∀ x ∈ l, IntB x)) :
    Calls Tryd.prog 17 #[.slice A n c] w fun e w' => e = .returned (.string (valsT l)) ∧ Below w.heap.size w w' := by
  have HR := Lib.hid hr
  clear hr
  go_enter Tryd.func17, Tryd.ntmps17
  go_wp2
  go_loopw [3, 4] (fun s i wr => ∃ (k : Nat) (out : ByteArray), k ≤ n ∧ i = .int .i64 k ∧ s = .string out ∧ Hid (out.data.toList = valsTo l k) ∧ Below w.heap.size w wr) (fun _ i _ => n - (intOf i).toNat)
  case atStart => exact ⟨0, ⟨#[]⟩, Nat.zero_le _, rfl, rfl, (show _ = _ by rw [valsTo_zero]), Below.refl _ _⟩
  case round =>
    obtain ⟨k, out, hk, rfl, rfl, HO, hb⟩ := hrel
    by_cases hkn : k < n
    · obtain ⟨x, hd⟩ : ∃ d, l[k]? = some d := ⟨_, List.getElem?_eq_getElem (by have := hl.out; omega)⟩
      obtain ⟨b, off, rfl, hblt, c0⟩ := int_at (HR.out.below hb) hkn hd
      have hx := hs.out x (List.mem_of_getElem? hd)
      have hst := Lib.hid (valsTo_step hd)
      have hsz := numT_size hx
      have hlen := valsTo_len hs.out k
      have hzz : out.size ≤ 22020096 := by rw [← ba_len, HO.out]; omega
      have H9 := Lib.hid (fun W => l32Num_any x W hx.2)
      revert hst hsz H9
      generalize numT x = N
      intro hst hsz H9
      clear hd hlen hx
      go_wp2_with (go_at_call 49; refine (H9.out _).mono ?_; rintro e w2 ⟨rfl, h2⟩)
      go_roundw
      case rel => exact ⟨k + 1, _, by omega, by go_num, rfl, (show _ = _ by rw [hst.out, ba_app, HO.out]), below_next hb h2⟩
      case measure => simp [intOf]; omega
    · obtain rfl : k = n := by omega
      go_wp2
      go_ret
      exact ⟨ret_str (ba_ext (by rw [HO.out, valsT, hl.out])), hb⟩
set_option maxRecDepth 100000 in
set_option maxHeartbeats 800000 in
theorem implShowValues_any (A : Option Addr) (n c : Nat) (l : List Int) (w : World) (hn : n ≤ 1048576) (hl : Hid (l.length = n)) (hr : Rd w 1 A n (intCells l)) (hs : Hid (∀ x ∈ l, IntB x)) (hT : Tab w) :
    Calls Tryd.prog 19 #[.slice A n c] w fun e w' => e = .returned (.string (valsT l)) ∧ Below w.heap.size w w' := by
  have HR := Lib.hid hr
  have HT := Lib.hid hT
  have hB0 := Bld.fresh w (B := w.heap.size) (Nat.le_refl _)
  clear hr hT
  go_enter Tryd.func19, Tryd.ntmps19
  go_wp2
  go_loopw [8] (fun i wr => ∃ k : Nat, k ≤ n ∧ i = .int .i64 k ∧ Bld wr w.heap.size w.heap.size (valsTo l k) ∧ Below w.heap.size w wr) (fun i _ => n - (intOf i).toNat)
  case atStart => exact ⟨0, Nat.zero_le _, rfl, hB0, (by repeat' (first | (with_reducible exact Below.refl _ _) | (with_reducible assumption) | (with_reducible refine below_drewN ?_ _) | (with_reducible refine Below.drew ?_) | (with_reducible refine Below.alloc ?_ ?_ _) | (with_reducible refine Below.setCell ?_ ?_ _) | go_size))⟩
  case round =>
    clear hB0
    obtain ⟨k, hk, rfl, HB, hb⟩ := hrel
    by_cases hkn : k < n
    · obtain ⟨x, hd⟩ : ∃ d, l[k]? = some d := ⟨_, List.getElem?_eq_getElem (by have := hl.out; omega)⟩
      obtain ⟨b, off, rfl, hblt, c0⟩ := int_at (HR.out.below hb) hkn hd
      have hx := hs.out x (List.mem_of_getElem? hd)
      have hst := valsTo_step hd
      have hlen := valsTo_len hs.out k
      have hzz : (valsTo l k).length ≤ 22020096 := by omega
      have HBB := Lib.hid HB
      clear hd hlen HB
      by_cases hneg : x < 0
      · rw [numT_neg hneg] at hst
        replace hst := Lib.hid hst
        clear hx
        go_wp2_with (go_at_call 50; refine (bldByte _ _ _ 45 _ HBB.out (by omega) hb.size).mono ?_; rintro e w4 ⟨rfl, HB3, h3, hk3⟩)
        go_roundw
        case rel => exact ⟨k + 1, by omega, by go_num, (by rw [hst.out]; exact HB3), hb.trans h3⟩
        case measure => simp [intOf]; omega
      · rw [numT_pos hneg] at hst
        have hsz := decT_size x hx.1 hx.2
        have H9 := Lib.hid (fun W y => implDecimal_any x W hx.1 hx.2 y)
        revert hst hsz H9
        generalize decT x = N
        intro hst hsz H9
        replace hst := Lib.hid hst
        clear hx
        go_wp2_with fail
        refine (H9.out _ (Joins.tab_stays gPow HT.out hb (Nat.le_refl _))).mono ?_
        rintro e w3 ⟨rfl, h3⟩
        have HB2 := Lib.hid (HBB.out.next h3)
        have hb2 := below_next hb h3
        clear h3 HBB c0 hblt hb
        go_wp2_with fail
        refine (bldStr _ _ _ _ _ HB2.out (by omega) hb2.size).mono ?_
        rintro e w4 ⟨rfl, HB3, h3, hk3⟩
        go_wp2
        go_roundw
        case rel => exact ⟨k + 1, by omega, by go_num, (by rw [hst.out]; exact HB3), hb2.trans h3⟩
        case measure => simp [intOf]; omega
    · obtain rfl : k = n := by omega
      go_wp2_with fail
      refine (bldRead _ _ _ _ HB hb.size).mono ?_
      rintro e w2 ⟨rfl, h2⟩
      go_wp2
      go_ret
      exact ⟨ret_str (by rw [valsT, hl.out]), hb.trans h2⟩
set_option maxHeartbeats 800000 in
theorem lawShowValues (A : Option Addr) (n c : Nat) (l : List Int) (w : World) (hh : l.length = n ∧ n ≤ maxLen ∧ Rd w 1 A n (intCells l) ∧ ∀ x ∈ l, IntB x) (hT : Tab w) :
    Calls Tryd.prog 5 #[.slice A n c] w fun e w' => e = .returned (.bool true) ∧ Below w.heap.size w w' := by
  obtain ⟨hl, hn, hr, hs⟩ := hh
  have HL := Lib.hid hl
  have HS := Lib.hid hs
  have hb := Below.refl w.heap.size w
  unfold maxLen at hn
  clear hl hs
  by_cases h1 : 1048576 < n
  · clear hr
    go_enter Tryd.func5, Tryd.ntmps5
    go_wp2
    go_ret
    exact ⟨rfl, (by repeat' (first | (with_reducible exact Below.refl _ _) | (with_reducible assumption) | (with_reducible refine below_drewN ?_ _) | (with_reducible refine Below.drew ?_) | (with_reducible refine Below.alloc ?_ ?_ _) | (with_reducible refine Below.setCell ?_ ?_ _) | go_size))⟩
  · have g1 : n ≤ 1048576 := by omega
    clear h1 hn
    have rd_of : ∀ {W : World} {g : Nat}, Own W g 3 n (intCells l) → Rd W 1 (some ⟨g, 0, none⟩) n (intCells l) := fun h => Own.rd (size := 1) (n := n) h (by simp [intCells, HL.out])
    have RD := Lib.hid (fun (W : World) (g : Nat) (h : Own W g 3 n (intCells l)) => rd_of h)
    clear rd_of
    go_enter Tryd.func5, Tryd.ntmps5
    go_wp2_with fail
    refine (toIntS_any _ _ _ _ _ g1 HL hr).mono ?_
    rintro e w2 ⟨g1x, rfl, o1, hg1, h2⟩
    replace hr := by first | exact hr.next h2 | exact hr.next1 h2 | exact hr.next2 h2
    replace hT := by first | exact hT.next h2 | exact hT.next1 h2 | exact hT.next2 h2
    replace hb := by first | exact below_next hb h2 | exact below_next1 hb h2 | exact below_next2 hb h2
    clear h2
    go_wp2_with fail
    refine (specShowValues_any _ _ _ _ _ g1 HL (RD.out _ _ o1) HS).mono ?_
    rintro e w2 ⟨rfl, h2⟩
    replace hr := by first | exact hr.next h2 | exact hr.next1 h2 | exact hr.next2 h2
    replace hT := by first | exact hT.next h2 | exact hT.next1 h2 | exact hT.next2 h2
    replace hb := by first | exact below_next hb h2 | exact below_next1 hb h2 | exact below_next2 hb h2
    clear h2
    clear o1 hg1
    go_wp2_with fail
    refine (toIntS_any _ _ _ _ _ g1 HL hr).mono ?_
    rintro e w2 ⟨g1x, rfl, o1, hg1, h2⟩
    replace hr := by first | exact hr.next h2 | exact hr.next1 h2 | exact hr.next2 h2
    replace hT := by first | exact hT.next h2 | exact hT.next1 h2 | exact hT.next2 h2
    replace hb := by first | exact below_next hb h2 | exact below_next1 hb h2 | exact below_next2 hb h2
    clear h2
    go_wp2_with fail
    refine (implShowValues_any _ _ _ _ _ g1 HL (RD.out _ _ o1) HS hT).mono ?_
    rintro e w2 ⟨rfl, h2⟩
    replace hr := by first | exact hr.next h2 | exact hr.next1 h2 | exact hr.next2 h2
    replace o1 := by first | exact o1.next h2 | exact o1.next1 h2 | exact o1.next2 h2
    replace hb := by first | exact below_next hb h2 | exact below_next1 hb h2 | exact below_next2 hb h2
    clear h2
    go_wp2_with fail
    refine (toIntS_any _ _ _ _ _ g1 HL hr).mono ?_
    rintro e w2 ⟨g3x, rfl, o3, hg3, h2⟩
    replace o1 := by first | exact o1.next h2 | exact o1.next1 h2 | exact o1.next2 h2
    replace hb := by first | exact below_next hb h2 | exact below_next1 hb h2 | exact below_next2 hb h2
    clear h2
    go_wp2_with fail
    refine (eqIntS_same _ _ _ _ _ _ _ (by omega) HL (RD.out _ _ o1) (RD.out _ _ o3)).mono ?_
    rintro e w2 ⟨rfl, h2⟩
    replace hb := by first | exact below_next hb h2 | exact below_next1 hb h2 | exact below_next2 hb h2
    clear h2
    go_wp2
    go_ret
    exact ⟨rfl, (by repeat' (first | (with_reducible exact Below.refl _ _) | (with_reducible assumption) | (with_reducible refine below_drewN ?_ _) | (with_reducible refine Below.drew ?_) | (with_reducible refine Below.alloc ?_ ?_ _) | (with_reducible refine Below.setCell ?_ ?_ _) | go_size))⟩
end Go.Proofs.YtfapdhfjcnehhaaDoor

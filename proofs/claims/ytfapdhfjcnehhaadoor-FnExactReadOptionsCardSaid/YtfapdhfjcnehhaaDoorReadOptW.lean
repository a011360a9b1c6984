
/-
  Options read from a text: contracts of what is called.
-/
import Derived.Test.YtfapdhfjcnehhaaDoorReadOptP
import Derived.Test.YtfapdhfjcnehhaaDoorShelf
namespace Go.Proofs.YtfapdhfjcnehhaaDoor
open Go.RowKit
set_option linter.unusedVariables false

/-- What a cut at '=' has. -/
def CutE (t : ByteArray) (w : World) (e : Ending) (w' : World) : Prop :=
  e = .returned (.tuple #[.string (cutN t), .string (cutV t), .bool (cutH t)]) ∧ Below w.heap.size w w'
set_option maxHeartbeats 800000 in
theorem liteCutE_any (t : ByteArray) (w : World) (ht : t.size ≤ 4194304) : Calls Tryd.prog 100 #[.string t, .string ⟨#[61]⟩] w (CutE t w) := by
  have HX := Lib.hid (fun w => Tryd.stringslite_Index_one t 61 w)
  obtain ⟨q1, q2⟩ := cutL_ix t.data.toList
  rcases ix_cases 61 t.data.toList with e | ⟨k, e, hk⟩
  · have q := q1 e
    have e1 := Lib.hid (show cutN t = t by unfold cutN; rw [q])
    have e2 := Lib.hid (show cutV t = ⟨#[]⟩ by unfold cutV; rw [q])
    have e3 := Lib.hid (show cutH t = false by unfold cutH; rw [q])
    rw [e] at HX
    clear e q q1 q2
    go_enter Tryd.func100, Tryd.ntmps100
    go_wp2_with (go_at_call 118; refine (HX.out _).mono ?_; rintro e w1 ⟨rfl, rfl⟩)
    go_ret3
    exact ⟨by rw [e1.out, e2.out, e3.out]; rfl, (by repeat' (first | (with_reducible exact Below.refl _ _) | (with_reducible assumption) | (with_reducible refine below_drewN ?_ _) | (with_reducible refine Below.drew ?_) | (with_reducible refine Below.alloc ?_ ?_ _) | (with_reducible refine Below.setCell ?_ ?_ _) | go_size))⟩
  · have q := q2 k e
    rw [ba_len] at hk
    have e1 := Lib.hid (show cutN t = t.extract 0 k by unfold cutN; rw [q]; exact ba_ext (by rw [ext_list]; simp))
    have e2 := Lib.hid (show cutV t = t.extract (k + 1) t.size by unfold cutV; rw [q]; show (⟨(List.drop (k + 1) t.data.toList).toArray⟩ : ByteArray) = _; exact ba_ext (by rw [ext_list, List.take_of_length_le (show t.data.toList.length ≤ t.size by rw [ba_len]; exact Nat.le_refl _)]))
    have e3 := Lib.hid (show cutH t = true by unfold cutH; rw [q])
    rw [e] at HX
    clear e q q1 q2
    have w1 : IntKind.i64.wrap ((k : Int) + 1) = k + 1 := IntWalk.i64_in _ (by omega)
    have i1 : (0 : Int) ≤ k := by omega
    have i2 : (k : Int) ≤ t.size := by omega
    have i3 : (0 : Int) ≤ (k : Int) + 1 := by omega
    have i4 : (k : Int) + 1 ≤ t.size := by omega
    have i5 : ((k : Int) + 1).toNat = k + 1 := by omega
    go_enter Tryd.func100, Tryd.ntmps100
    go_wp2_with (go_at_call 118; refine (HX.out _).mono ?_; rintro e w1 ⟨rfl, rfl⟩)
    go_quiet (fail)
    go_wp2
    go_ret3
    exact ⟨by rw [e1.out, e2.out, e3.out]; rfl, (by repeat' (first | (with_reducible exact Below.refl _ _) | (with_reducible assumption) | (with_reducible refine below_drewN ?_ _) | (with_reducible refine Below.drew ?_) | (with_reducible refine Below.alloc ?_ ?_ _) | (with_reducible refine Below.setCell ?_ ?_ _) | go_size))⟩
set_option maxHeartbeats 800000 in
theorem cutE_any (t : ByteArray) (w : World) (ht : t.size ≤ 4194304) : Calls Tryd.prog 68 #[.string t, .string ⟨#[61]⟩] w (CutE t w) := by
  go_enter Tryd.func68, Tryd.ntmps68
  go_wp2_with fail
  refine (liteCutE_any t _ ht).mono ?_
  rintro e w2 ⟨rfl, h2⟩
  go_wp2
  go_ret3
  exact ⟨rfl, h2⟩
theorem contains_mine {w : World} {B : Nat} {A : Option Addr} {n c : Nat} {l : List ByteArray} (x : ByteArray) (h : Mine w B 9 1 A n c (strCells l)) : Calls Tryd.prog 69 #[.slice A n c, .string x] w fun e w' => e = .returned (.bool (Lib.containsS l x)) ∧ w' = w := by
  have hl : l.length = n := by have := h.len; unfold strCells at this; rw [List.length_map] at this; omega
  rcases h.own with ⟨rfl, rfl, rfl⟩ | ⟨g, rfl, hB, hn, hc, ho⟩
  · obtain rfl : l = [] := List.eq_nil_of_length_eq_zero hl
    exact (Tryd.slices_Contains_string_empty none 0 x w)
  · have h2 := h.rd
    have h3 := Tryd.slices_Contains_string g 0 n c l x w (by omega) (by unfold maxLen at hc; omega) (fun j hj => by
      obtain ⟨b', off, e, hb, hcell⟩ := h2.2 (by omega)
      injection e with e; injection e with e1 e2; subst e1; subst e2
      have := hcell j (.string (l.getD j ByteArray.empty)) (by unfold strCells; rw [List.getElem?_map, List.getElem?_eq_getElem hj]; simp [List.getD, List.getElem?_eq_getElem hj])
      simpa using this)
    rw [List.take_of_length_le (by omega)] at h3
    exact h3

theorem lit_ne {n : ByteArray} {l : List UInt8} (h : n ≠ ⟨l.toArray⟩) : (n.toList == l) = false := by
  rw [beq_eq_false_iff_ne]; intro e; exact h (ba_ext (by rw [← ByteArray.toList_eq, e]))
theorem lit_eq {n : ByteArray} {l : List UInt8} (h : n = ⟨l.toArray⟩) : (n.toList == l) = true := by
  rw [h, ByteArray.toList_eq, beq_iff_eq]
/-- The options' block turned by one part. -/
def SetP (n v : ByteArray) (h : Bool) (g : Nat) (o : OptD) (w : World) (e : Ending) (w' : World) : Prop :=
  e = .returned (.bool (setOk n v h)) ∧ Blk w' g 32 (optCells (setO n v o)) ∧ w.grownBy w' (some g)
theorem blk_turn {w : World} {g i : Nat} {t : TypeId} {cs cs' : Array Value} {u : Value} (h : Blk w g t cs) (he : cs.setIfInBounds i u = cs') : Blk (w.setCell ⟨g, i, none⟩ u) g t cs' := by
  rw [← he]; exact h.set_ i u
theorem below_grown {w w' : World} {g : Nat} (h : Below w.heap.size w w') : w.grownBy w' (some g) := ⟨h.os, h.tape, h.output, h.size, fun i hi _ => h.block i hi⟩
set_option maxHeartbeats 1600000 in
set_option maxRecDepth 100000 in
theorem set_any (n v : ByteArray) (h : Bool) (g : Nat) (o : OptD) (w : World) (hv : v.size ≤ 4194304) (K : Blk w g 32 (optCells o)) (hT : Tab w) :
    Calls Tryd.prog 70 #[.pointer (some ⟨g, 0, none⟩), .string n, .string v, .bool h] w (SetP n v h g o w) := by
  obtain ⟨a, b, c, d, f⟩ := o
  have HT := Lib.hid hT
  have HR := Lib.hid (fun W x => implReadDecimal_any v W hv x)
  have c0 : w.cell? ⟨g, 0, none⟩ = some (.int .i64 a) := K.cell 0
  have c1 : w.cell? ⟨g, 1, none⟩ = some (.int .i64 b) := K.cell 1
  have c2 : w.cell? ⟨g, 2, none⟩ = some (.bool c) := K.cell 2
  have c3 : w.cell? ⟨g, 3, none⟩ = some (.bool d) := K.cell 3
  have c4 : w.cell? ⟨g, 4, none⟩ = some (.bool f) := K.cell 4
  have fz := K.frozen
  have zK := K.lt
  have HK := Lib.hid K
  clear K hT
  by_cases e0 : n = wdN
  · have HS := Lib.hid (show setOk n v h = ((readDec v).2) by unfold setOk; rw [if_pos e0])
    have HO := Lib.hid (show setO n v (a, b, c, d, f) = ((readDec v).1, b, c, d, f) by unfold setO; rw [if_pos e0])
    have q0 : (n.toList == [119, 105, 100, 116, 104]) = true := lit_eq e0
    clear e0
    clear c0 c1 c2 c3 c4 fz
    go_enter Tryd.func70, Tryd.ntmps70
    go_wp2_with fail
    refine (HR.out _ HT.out).mono ?_
    rintro e w1 ⟨rfl, h1⟩
    have K1 := HK.out.next h1
    have c0 : w1.cell? ⟨g, 0, none⟩ = some (.int .i64 a) := K1.cell 0
    have fz := K1.frozen
    have zK1 := K1.lt
    have HK1 := Lib.hid K1
    clear K1
    go_wp2
    go_ret
    refine ⟨(by rw [HS.out]; rfl), ?_, grownBy_trans (below_grown h1) (grownBy_set _ _ _ _)⟩
    rw [HO.out]
    exact blk_turn HK1.out rfl
  by_cases e1 : n = bgN
  · have HS := Lib.hid (show setOk n v h = ((readDec v).2) by unfold setOk; rw [if_neg e0, if_pos e1])
    have HO := Lib.hid (show setO n v (a, b, c, d, f) = (a, (readDec v).1, c, d, f) by unfold setO; rw [if_neg e0, if_pos e1])
    have q0 : (n.toList == [119, 105, 100, 116, 104]) = false := lit_ne e0
    have q1 : (n.toList == [98, 117, 100, 103, 101, 116]) = true := lit_eq e1
    clear e0 e1
    clear c0 c1 c2 c3 c4 fz
    go_enter Tryd.func70, Tryd.ntmps70
    go_wp2_with fail
    refine (HR.out _ HT.out).mono ?_
    rintro e w1 ⟨rfl, h1⟩
    have K1 := HK.out.next h1
    have c1 : w1.cell? ⟨g, 1, none⟩ = some (.int .i64 b) := K1.cell 1
    have fz := K1.frozen
    have zK1 := K1.lt
    have HK1 := Lib.hid K1
    clear K1
    go_wp2
    go_ret
    refine ⟨(by rw [HS.out]; rfl), ?_, grownBy_trans (below_grown h1) (grownBy_set _ _ _ _)⟩
    rw [HO.out]
    exact blk_turn HK1.out rfl
  by_cases e2 : n = spN
  · have HS := Lib.hid (show setOk n v h = (!h) by unfold setOk; rw [if_neg e0, if_neg e1, if_pos e2])
    have HO := Lib.hid (show setO n v (a, b, c, d, f) = (a, b, true, d, f) by unfold setO; rw [if_neg e0, if_neg e1, if_pos e2]; rfl)
    have q0 : (n.toList == [119, 105, 100, 116, 104]) = false := lit_ne e0
    have q1 : (n.toList == [98, 117, 100, 103, 101, 116]) = false := lit_ne e1
    have q2 : (n.toList == [115, 112, 97, 114, 101]) = true := lit_eq e2
    clear e0 e1 e2
    go_enter Tryd.func70, Tryd.ntmps70
    go_wp2
    go_ret
    refine ⟨(by rw [HS.out]; rfl), ?_, grownBy_set _ _ _ _⟩
    rw [HO.out]
    exact blk_turn HK.out rfl
  by_cases e3 : n = foN
  · have HS := Lib.hid (show setOk n v h = (!h) by unfold setOk; rw [if_neg e0, if_neg e1, if_neg e2, if_pos e3])
    have HO := Lib.hid (show setO n v (a, b, c, d, f) = (a, b, c, true, f) by unfold setO; rw [if_neg e0, if_neg e1, if_neg e2, if_pos e3]; rfl)
    have q0 : (n.toList == [119, 105, 100, 116, 104]) = false := lit_ne e0
    have q1 : (n.toList == [98, 117, 100, 103, 101, 116]) = false := lit_ne e1
    have q2 : (n.toList == [115, 112, 97, 114, 101]) = false := lit_ne e2
    have q3 : (n.toList == [102, 111, 108, 100]) = true := lit_eq e3
    clear e0 e1 e2 e3
    go_enter Tryd.func70, Tryd.ntmps70
    go_wp2
    go_ret
    refine ⟨(by rw [HS.out]; rfl), ?_, grownBy_set _ _ _ _⟩
    rw [HO.out]
    exact blk_turn HK.out rfl
  by_cases e4 : n = orN
  · have HS := Lib.hid (show setOk n v h = (!h) by unfold setOk; rw [if_neg e0, if_neg e1, if_neg e2, if_neg e3, if_pos e4])
    have HO := Lib.hid (show setO n v (a, b, c, d, f) = (a, b, c, d, true) by unfold setO; rw [if_neg e0, if_neg e1, if_neg e2, if_neg e3, if_pos e4]; rfl)
    have q0 : (n.toList == [119, 105, 100, 116, 104]) = false := lit_ne e0
    have q1 : (n.toList == [98, 117, 100, 103, 101, 116]) = false := lit_ne e1
    have q2 : (n.toList == [115, 112, 97, 114, 101]) = false := lit_ne e2
    have q3 : (n.toList == [102, 111, 108, 100]) = false := lit_ne e3
    have q4 : (n.toList == [111, 114, 100, 101, 114]) = true := lit_eq e4
    clear e0 e1 e2 e3 e4
    go_enter Tryd.func70, Tryd.ntmps70
    go_wp2
    go_ret
    refine ⟨(by rw [HS.out]; rfl), ?_, grownBy_set _ _ _ _⟩
    rw [HO.out]
    exact blk_turn HK.out rfl
  have q0 : (n.toList == [119, 105, 100, 116, 104]) = false := lit_ne e0
  have q1 : (n.toList == [98, 117, 100, 103, 101, 116]) = false := lit_ne e1
  have q2 : (n.toList == [115, 112, 97, 114, 101]) = false := lit_ne e2
  have q3 : (n.toList == [102, 111, 108, 100]) = false := lit_ne e3
  have q4 : (n.toList == [111, 114, 100, 101, 114]) = false := lit_ne e4
  have HS := Lib.hid (show setOk n v h = false by unfold setOk; rw [if_neg e0, if_neg e1, if_neg e2, if_neg e3, if_neg e4])
  have HO := Lib.hid (show setO n v (a, b, c, d, f) = (a, b, c, d, f) by unfold setO; rw [if_neg e0, if_neg e1, if_neg e2, if_neg e3, if_neg e4])
  clear e0 e1 e2 e3 e4
  go_enter Tryd.func70, Tryd.ntmps70
  go_wp2
  go_ret
  exact ⟨(by rw [HS.out]; rfl), (by rw [HO.out]; exact HK.out), World.grownBy.refl _ _⟩
end Go.Proofs.YtfapdhfjcnehhaaDoor

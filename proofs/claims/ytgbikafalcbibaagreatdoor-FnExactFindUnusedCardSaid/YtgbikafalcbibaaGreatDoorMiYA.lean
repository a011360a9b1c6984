/-
  Put together by program (shake.py): FiE, FiF.
-/
import Derived.Test.YtgbikafalcbibaaGreatDoorMiX
set_option maxRecDepth 100000
set_option maxHeartbeats 25600000
set_option linter.unusedVariables false
set_option linter.unusedSimpArgs false
open Go.Lib (hid)
open Go.Proofs.Tryz
namespace Go.Proofs.YtgbikafalcbibaaGreatDoor
open Go.RowKit
theorem markB_len : ∀ (l : List Int) (B : List Bool), (markB_ B l).length = B.length := by
 intro l
 induction l with
 | nil => intro B; rfl
 | cons v l ih => intro B; show (markB_ (B.set v.toNat true) l).length = _; rw [ih, List.length_set]
theorem markB_snoc {B : List Bool} {ks : List Int} {i : Nat} {v : Int} (hv : ks[i]? = some v) : markB_ B (ks.take (i + 1)) = (markB_ B (ks.take i)).set v.toNat true := by
 unfold markB_
 rw [List.take_add_one, hv, Option.toList_some, List.foldl_append]
 rfl
def bindK (p : PN) : Bool := (p.kind == 9) || (p.kind == 20)
def parStep (ps : List PN) (B : List Bool) (v : Int) : List Bool := match ps[v.toNat]? with | none => B | some p => if bindK p = true then markB_ B (p.kids.take (p.kids.length - 1)) else B
def parP (ps : List PN) (l : List Int) : List Bool := l.foldl (parStep ps) (List.replicate ps.length false)
theorem parP_len (ps : List PN) (l : List Int) : (parP ps l).length = ps.length := by
 have key : ∀ (l : List Int) (B : List Bool), (l.foldl (parStep ps) B).length = B.length := by
  intro l
  induction l with
  | nil => intro B; rfl
  | cons v l ih =>
   intro B
   rw [List.foldl_cons, ih]
   unfold parStep
   split
   ·rfl
   ·split
    ·exact markB_len _ _
    ·rfl
 unfold parP
 rw [key, List.length_replicate]
def BoolsM (w : World) (B : List Bool) (e : Ending) (w' : World) : Prop :=
 e = .returned (.slice (some ⟨w.heap.size, 0, none⟩) B.length B.length) ∧ Own w' w.heap.size 4 B.length (boolCells B) ∧ Below w.heap.size w w'
theorem specParams_any (A : Option Addr) (n c : Nat) (ps : List PN) (AL : Option Addr) (nl cl : Nat) (l : List Int) (w : World) (hps : Nps w A n ps) (hg : Good ps) (hn : n ≤ 1048576) (hr : Rd w 1 AL nl (intCells l)) (hll : Hid (l.length = nl)) (hnl : nl ≤ 1048576) (hlv : Hid (∀ v ∈ l, ∃ q : Nat, v = (q : Int) ∧ q < n)) :
  Calls prog 58 #[.slice A n c, .slice AL nl cl] w (BoolsM w (parP ps l)) := by
 obtain ⟨j0, hj, hy0, hy1, hy2⟩ := info_parts infoBool
 have hmk := fun W => run_make_rowN (P := prog) 81 4 j0 _ underlying81 hj hy0 .i64 .i64 n n (Nat.le_refl _) (by rw [hy2]; omega) (by omega) W
 rw [hy1, Nat.mul_one] at hmk
 simp only [Value.cells] at hmk
 have hpl := parP_len ps l
 rw [hps.len] at hpl
 have hln := hps.len
 obtain ⟨F, hF⟩ : ∃ F, (fun i => (l.take i).foldl (parStep ps) (List.replicate n false)) = F := ⟨_, rfl⟩
 have HE := hid (show parP ps l = F nl by rw [← hF]; dsimp only; rw [← hll.out, List.take_length]; unfold parP; rw [hln])
 have HF0 := hid (show F 0 = List.replicate n false by rw [← hF]; rfl)
 have HFS := hid (show ∀ (i : Nat) (v : Int), l[i]? = some v → F (i + 1) = parStep ps (F i) v from fun i v hv => by
  rw [← hF]
  dsimp only
  rw [List.take_add_one, hv, Option.toList_some, List.foldl_append]
  rfl)
 have HFL := hid (show ∀ i, (F i).length = n from fun i => by
  rw [← hF]
  have key : ∀ (l : List Int) (B : List Bool), (l.foldl (parStep ps) B).length = B.length := by
   intro l
   induction l with
   | nil => intro B; rfl
   | cons v l ih =>
    intro B
    rw [List.foldl_cons, ih]
    unfold parStep
    split
    ·rfl
    ·split
     ·exact markB_len _ _
     ·rfl
  dsimp only
  rw [key, List.length_replicate])
 unfold BoolsM
 rw [HE.out] at hpl
 rw [HE.out, hpl]
 have HZ := hid (Own.falses (w := w) (e := 4) n)
 have HPS := hid hps
 have HG := hid hg
 have HR := hid hr
 clear hj hy0 hy1 hy2 hps hg hr hpl hln hF HE
 go_enter func58, ntmps58
 go_wp2
 clear hmk
 go_loopw [6] (fun x wr => ∃ i : Nat, i ≤ nl ∧ x = .int .i64 i ∧ Hid (Own wr w.heap.size 4 n (boolCells (F i))) ∧ Below w.heap.size w wr) (fun x _ => nl - (intOf x).toNat)
 case atStart => exact ⟨0, Nat.zero_le _, rfl, by rw [HF0.out]; exact HZ, grow_⟩
 case round =>
  clear HZ
  obtain ⟨i, hi, rfl, HO, hb⟩ := hrel
  by_cases hin : i < nl
  ·obtain ⟨v, hv⟩ : ∃ v, l[i]? = some v := ⟨_, gE (by have := hll.out; omega)⟩
   obtain ⟨q, rfl, hq⟩ := hlv.out v (List.mem_of_getElem? hv)
   have HSi := hid (HFS.out i _ hv)
   obtain ⟨b7, off7, rfl, hblt7, c7⟩ := int_at (HR.out.below hb) hin hv
   obtain ⟨p, hp⟩ := HPS.out.get hq
   obtain ⟨hk12, hkv⟩ := HG.out q p hp
   have hBl := HFL.out i
   obtain ⟨B, hB⟩ : ∃ B, F i = B := ⟨_, rfl⟩
   rw [hB] at HO HSi hBl
   have HSp : Hid (F (i + 1) = if bindK p = true then markB_ B (p.kids.take (p.kids.length - 1)) else B) := (show F (i + 1) = if bindK p = true then markB_ B (p.kids.take (p.kids.length - 1)) else B by
    rw [HSi.out]; unfold parStep; rw [Int.toNat_natCast, hp])
   obtain ⟨b, off, A', c', rfl, hblt0, y0, y1, y2, y3, _, hkr⟩ := HPS.out.atc hq hp
   have x0 := ((bcell hb).1 _ _ hblt0).trans y0
   have x1 := ((bcell hb).1 _ _ hblt0).trans y1
   have x2 := ((bcell hb).1 _ _ hblt0).trans y2
   have x3 := ((bcell hb).1 _ _ hblt0).trans y3
   have hblt : b < wr.heap.size := by have := hb.size; omega
   have hi1 : (i : Int) < (nl : Int) := by omega
   have hq1 : (q : Int) < (n : Int) := by omega
   have HKR := hid hkr
   have HKV := hid hkv
   have hz := HO.out.lt
   have HOx := hid (HO.out.alloc (.cells #[.int .i64 p.kind, .string p.text, .slice A' p.kids.length c', .bool p.blank] 36))
   have HKx := hid (Blk.new wr 36 #[.int .i64 p.kind, .string p.text, .slice A' p.kids.length c', .bool p.blank])
   have HBx := hid (hb.alloc hb.size (.cells #[.int .i64 p.kind, .string p.text, .slice A' p.kids.length c', .bool p.blank] 36))
   have gxw : w.heap.size ≠ wr.heap.size := by omega
   clear hv hp y0 y1 y2 y3 hkr hkv HSi hB HO
   go_upto_region 6 with fail
   clear x0 x1 x2 x3 hblt c7 hblt7
   generalize wr.alloc (.cells #[.int .i64 p.kind, .string p.text, .slice A' p.kids.length c', .bool p.blank] 36) = W1 at HOx HKx HBx ⊢
   generalize wr.heap.size = gx at HKx gxw hz ⊢
   rcases bft (p.kind == 9) with g1 | g1
   ·have hB1 : bindK p = true := by unfold bindK; rw [g1]; rfl
    rw [if_pos hB1] at HSp
    have HG0 := hid (show markB_ B (p.kids.take 0) = B by rw [List.take_zero]; rfl)
    clear hB1
    go_wp2
    go_loopw [8] (fun y wx => ∃ j : Nat, j ≤ p.kids.length - 1 ∧ y = .int .i64 j ∧ Hid (Own wx w.heap.size 4 n (boolCells (markB_ B (p.kids.take j)))) ∧ Hid (Blk wx gx 36 #[.int .i64 p.kind, .string p.text, .slice A' p.kids.length c', .bool p.blank]) ∧ Below w.heap.size w wx) (fun y _ => p.kids.length - (intOf y).toNat)
    case atStart => exact ⟨0, Nat.zero_le _, rfl, by rw [HG0.out]; exact HOx, HKx, HBx.out⟩
    case round =>
     clear HOx HKx HBx
     obtain ⟨j, hj, rfl, HO2, HK2, hb2⟩ := hrel
     have k0 := HK2.out.q0
     have k2 := HK2.out.q2
     have kz := HK2.out.lt
     by_cases hjm : j < p.kids.length - 1
     ·have hj1 : (j : Int) + 1 < (p.kids.length : Int) := by omega
      obtain ⟨v, hv⟩ : ∃ v, p.kids[j]? = some v := ⟨_, gE (by omega)⟩
      have hvb := HKV.out v (List.mem_of_getElem? hv)
      obtain ⟨y, rfl⟩ := Int.eq_ofNat_of_zero_le hvb.1
      obtain ⟨b9, off9, rfl, hblt9, c9⟩ := int_at (HKR.out.below hb2) (show j < p.kids.length by omega) hv
      have hjm' : (j : Int) < (p.kids.length : Int) := by omega
      have hy1 : (y : Int) < (n : Int) := by omega
      have HGj := hid (markB_snoc (B := B) hv)
      rw [Int.toNat_natCast] at HGj
      have HO3 := hid (bools_put (x := true) HO2.out (show y < (markB_ B (p.kids.take j)).length by rw [markB_len, hBl]; omega))
      rw [← HGj.out] at HO3
      obtain ⟨u0, hu0⟩ := HO2.out.there (show y < n by omega)
      have huf := HO2.out.frozen
      have huz := HO2.out.lt
      have HK3 := hid (HK2.out.far (p := ⟨w.heap.size, y, none⟩) (Ne.symm gxw) (.bool true))
      have hb3 := hid (hb2.setCell (show w.heap.size ≤ (⟨w.heap.size, y, none⟩ : Addr).block from Nat.le_refl _) (.bool true))
      clear hv hvb
      go_wp2
      go_roundw
      case rel => exact ⟨j + 1, by omega, by go_num, HO3, HK3, hb3.out⟩
      case measure => simp [intOf]; omega
     ·obtain rfl : j = p.kids.length - 1 := by omega
      have hj1 : ¬ ((p.kids.length - 1 : Nat) : Int) + 1 < (p.kids.length : Int) := by omega
      rw [← HSp.out] at HO2
      go_wp2
      exact ⟨⟨i + 1, by omega, by go_num, HO2, hb2⟩, by simp [intOf]; omega⟩
   ·rcases bft (p.kind == 20) with g2 | g2
    ·have hB1 : bindK p = true := by unfold bindK; rw [g2, Bool.or_true]
     rw [if_pos hB1] at HSp
     have HG0 := hid (show markB_ B (p.kids.take 0) = B by rw [List.take_zero]; rfl)
     clear hB1
     go_wp2
     go_loopw [8] (fun y wx => ∃ j : Nat, j ≤ p.kids.length - 1 ∧ y = .int .i64 j ∧ Hid (Own wx w.heap.size 4 n (boolCells (markB_ B (p.kids.take j)))) ∧ Hid (Blk wx gx 36 #[.int .i64 p.kind, .string p.text, .slice A' p.kids.length c', .bool p.blank]) ∧ Below w.heap.size w wx) (fun y _ => p.kids.length - (intOf y).toNat)
     case atStart => exact ⟨0, Nat.zero_le _, rfl, by rw [HG0.out]; exact HOx, HKx, HBx.out⟩
     case round =>
      clear HOx HKx HBx
      obtain ⟨j, hj, rfl, HO2, HK2, hb2⟩ := hrel
      have k0 := HK2.out.q0
      have k2 := HK2.out.q2
      have kz := HK2.out.lt
      by_cases hjm : j < p.kids.length - 1
      ·have hj1 : (j : Int) + 1 < (p.kids.length : Int) := by omega
       obtain ⟨v, hv⟩ : ∃ v, p.kids[j]? = some v := ⟨_, gE (by omega)⟩
       have hvb := HKV.out v (List.mem_of_getElem? hv)
       obtain ⟨y, rfl⟩ := Int.eq_ofNat_of_zero_le hvb.1
       obtain ⟨b9, off9, rfl, hblt9, c9⟩ := int_at (HKR.out.below hb2) (show j < p.kids.length by omega) hv
       have hjm' : (j : Int) < (p.kids.length : Int) := by omega
       have hy1 : (y : Int) < (n : Int) := by omega
       have HGj := hid (markB_snoc (B := B) hv)
       rw [Int.toNat_natCast] at HGj
       have HO3 := hid (bools_put (x := true) HO2.out (show y < (markB_ B (p.kids.take j)).length by rw [markB_len, hBl]; omega))
       rw [← HGj.out] at HO3
       obtain ⟨u0, hu0⟩ := HO2.out.there (show y < n by omega)
       have huf := HO2.out.frozen
       have huz := HO2.out.lt
       have HK3 := hid (HK2.out.far (p := ⟨w.heap.size, y, none⟩) (Ne.symm gxw) (.bool true))
       have hb3 := hid (hb2.setCell (show w.heap.size ≤ (⟨w.heap.size, y, none⟩ : Addr).block from Nat.le_refl _) (.bool true))
       clear hv hvb
       go_wp2
       go_roundw
       case rel => exact ⟨j + 1, by omega, by go_num, HO3, HK3, hb3.out⟩
       case measure => simp [intOf]; omega
      ·obtain rfl : j = p.kids.length - 1 := by omega
       have hj1 : ¬ ((p.kids.length - 1 : Nat) : Int) + 1 < (p.kids.length : Int) := by omega
       rw [← HSp.out] at HO2
       go_wp2
       exact ⟨⟨i + 1, by omega, by go_num, HO2, hb2⟩, by simp [intOf]; omega⟩
    ·have hB1 : bindK p = false := by unfold bindK; rw [g1, g2]; rfl
     rw [hB1, if_neg (by decide)] at HSp
     clear hB1
     have k0 := HKx.out.q0
     have k2 := HKx.out.q2
     have kz := HKx.out.lt
     go_wp2
     go_loopw [8] (fun y wx => y = .int .i64 0 ∧ Hid (Own wx w.heap.size 4 n (boolCells B)) ∧ Hid (Blk wx gx 36 #[.int .i64 p.kind, .string p.text, .slice A' p.kids.length c', .bool p.blank]) ∧ Below w.heap.size w wx) (fun y _ => 0)
     case atStart => exact ⟨rfl, HOx, HKx, HBx.out⟩
     case round =>
      clear HOx HKx HBx k0 k2 kz
      obtain ⟨rfl, HO2, HK2, hb2⟩ := hrel
      have k0 := HK2.out.q0
      have k2 := HK2.out.q2
      have kz := HK2.out.lt
      rw [← HSp.out] at HO2
      by_cases hj1 : (1 : Int) < (p.kids.length : Int)
      ·go_wp2
       exact ⟨⟨i + 1, by omega, by go_num, HO2, hb2⟩, by simp [intOf]; omega⟩
      ·go_wp2
       exact ⟨⟨i + 1, by omega, by go_num, HO2, hb2⟩, by simp [intOf]; omega⟩
  ·obtain rfl : i = nl := by omega
   go_wp2
   go_ret
   exact ⟨rfl, HO.out, hb⟩
theorem bind_one {ps : List PN} (h : treeB ps = true) : Hid (∀ (q : Nat) (p : PN), ps[q]? = some p → bindK p = true → 1 ≤ p.kids.length) := (show ∀ (q : Nat) (p : PN), ps[q]? = some p → bindK p = true → 1 ≤ p.kids.length from fun q p hp hk => by
 obtain ⟨m, hm, _, hall, _⟩ := tree_facts h
 have hq := (List.getElem?_eq_some_iff.1 hp).1
 obtain ⟨_, hlo, _⟩ := node_shape (hall q (by omega)) hp
 unfold bindK at hk
 rw [Bool.or_eq_true, beq_iff_eq, beq_iff_eq] at hk
 rcases hk with hk | hk <;> rw [hk] at hlo <;> simp [cntLo] at hlo <;> omega)
theorem implBinders_any (A : Option Addr) (n c : Nat) (ps : List PN) (AL : Option Addr) (nl cl : Nat) (l : List Int) (w : World) (hps : Nps w A n ps) (hg : Good ps) (hn : n ≤ 1048576) (hr : Rd w 1 AL nl (intCells l)) (hll : Hid (l.length = nl)) (hnl : nl ≤ 1048576) (hone : Hid (∀ (q : Nat) (p : PN), ps[q]? = some p → bindK p = true → 1 ≤ p.kids.length)) (hlv : Hid (∀ v ∈ l, ∃ q : Nat, v = (q : Int) ∧ q < n)) :
  Calls prog 61 #[.slice A n c, .slice AL nl cl] w (BoolsM w (parP ps l)) := by
 obtain ⟨j0, hj, hy0, hy1, hy2⟩ := info_parts infoBool
 have hmk := fun W => run_make_rowN (P := prog) 81 4 j0 _ underlying81 hj hy0 .i64 .i64 n n (Nat.le_refl _) (by rw [hy2]; omega) (by omega) W
 rw [hy1, Nat.mul_one] at hmk
 simp only [Value.cells] at hmk
 have hpl := parP_len ps l
 rw [hps.len] at hpl
 have hln := hps.len
 obtain ⟨F, hF⟩ : ∃ F, (fun i => (l.take i).foldl (parStep ps) (List.replicate n false)) = F := ⟨_, rfl⟩
 have HE := hid (show parP ps l = F nl by rw [← hF]; dsimp only; rw [← hll.out, List.take_length]; unfold parP; rw [hln])
 have HF0 := hid (show F 0 = List.replicate n false by rw [← hF]; rfl)
 have HFS := hid (show ∀ (i : Nat) (v : Int), l[i]? = some v → F (i + 1) = parStep ps (F i) v from fun i v hv => by
  rw [← hF]
  dsimp only
  rw [List.take_add_one, hv, Option.toList_some, List.foldl_append]
  rfl)
 have HFL := hid (show ∀ i, (F i).length = n from fun i => by
  rw [← hF]
  have key : ∀ (l : List Int) (B : List Bool), (l.foldl (parStep ps) B).length = B.length := by
   intro l
   induction l with
   | nil => intro B; rfl
   | cons v l ih =>
    intro B
    rw [List.foldl_cons, ih]
    unfold parStep
    split
    ·rfl
    ·split
     ·exact markB_len _ _
     ·rfl
  dsimp only
  rw [key, List.length_replicate])
 unfold BoolsM
 rw [HE.out] at hpl
 rw [HE.out, hpl]
 have HZ := hid (Own.falses (w := w) (e := 4) n)
 have HPS := hid hps
 have HG := hid hg
 have HR := hid hr
 clear hj hy0 hy1 hy2 hps hg hr hpl hln hF HE
 go_enter func61, ntmps61
 go_wp2
 clear hmk
 go_loopw [16] (fun x wr => ∃ i : Nat, i ≤ nl ∧ x = .int .i64 i ∧ Hid (Own wr w.heap.size 4 n (boolCells (F i))) ∧ Below w.heap.size w wr) (fun x _ => nl - (intOf x).toNat)
 case atStart => exact ⟨0, Nat.zero_le _, rfl, by rw [HF0.out]; exact HZ, grow_⟩
 case round =>
  clear HZ
  obtain ⟨i, hi, rfl, HO, hb⟩ := hrel
  by_cases hin : i < nl
  ·obtain ⟨v, hv⟩ : ∃ v, l[i]? = some v := ⟨_, gE (by have := hll.out; omega)⟩
   obtain ⟨q, rfl, hq⟩ := hlv.out v (List.mem_of_getElem? hv)
   have HSi := hid (HFS.out i _ hv)
   obtain ⟨b7, off7, rfl, hblt7, c7⟩ := int_at (HR.out.below hb) hin hv
   obtain ⟨p, hp⟩ := HPS.out.get hq
   obtain ⟨hk12, hkv⟩ := HG.out q p hp
   have hBl := HFL.out i
   obtain ⟨B, hB⟩ : ∃ B, F i = B := ⟨_, rfl⟩
   rw [hB] at HO HSi hBl
   have HOne := hid (hone.out q p hp)
   have HSp : Hid (F (i + 1) = if bindK p = true then markB_ B (p.kids.take (p.kids.length - 1)) else B) := (show F (i + 1) = if bindK p = true then markB_ B (p.kids.take (p.kids.length - 1)) else B by
    rw [HSi.out]; unfold parStep; rw [Int.toNat_natCast, hp])
   obtain ⟨b, off, A', c', rfl, hblt0, y0, y1, y2, y3, hcap, hkr⟩ := HPS.out.atc hq hp
   have x0 := ((bcell hb).1 _ _ hblt0).trans y0
   have x1 := ((bcell hb).1 _ _ hblt0).trans y1
   have x2 := ((bcell hb).1 _ _ hblt0).trans y2
   have x3 := ((bcell hb).1 _ _ hblt0).trans y3
   have hblt : b < wr.heap.size := by have := hb.size; omega
   have hi1 : (i : Int) < (nl : Int) := by omega
   have hq1 : (q : Int) < (n : Int) := by omega
   have HKR := hid hkr
   have HKV := hid hkv
   have hz := HO.out.lt
   have HOx := hid (HO.out.alloc (.cells #[.int .i64 p.kind, .string p.text, .slice A' p.kids.length c', .bool p.blank] 36))
   have HKx := hid (Blk.new wr 36 #[.int .i64 p.kind, .string p.text, .slice A' p.kids.length c', .bool p.blank])
   have HBx := hid (hb.alloc hb.size (.cells #[.int .i64 p.kind, .string p.text, .slice A' p.kids.length c', .bool p.blank] 36))
   have gxw : w.heap.size ≠ wr.heap.size := by omega
   clear hv hp y0 y1 y2 y3 hkr hkv HSi hB HO
   go_upto_region 6 with fail
   clear x0 x1 x2 x3 hblt c7 hblt7
   generalize wr.alloc (.cells #[.int .i64 p.kind, .string p.text, .slice A' p.kids.length c', .bool p.blank] 36) = W1 at HOx HKx HBx ⊢
   generalize wr.heap.size = gx at HKx gxw hz ⊢
   rcases bft (p.kind == 9) with g1 | g1
   ·have hB1 : bindK p = true := by unfold bindK; rw [g1]; rfl
    rw [if_pos hB1] at HSp
    have hml1 := HOne.out hB1
    obtain ⟨ks, hks⟩ : ∃ ks, p.kids = ks := ⟨_, rfl⟩
    rw [hks] at HSp hml1 HKR HKV HKx hk12 hcap ⊢
    obtain ⟨ml, hml⟩ : ∃ ml, ks.length = ml + 1 := ⟨ks.length - 1, by omega⟩
    rw [hml] at HKR HKx hcap ⊢
    rw [hml, Nat.add_sub_cancel] at HSp
    have HML := hid hml
    have hml12 : ml + 1 ≤ 12 := by omega
    have HG0 := hid (show markB_ B (ks.take 0) = B by rw [List.take_zero]; rfl)
    have em : ((ml + 1 : Nat) : Int) - 1 = (ml : Int) := by omega
    have k0 := HKx.out.q0
    have k2 := HKx.out.q2
    have kz := HKx.out.lt
    clear hB1 hks hml hml1
    obtain ⟨x0', hx0'⟩ : ∃ d, ks[0]? = some d := ⟨_, gE (by rw [HML.out]; omega)⟩
    obtain ⟨b9, off9, rfl, hblt9', _⟩ := int_at HKR.out (show 0 < ml + 1 by omega) hx0'
    clear hx0' hblt9'
    go_upto_region 8 with fail
    clear k0 k2 kz
    go_wp2
    go_loopw [40] (fun y wx => ∃ j : Nat, j ≤ ml ∧ y = .int .i64 j ∧ Hid (Own wx w.heap.size 4 n (boolCells (markB_ B (ks.take j)))) ∧ Below w.heap.size w wx) (fun y _ => ml - (intOf y).toNat)
    case atStart => exact ⟨0, Nat.zero_le _, rfl, by rw [HG0.out]; exact HOx, HBx.out⟩
    case round =>
     clear HOx HKx HBx
     obtain ⟨j, hj, rfl, HO2, hb2⟩ := hrel
     by_cases hjm : j < ml
     ·obtain ⟨v, hv⟩ : ∃ v, ks[j]? = some v := ⟨_, gE (by rw [HML.out]; omega)⟩
      have hvb := HKV.out v (List.mem_of_getElem? hv)
      obtain ⟨y, rfl⟩ := Int.eq_ofNat_of_zero_le hvb.1
      obtain ⟨b10, off10, e10, hblt9, c9⟩ := int_at (HKR.out.below hb2) (show j < ml + 1 by omega) hv
      injection e10 with e10
      injection e10 with e101 e102
      subst e101; subst e102
      have hjm' : (j : Int) < (ml : Int) := by omega
      have hy1 : (y : Int) < (n : Int) := by omega
      have HGj := hid (markB_snoc (B := B) hv)
      rw [Int.toNat_natCast] at HGj
      have HO3 := hid (bools_put (x := true) HO2.out (show y < (markB_ B (ks.take j)).length by rw [markB_len, hBl]; omega))
      rw [← HGj.out] at HO3
      obtain ⟨u0, hu0⟩ := HO2.out.there (show y < n by omega)
      have huf := HO2.out.frozen
      have huz := HO2.out.lt
      have hb3 := hid (hb2.setCell (show w.heap.size ≤ (⟨w.heap.size, y, none⟩ : Addr).block from Nat.le_refl _) (.bool true))
      clear hv hvb
      go_wp2
      go_roundw
      case rel => exact ⟨j + 1, by omega, by go_num, HO3, hb3.out⟩
      case measure => simp [intOf]; omega
     ·obtain rfl : j = ml := by omega
      rw [← HSp.out] at HO2
      go_wp2
      exact ⟨⟨i + 1, by omega, by go_num, HO2, hb2⟩, by simp [intOf]; omega⟩
   ·rcases bft (p.kind == 20) with g2 | g2
    ·have hB1 : bindK p = true := by unfold bindK; rw [g2, Bool.or_true]
     rw [if_pos hB1] at HSp
     have hml1 := HOne.out hB1
     obtain ⟨ks, hks⟩ : ∃ ks, p.kids = ks := ⟨_, rfl⟩
     rw [hks] at HSp hml1 HKR HKV HKx hk12 hcap ⊢
     obtain ⟨ml, hml⟩ : ∃ ml, ks.length = ml + 1 := ⟨ks.length - 1, by omega⟩
     rw [hml] at HKR HKx hcap ⊢
     rw [hml, Nat.add_sub_cancel] at HSp
     have HML := hid hml
     have hml12 : ml + 1 ≤ 12 := by omega
     have HG0 := hid (show markB_ B (ks.take 0) = B by rw [List.take_zero]; rfl)
     have em : ((ml + 1 : Nat) : Int) - 1 = (ml : Int) := by omega
     have k0 := HKx.out.q0
     have k2 := HKx.out.q2
     have kz := HKx.out.lt
     clear hB1 hks hml hml1
     obtain ⟨x0', hx0'⟩ : ∃ d, ks[0]? = some d := ⟨_, gE (by rw [HML.out]; omega)⟩
     obtain ⟨b9, off9, rfl, hblt9', _⟩ := int_at HKR.out (show 0 < ml + 1 by omega) hx0'
     clear hx0' hblt9'
     go_upto_region 8 with fail
     clear k0 k2 kz
     go_wp2
     go_loopw [40] (fun y wx => ∃ j : Nat, j ≤ ml ∧ y = .int .i64 j ∧ Hid (Own wx w.heap.size 4 n (boolCells (markB_ B (ks.take j)))) ∧ Below w.heap.size w wx) (fun y _ => ml - (intOf y).toNat)
     case atStart => exact ⟨0, Nat.zero_le _, rfl, by rw [HG0.out]; exact HOx, HBx.out⟩
     case round =>
      clear HOx HKx HBx
      obtain ⟨j, hj, rfl, HO2, hb2⟩ := hrel
      by_cases hjm : j < ml
      ·obtain ⟨v, hv⟩ : ∃ v, ks[j]? = some v := ⟨_, gE (by rw [HML.out]; omega)⟩
       have hvb := HKV.out v (List.mem_of_getElem? hv)
       obtain ⟨y, rfl⟩ := Int.eq_ofNat_of_zero_le hvb.1
       obtain ⟨b10, off10, e10, hblt9, c9⟩ := int_at (HKR.out.below hb2) (show j < ml + 1 by omega) hv
       injection e10 with e10
       injection e10 with e101 e102
       subst e101; subst e102
       have hjm' : (j : Int) < (ml : Int) := by omega
       have hy1 : (y : Int) < (n : Int) := by omega
       have HGj := hid (markB_snoc (B := B) hv)
       rw [Int.toNat_natCast] at HGj
       have HO3 := hid (bools_put (x := true) HO2.out (show y < (markB_ B (ks.take j)).length by rw [markB_len, hBl]; omega))
       rw [← HGj.out] at HO3
       obtain ⟨u0, hu0⟩ := HO2.out.there (show y < n by omega)
       have huf := HO2.out.frozen
       have huz := HO2.out.lt
       have hb3 := hid (hb2.setCell (show w.heap.size ≤ (⟨w.heap.size, y, none⟩ : Addr).block from Nat.le_refl _) (.bool true))
       clear hv hvb
       go_wp2
       go_roundw
       case rel => exact ⟨j + 1, by omega, by go_num, HO3, hb3.out⟩
       case measure => simp [intOf]; omega
      ·obtain rfl : j = ml := by omega
       rw [← HSp.out] at HO2
       go_wp2
       exact ⟨⟨i + 1, by omega, by go_num, HO2, hb2⟩, by simp [intOf]; omega⟩
    ·have hB1 : bindK p = false := by unfold bindK; rw [g1, g2]; rfl
     rw [hB1, if_neg (by decide)] at HSp
     clear hB1
     have k0 := HKx.out.q0
     have kz := HKx.out.lt
     rw [← HSp.out] at HOx
     go_wp2
     go_roundw
     case rel => exact ⟨i + 1, by omega, by go_num, HOx, HBx.out⟩
     case measure => simp [intOf]; omega
  ·obtain rfl : i = nl := by omega
   go_wp2
   go_ret
   exact ⟨rfl, HO.out, hb⟩
end Go.Proofs.YtgbikafalcbibaaGreatDoor

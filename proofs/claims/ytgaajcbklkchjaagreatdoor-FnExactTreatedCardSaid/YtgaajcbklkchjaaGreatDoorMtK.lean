/-
  Put together by program (shake.py): GrA, GrB, GrC, GrD, GrE.
-/
import Derived.Test.YtgaajcbklkchjaaGreatDoorMtH
import Derived.Test.YtgaajcbklkchjaaGreatDoorMtF
import Derived.Test.YtgaajcbklkchjaaGreatDoorMtB
import Derived.Outline
import Derived.Deep.DeepCutAuto
import Derived.Shelf.SlSortCmp.QuietGrown
import Derived.Lib.AppendIntMem
import Derived.Laws.Cover1
import Derived.Test.YtgaajcbklkchjaaGreatDoorMtG
import Derived.Shelf.SlSortCmp.KitK
import Derived.Shelf.SlSortCmp.InsertionK
import Derived.Test.YtgaajcbklkchjaaGreatDoorMtJ
import Derived.Laws.EntriesVeiled
set_option maxRecDepth 100000
set_option maxHeartbeats 25600000
set_option linter.unusedVariables false
set_option linter.unusedSimpArgs false
open Go.Lib (hid)
open Go.Proofs.Tryz
namespace Go.Proofs.YtgaajcbklkchjaaGreatDoor
open Go.RowKit
structure Gd where
 adr : Option Addr
 cnt : Nat
 cap : Nat
 notes : List Int
 mem : Int
def Gd.gp (d : Gd) : Grp := (d.notes, d.mem)
def grpCells (d : Gd) : List Value := [.slice d.adr d.cnt d.cap, .int .i64 d.mem]
theorem grpCells_len (d : Gd) : (grpCells d).length = 2 := rfl
structure Grps (w : World) (B : Nat) (A : Option Addr) (n c : Nat) (l : List Gd) : Prop where
 len : l.length = n
 row : Mine w B 106 2 A n c (l.flatMap grpCells)
 notes : ∀ d ∈ l, Mine w B 3 1 d.adr d.cnt d.cap (intCells d.notes)
section
variable {w w' w1 w3 : World} {B n c m cK : Nat} {A AK : Option Addr} {l : List Gd} {ks : List Int}
theorem Grps.next (h : Grps w B A n c l) (hb : Below w.heap.size w w') : Grps w' B A n c l := ⟨h.len, h.row.next hb, fun d hd => (h.notes d hd).next hb⟩
theorem Grps.nil (w : World) (B : Nat) : Grps w B none 0 0 [] := ⟨rfl, Mine.mk_nil _ _ _ _, fun d hd => by cases hd⟩
theorem Grps.other (h : Grps w B A n c l) (hk : Mine w B 3 1 AK m cK (intCells ks)) (hne : ∀ d ∈ l, ∀ g, AK.map (·.block) = some g → d.adr.map (·.block) ≠ some g) (hw1 : Below w.heap.size w w1) (hg : w1.grownBy w3 (AK.map (·.block))) : Grps w3 B A n c l := by
 have h1 := h.next hw1
 have hk1 := hk.next hw1
 refine ⟨h.len, h1.row.grown hg (fun g e => .inr (fun e' => ?_)), fun d hd => (h1.notes d hd).grown hg (fun g e => .inr (hne d hd g e))⟩
 obtain ⟨cs1, b1⟩ := mine_blk' h1.row e'
 obtain ⟨cs2, b2⟩ := mine_blk' hk1 e
 exact blk_ne b1 b2 (by decide) rfl
theorem Grps.push (h : Grps w B A n c l) (x : Gd) (hx : Mine w B 3 1 x.adr x.cnt x.cap (intCells x.notes)) (hw1 : Below w.heap.size w w1) {v' : Value}
  (hown : w3.ownsRow B 106 2 v' (n + 1) (l.flatMap grpCells ++ grpCells x)) (hg : w1.grownBy w3 (Value.slice A n c).ownBlock) :
  ∃ A3 c3, v' = .slice A3 (n + 1) c3 ∧ Grps w3 B A3 (n + 1) c3 (l ++ [x]) := by
 rw [ownBlk] at hg
 have h1 := h.next hw1
 obtain ⟨A3, c3, rfl, m3⟩ := Mine.of hown
 have hff : (l ++ [x]).flatMap grpCells = l.flatMap grpCells ++ grpCells x := by simp
 have hno : ∀ d : Gd, Mine w1 B 3 1 d.adr d.cnt d.cap (intCells d.notes) → Mine w3 B 3 1 d.adr d.cnt d.cap (intCells d.notes) := fun d hd => hd.grown hg (fun g e => .inr (fun e' => by
  obtain ⟨cs1, b1⟩ := mine_blk' h1.row e
  obtain ⟨cs2, b2⟩ := mine_blk' hd e'
  exact blk_ne b1 b2 (by decide) rfl))
 refine ⟨A3, c3, rfl, by rw [lA, h.len]; rfl, by rw [hff]; exact m3, fun d hd => ?_⟩
 rcases List.mem_append.1 hd with hd | hd
 ·exact hno d (h1.notes d hd)
 ·obtain rfl := List.mem_singleton.1 hd; exact hno d (hx.next hw1)
end
theorem infoGrp : (prog.info? 106).map (fun i => (i.zero, i.size, i.bytes)) = some (some (.agg #[.slice none 0 0, .int .i64 0]), 2, 32) := by kernel_rfl
theorem gp_new (w : World) (x : Gd) (t : TypeId) : ∀ j v, (grpCells x)[j]? = some v → (w.alloc (.cells #[.slice x.adr x.cnt x.cap, .int .i64 x.mem] t)).cell? ((⟨w.heap.size, 0, none⟩ : Addr).add j) = some v := by
 intro j v hj
 have hb := Blk.new w t #[.slice x.adr x.cnt x.cap, .int .i64 x.mem]
 match j, hj with
 | 0, hj => obtain rfl := Option.some.inj hj; exact hb.cell 0
 | 1, hj => obtain rfl := Option.some.inj hj; exact hb.cell 1
 | j + 2, hj => simp [grpCells] at hj
theorem gp_one (x : Gd) : ∀ u ∈ grpCells x, u.oneCell' = true := by
 intro u hu
 simp [grpCells] at hu
 rcases hu with rfl | rfl <;> rfl
section
variable {ps : List PN} {l : List Int} {j : Nat} {v : Int} {notes : List Int} {out : List Grp}
theorem groupsG_note (h : l[j]? = some v) (hk : (ndAt ps v.toNat).kind = 19) : groupsG ps (l.drop j) notes out = groupsG ps (l.drop (j + 1)) (notes ++ [v]) out := by
 obtain ⟨hlt, he⟩ := List.getElem?_eq_some_iff.1 h
 rw [List.drop_eq_getElem_cons hlt, he, groupsG, if_pos hk]
theorem groupsG_mem (h : l[j]? = some v) (hk : ¬ (ndAt ps v.toNat).kind = 19) : groupsG ps (l.drop j) notes out = groupsG ps (l.drop (j + 1)) [] (out ++ [(notes, v)]) := by
 obtain ⟨hlt, he⟩ := List.getElem?_eq_some_iff.1 h
 rw [List.drop_eq_getElem_cons hlt, he, groupsG, if_neg hk]
theorem groupsG_end (h : l.length ≤ j) : groupsG ps (l.drop j) notes out = if notes.length = 0 then out else out ++ [(notes, -1)] := by
 rw [List.drop_of_length_le h, groupsG]
end
def GrpsR (w : World) (q : List Grp) (e : Ending) (w' : World) : Prop := ∃ A n c l, e = .returned (.slice A n c) ∧ Grps w' w.heap.size A n c l ∧ l.map Gd.gp = q ∧ Below w.heap.size w w'
theorem implGroups_any (A : Option Addr) (n c : Nat) (ps : List PN) (m : Nat) (hF : TreeF ps m) (ht : treeB ps = true) (w : World) (hf : FineT ps) (hps : Nps w A n ps) :
  Calls prog 124 #[.slice A n c] w (GrpsR w (groupsV ps m)) := by
 have hl := hps.len
 have hlm := hF.tree.len
 obtain rfl : n = m + 1 := by omega
 have HT := hid (implTreeOk_any A (m + 1) c ps w (by have := hF.few; omega) hps hf.1)
 rw [ht] at HT
 have hm300 := hF.few
 have HP := hid hps
 obtain ⟨x, hx⟩ := hps.get (show m < m + 1 by omega)
 have HG := hid (hF.tree.good)
 obtain ⟨hk12, hkv⟩ := hF.tree.good m x hx
 have HKV := hid hkv
 obtain ⟨b, off, A', c', rfl, hblt, x0, x1, x2, x3, hxr⟩ := hps.at_ (show m < m + 1 by omega) hx
 have HXR := hid hxr
 have hgv : groupsV ps m = groupsG ps (x.kids.drop 0) [] [] := by unfold groupsV; rw [ndAt_of hx, List.drop_zero]
 obtain ⟨Q, hQ⟩ : ∃ Q, groupsV ps m = Q := ⟨_, rfl⟩
 rw [hQ]
 have HQ0 := hid (hgv.symm.trans hQ)
 obtain ⟨i0, hi0, hz0, hz1, hz2⟩ := info_parts infoGrp
 have HI := hid (And.intro hi0 (And.intro hz0 (And.intro hz1 hz2)))
 obtain ⟨j0, hj0, hy0, hy1, hy2⟩ := info_parts infoInt
 have HJ := hid (And.intro hj0 (And.intro hy0 (And.intro hy1 hy2)))
 clear hps hx hgv hQ hkv hxr hi0 hz0 hz1 hz2 hj0 hy0 hy1 hy2 x0 x1 x3 hf ht hF
 go_enter func124, ntmps124
 go_wp2_with fail
 refine HT.out.mono ?_
 rintro e w1 ⟨rfl, h1⟩
 have hcb := (bcell h1).1
 have x2' := (hcb _ _ hblt).trans x2
 have hblt' : b < w1.heap.size := Nat.lt_of_lt_of_le hblt h1.size
 have HB1 := hid h1
 clear x2 hcb hblt h1
 go_wp2
 clear x2' hblt'
 go_loopw [3, 4, 18] (fun s3 s4 i wr => ∃ (j : Nat) (AO : Option Addr) (cO : Nat) (lo : List Gd) (AK : Option Addr) (cK : Nat) (ks : List Int) (no nk : Nat), j ≤ x.kids.length ∧ i = .int .i64 j ∧ s3 = .slice AO no cO ∧ s4 = .slice AK nk cK ∧ Hid (ks.length = nk) ∧ no ≤ j ∧ nk ≤ j ∧ Hid (Grps wr w.heap.size AO no cO lo) ∧ Hid (Mine wr w.heap.size 3 1 AK nk cK (intCells ks)) ∧ Hid (∀ d ∈ lo, ∀ g, AK.map (·.block) = some g → d.adr.map (·.block) ≠ some g) ∧ Hid (groupsG ps (x.kids.drop j) ks (lo.map Gd.gp) = Q) ∧ Hid (Below w.heap.size w wr)) (fun _ _ i _ => x.kids.length - (intOf i).toNat)
 case atStart => exact ⟨0, none, 0, [], none, 0, [], 0, 0, Nat.zero_le _, rfl, rfl, rfl, (rfl : ([] : List Int).length = 0), Nat.le_refl _, Nat.le_refl _, Grps.nil _ _, Mine.mk_nil _ _ _ _, (fun d hd => (by cases hd) : ∀ d ∈ ([] : List Gd), ∀ g, (none : Option Addr).map (·.block) = some g → d.adr.map (·.block) ≠ some g), HQ0.out, HB1.out⟩
 case round =>
  clear HQ0 HB1
  obtain ⟨j, AO, cO, lo, AK, cK, ks, no, nk, hj, rfl, rfl, rfl, HKN, hno, hnk, HGR, HM, HAP, HE, HB⟩ := hrel
  by_cases hjl : j < x.kids.length
  ·obtain ⟨v, hd⟩ : ∃ d, x.kids[j]? = some d := ⟨_, List.getElem?_eq_getElem hjl⟩
   obtain ⟨b5, off5, rfl, hblt5, cv⟩ := int_at (HXR.out.below HB.out) hjl hd
   have hv := HKV.out v (List.mem_of_getElem? hd)
   obtain ⟨q, rfl⟩ := Int.eq_ofNat_of_zero_le hv.1
   have hqn : q < m + 1 := by omega
   obtain ⟨y, hy⟩ := HP.out.get hqn
   obtain ⟨b7, off7, A7, c7, e7, hblt7, y0, y1, y2, y3, _⟩ := (HP.out.below HB.out).at_ hqn hy
   injection e7 with e7; injection e7 with e71 e72; subst e71; subst e72
   have hna : ndAt ps ((q : Int).toNat) = y := by rw [Int.toNat_natCast]; exact ndAt_of hy
   have hq2 : (q : Int) < ((m + 1 : Nat) : Int) := by omega
   by_cases h19 : y.kind = 19
   ·have HE2 := hid ((groupsG_note (notes := ks) (out := lo.map Gd.gp) hd (by rw [hna]; exact h19)).symm.trans HE.out)
    have e19 : (y.kind == 19) = true := by rw [h19]; rfl
    have hMz := hid (HM.out.alloc (.cells #[.int .i64 (q : Int)] 3))
    have HA2 := hid (fun (w3 : World) hg => HGR.out.other HM.out HAP.out (w1 := wr.alloc (.cells #[.int .i64 (q : Int)] 3)) ((Below.refl _ _).alloc (Nat.le_refl _) _) (w3 := w3) hg)
    have HB2 := hid (fun (w3 : World) hg => below_turned (W := w) (HB.out.alloc HB.out.size (.cells #[.int .i64 (q : Int)] 3)) (w' := w3) hg (fun g e => (Mine.blk HM.out e).1))
    clear HE h19 hna hy hd y1 y2 y3
    go_wp2_with (at_builtin; refine wpList_append_row _ rfl (.tmp 28) (.tmp 30) _ rfl w.heap.size 3 j0 (.int .i64 0) 1 8 underlying37 HJ.out.1 HJ.out.2.1 HJ.out.2.2.1 HJ.out.2.2.2 rfl (by decide) (.slice AK nk cK) nk (intCells ks) rfl hMz.out ⟨wr.heap.size, 0, none⟩ 1 1 [.int .i64 (q : Int)] rfl rfl (int_new _ _ _) (int_one _) (by unfold maxLen; omega) (by omega) (by have h8 := HB.out.size; simp; omega) ?_; intro v' w5 hown hg hwh)
    obtain ⟨A5, c5, rfl, m5⟩ := Mine.of hown
    rw [ownBlk] at hg hwh
    rw [ownBlk] at hwh
    rw [← ints_snoc] at m5
    have HG5 := hid (HA2.out _ hg)
    have HB5 := hid (HB2.out _ hg)
    have HM5 := hid m5
    have HAP5 := hid (show ∀ d ∈ lo, ∀ g, A5.map (·.block) = some g → d.adr.map (·.block) ≠ some g from fun d hd g e e' => by
     rcases hwh with h | h
     ·exact HAP.out d hd g (by rw [← h]; exact e) e'
     ·have h8 := (Mine.blk (HGR.out.notes d hd) e').2
      rw [e] at h
      injection h with h
      simp at h
      omega)
    clear hown hg hwh m5 HA2 HB2 HGR HM HAP HB
    go_wp2
    go_roundw
    case rel => exact ⟨j + 1, AO, cO, lo, A5, c5, ks ++ [(q : Int)], no, nk + 1, by omega, by go_num, rfl, rfl, hid (show (ks ++ [(q : Int)]).length = nk + 1 by rw [lA, HKN.out]; rfl), by omega, by omega, HG5.out, HM5.out, HAP5.out, HE2.out, HB5.out⟩
    case measure => simp [intOf]; omega
   ·have HE2 := hid ((groupsG_mem (notes := ks) (out := lo.map Gd.gp) hd (by rw [hna]; exact h19)).symm.trans HE.out)
    have e19 : (y.kind == 19) = false := beq_eq_false_iff_ne.2 h19
    have hMz := hid (HGR.out.row.alloc (.cells #[.slice AK nk cK, .int .i64 (q : Int)] 106))
    have HA2 := hid (fun (v' : Value) (w3 : World) ho hg => HGR.out.push (⟨AK, nk, cK, ks, (q : Int)⟩ : Gd) HM.out (w1 := wr.alloc (.cells #[.slice AK nk cK, .int .i64 (q : Int)] 106)) ((Below.refl _ _).alloc (Nat.le_refl _) _) (v' := v') (w3 := w3) ho hg)
    have HB2 := hid (fun (w3 : World) hg => below_turned (W := w) (HB.out.alloc HB.out.size (.cells #[.slice AK nk cK, .int .i64 (q : Int)] 106)) (w' := w3) hg (fun g e => (Mine.blk HGR.out.row e).1))
    have HNW := hid (gp_new wr (⟨AK, nk, cK, ks, (q : Int)⟩ : Gd) 106)
    clear HE h19 hna hy hd y1 y2 y3
    go_wp2_with (at_builtin; refine wpList_append_row _ rfl (.tmp 32) (.tmp 36) _ rfl w.heap.size 106 i0 (.agg #[.slice none 0 0, .int .i64 0]) 2 32 underlying103 HI.out.1 HI.out.2.1 HI.out.2.2.1 HI.out.2.2.2 rfl (by decide) (.slice AO no cO) no (lo.flatMap grpCells) rfl hMz.out ⟨wr.heap.size, 0, none⟩ 1 1 (grpCells (⟨AK, nk, cK, ks, (q : Int)⟩ : Gd)) rfl rfl HNW.out (gp_one _) (by unfold maxLen; omega) (by omega) (by have h8 := HB.out.size; simp; omega) ?_; intro v' w5 hown hg hwh)
    obtain ⟨A5, c5, rfl, hG5⟩ := HA2.out _ _ hown hg
    rw [ownBlk] at hg
    have HG5 := hid hG5
    have HB5 := hid (HB2.out _ hg)
    clear hown hg hwh hG5 HA2 HB2 HGR HM HAP HB
    go_wp2
    go_roundw
    case rel =>
     refine ⟨j + 1, A5, c5, lo ++ [(⟨AK, nk, cK, ks, (q : Int)⟩ : Gd)], none, 0, [], no + 1, 0, by omega, by go_num, rfl, rfl, (rfl : ([] : List Int).length = 0), by omega, by omega, HG5.out, Mine.mk_nil _ _ _ _, (fun d hd g e => (by cases e)), ?_, HB5.out⟩
     show _ = _
     rw [← HE2.out, List.map_append]; rfl
    case measure => simp [intOf]; omega
  ·obtain rfl : j = x.kids.length := by omega
   have HE2 := hid ((groupsG_end (notes := ks) (out := lo.map Gd.gp) (Nat.le_refl x.kids.length)).symm.trans HE.out)
   by_cases h0 : nk = 0
   ·subst h0
    have HQ3 := hid (show lo.map Gd.gp = Q by have h1 := HE2.out; rwa [if_pos HKN.out] at h1)
    clear HE HE2 HAP HM
    go_wp2
    go_ret
    exact ⟨AO, no, cO, lo, rfl, HGR.out, HQ3.out, HB.out⟩
   ·have HQ3 := hid (show lo.map Gd.gp ++ [(ks, (-1 : Int))] = Q by have h1 := HE2.out; rwa [if_neg (by rw [HKN.out]; exact h0)] at h1)
    have hpos : (0 : Int) < (nk : Int) := by omega
    have hpos2 : 0 < nk := by omega
    have hMz := hid (HGR.out.row.alloc (.cells #[.slice AK nk cK, .int .i64 (-1)] 106))
    have HA2 := hid (fun (v' : Value) (w3 : World) ho hg => HGR.out.push (⟨AK, nk, cK, ks, (-1)⟩ : Gd) HM.out (w1 := wr.alloc (.cells #[.slice AK nk cK, .int .i64 (-1)] 106)) ((Below.refl _ _).alloc (Nat.le_refl _) _) (v' := v') (w3 := w3) ho hg)
    have HB2 := hid (fun (w3 : World) hg => below_turned (W := w) (HB.out.alloc HB.out.size (.cells #[.slice AK nk cK, .int .i64 (-1)] 106)) (w' := w3) hg (fun g e => (Mine.blk HGR.out.row e).1))
    have HNW := hid (gp_new wr (⟨AK, nk, cK, ks, (-1)⟩ : Gd) 106)
    clear HE HE2
    go_wp2_with (at_builtin; refine wpList_append_row _ rfl (.tmp 42) (.tmp 45) _ rfl w.heap.size 106 i0 (.agg #[.slice none 0 0, .int .i64 0]) 2 32 underlying103 HI.out.1 HI.out.2.1 HI.out.2.2.1 HI.out.2.2.2 rfl (by decide) (.slice AO no cO) no (lo.flatMap grpCells) rfl hMz.out ⟨wr.heap.size, 0, none⟩ 1 1 (grpCells (⟨AK, nk, cK, ks, (-1)⟩ : Gd)) rfl rfl HNW.out (gp_one _) (by unfold maxLen; omega) (by omega) (by have h8 := HB.out.size; simp; omega) ?_; intro v' w5 hown hg hwh)
    obtain ⟨A5, c5, rfl, hG5⟩ := HA2.out _ _ hown hg
    rw [ownBlk] at hg
    have HG5 := hid hG5
    have HB5 := hid (HB2.out _ hg)
    clear hown hg hwh hG5 HA2 HB2 HGR HM HAP HB
    go_wp2
    go_ret
    exact ⟨A5, no + 1, c5, lo ++ [⟨AK, nk, cK, ks, -1⟩], rfl, HG5.out, by rw [← HQ3.out, List.map_append]; rfl, HB5.out⟩
open Go.RowKit Go.Sort
def lessB (a b : ByteArray) : Bool := Op.bytesLess a.toList b.toList
theorem less_irrefl : ∀ l : List UInt8, Op.bytesLess l l = false := by
 intro l
 induction l with
 | nil => rfl
 | cons a l ih => simp [Op.bytesLess, ih]
theorem less_cons (a b : UInt8) (x y : List UInt8) : Op.bytesLess (a :: x) (b :: y) = true ↔ a.toNat < b.toNat ∨ (a.toNat = b.toNat ∧ Op.bytesLess x y = true) := by
 simp only [Op.bytesLess, Bool.or_eq_true, Bool.and_eq_true, decide_eq_true_eq, beq_iff_eq, UInt8.lt_iff_toNat_lt]
 constructor
 ·rintro (h | ⟨rfl, h⟩)
  ·exact .inl h
  ·exact .inr ⟨rfl, h⟩
 ·rintro (h | ⟨h1, h⟩)
  ·exact .inl h
  ·exact .inr ⟨UInt8.toNat_inj.1 h1, h⟩
theorem less_trans : ∀ x y z : List UInt8, Op.bytesLess x y = true → Op.bytesLess y z = true → Op.bytesLess x z = true := by
 intro x
 induction x with
 | nil =>
  intro y z h1 h2
  cases z with
  | nil => simp [Op.bytesLess] at h2
  | cons c z => rfl
 | cons a x ih =>
  intro y z h1 h2
  cases y with
  | nil => simp [Op.bytesLess] at h1
  | cons b y =>
   cases z with
   | nil => simp [Op.bytesLess] at h2
   | cons c z =>
    rw [less_cons] at h1 h2 ⊢
    rcases h1 with h1 | ⟨h1, h3⟩
    ·rcases h2 with h2 | ⟨h2, h4⟩
     ·exact .inl (by omega)
     ·exact .inl (by omega)
    ·rcases h2 with h2 | ⟨h2, h4⟩
     ·exact .inl (by omega)
     ·exact .inr ⟨by omega, ih y z h3 h4⟩
theorem less_total : ∀ x y : List UInt8, Op.bytesLess x y = false → Op.bytesLess y x = false → x = y := by
 intro x
 induction x with
 | nil =>
  intro y h1 h2
  cases y with
  | nil => rfl
  | cons b y => simp [Op.bytesLess] at h1
 | cons a x ih =>
  intro y h1 h2
  cases y with
  | nil => simp [Op.bytesLess] at h2
  | cons b y =>
   have g1 : ¬ (a.toNat < b.toNat ∨ (a.toNat = b.toNat ∧ Op.bytesLess x y = true)) := fun h => by rw [(less_cons a b x y).2 h] at h1; cases h1
   have g2 : ¬ (b.toNat < a.toNat ∨ (b.toNat = a.toNat ∧ Op.bytesLess y x = true)) := fun h => by rw [(less_cons b a y x).2 h] at h2; cases h2
   have e : a.toNat = b.toNat := by omega
   have e1 : Op.bytesLess x y = false := by
    cases h : Op.bytesLess x y with
    | false => rfl
    | true => exact absurd (.inr ⟨e, h⟩) g1
   have e2 : Op.bytesLess y x = false := by
    cases h : Op.bytesLess y x with
    | false => rfl
    | true => exact absurd (.inr ⟨e.symm, h⟩) g2
   rw [UInt8.toNat_inj.1 e, ih y e1 e2]
theorem lessB_swo : SWO lessB := by
 refine ⟨fun x => less_irrefl _, fun x y z h1 h2 => less_trans _ _ _ h1 h2, fun x y z h1 h2 => ?_⟩
 unfold lessB at *
 cases h : Op.bytesLess x.toList z.toList with
 | false => rfl
 | true =>
  exfalso
  cases h3 : Op.bytesLess y.toList x.toList with
  | true =>
   rw [less_trans _ _ _ h3 h] at h2; cases h2
  | false =>
   have e := less_total _ _ h1 h3
   rw [e] at h
   rw [h] at h2; cases h2
def cmpS (a b : ByteArray) : Int := if lessB a b = true then -1 else if (lessB a b || a.toList == b.toList) = true then 0 else 1
theorem cmpS_lt (a b : ByteArray) : decide (cmpS a b < 0) = lessB a b := by
 unfold cmpS
 cases h : lessB a b with
 | true => rfl
 | false =>
  rw [if_neg (by decide), Bool.false_or]
  split <;> rfl
theorem isNaNS_any (a : ByteArray) (w : World) : Calls prog 166 #[.string a] w fun e w' => e = .returned (.bool false) ∧ w' = w := by
 go_enter func166, ntmps166
 go_wp2
 go_ret
 exact ⟨by simp, rfl⟩
theorem compareS_any (a b : ByteArray) (w : World) : Calls prog 127 #[.string a, .string b] w fun e w' => e = .returned (.int .i64 (cmpS a b)) ∧ w' = w := by
 have HN := hid (fun (x : ByteArray) (W : World) => isNaNS_any x W)
 unfold cmpS lessB
 cases h1 : Op.bytesLess a.toList b.toList with
 | true =>
  rw [if_pos rfl]
  go_enter func127, ntmps127
  go_wp2_with (go_at_call 166; refine (HN.out _ _).mono ?_; rintro e w1 ⟨rfl, rfl⟩)
  go_ret
  exact ⟨rfl, rfl⟩
 | false =>
  rw [if_neg (by decide), Bool.false_or]
  cases h2 : (a.toList == b.toList) with
  | true =>
   rw [if_pos rfl]
   have h3 : (Op.bytesLess a.toList b.toList || a.toList == b.toList) = true := by rw [h1, h2]; rfl
   go_enter func127, ntmps127
   go_wp2_with (go_at_call 166; refine (HN.out _ _).mono ?_; rintro e w1 ⟨rfl, rfl⟩)
   go_ret
   exact ⟨rfl, rfl⟩
  | false =>
   rw [if_neg (by decide)]
   have h3 : (Op.bytesLess a.toList b.toList || a.toList == b.toList) = false := by rw [h1, h2]; rfl
   go_enter func127, ntmps127
   go_wp2_with (go_at_call 166; refine (HN.out _ _).mono ?_; rintro e w1 ⟨rfl, rfl⟩)
   go_ret
   exact ⟨rfl, rfl⟩
theorem grow2 (w : World) (a b : Obj) : (w.alloc a).alloc b = grow w #[a, b] := by rw [alloc_eq_grow, alloc_eq_grow, grow_grow]; rfl
def KeyR (v : ByteArray) (w : World) (e : Ending) (w' : World) : Prop := e = .returned (.string v) ∧ ∃ q os, w' = grow (w.drewN q) os
theorem groupKey_any (A : Option Addr) (n c : Nat) (ps : List PN) (A2 : Option Addr) (n2 c2 : Nat) (v : Int) (w : World) (hps : Nps w A n ps) (hf : FineT ps) :
  Calls prog 128 #[.slice A n c, .agg #[.slice A2 n2 c2, .int .i64 v]] w (KeyR (keyV ps v) w) := by
 have hl := hps.len
 have hn : n ≤ 1048576 := by rw [← hl]; exact hf.2
 have hd1 := hid (show w.alloc (.cells #[.slice A2 n2 c2, .int .i64 v] 106) = grow (w.drewN 0) #[.cells #[.slice A2 n2 c2, .int .i64 v] 106] from alloc_eq_grow _ _)
 unfold keyV
 cases hin : inB v 0 ((n : Int) - 1) with
 | false =>
  rw [if_neg (by have := of_decide_eq_false hin; omega)]
  have HN := hid (fun W => isNode_is (n := n) hin A c W)
  clear hps
  go_enter func128, ntmps128
  go_wp2_with (go_at_call 55; refine (HN.out _).mono ?_; rintro e w1 ⟨rfl, rfl⟩)
  go_ret
  exact ⟨rfl, 0, _, hd1.out⟩
 | true =>
  have hv := of_decide_eq_true hin
  rw [if_pos (by omega)]
  have HN := hid (fun W => isNode_is (n := n) hin A c W)
  obtain ⟨q, rfl⟩ := Int.eq_ofNat_of_zero_le hv.1
  have hq : q < n := by omega
  obtain ⟨x, hx⟩ := hps.get hq
  have hsz := (hf.1 x (List.mem_of_getElem? hx)).1
  obtain ⟨b, off, A', c', rfl, hblt, x0, x1, x2, x3, _⟩ := hps.at_ hq hx
  rw [Int.toNat_natCast, ndAt_of hx]
  have hd2 := hid (show (w.alloc (.cells #[.slice A2 n2 c2, .int .i64 (q : Int)] 106)).alloc (.cells #[.int .i64 x.kind, .string x.text, .slice A' x.kids.length c', .bool x.blank] 48) = grow (w.drewN 0) #[.cells #[.slice A2 n2 c2, .int .i64 (q : Int)] 106, .cells #[.int .i64 x.kind, .string x.text, .slice A' x.kids.length c', .bool x.blank] 48] from grow2 _ _ _)
  have hs1 : ¬ 9223372036854775807 < 1 + x.text.size := by omega
  clear hx hps hf hin hv
  by_cases h12 : x.kind = 12
  ·rw [if_pos h12]
   have e12 : (x.kind == 12) = true := by rw [h12]; rfl
   clear h12
   go_enter func128, ntmps128
   go_wp2_with (go_at_call 55; refine (HN.out _).mono ?_; rintro e w1 ⟨rfl, rfl⟩)
   go_ret
   exact ⟨rfl, 0, _, hd2.out⟩
  rw [if_neg h12]
  have e12 : (x.kind == 12) = false := beq_eq_false_iff_ne.2 h12
  by_cases h21 : x.kind = 21
  ·rw [if_pos h21]
   have e21 : (x.kind == 21) = true := by rw [h21]; rfl
   clear h12 h21
   go_enter func128, ntmps128
   go_wp2_with (go_at_call 55; refine (HN.out _).mono ?_; rintro e w1 ⟨rfl, rfl⟩)
   go_ret
   exact ⟨rfl, 0, _, hd2.out⟩
  rw [if_neg h21]
  have e21 : (x.kind == 21) = false := beq_eq_false_iff_ne.2 h21
  by_cases h20 : x.kind = 20
  ·rw [if_pos h20]
   have e20 : (x.kind == 20) = true := by rw [h20]; rfl
   clear h12 h21 h20
   go_enter func128, ntmps128
   go_wp2_with (go_at_call 55; refine (HN.out _).mono ?_; rintro e w1 ⟨rfl, rfl⟩)
   go_ret
   exact ⟨rfl, 0, _, hd2.out⟩
  rw [if_neg h20]
  have e20 : (x.kind == 20) = false := beq_eq_false_iff_ne.2 h20
  clear h12 h21 h20
  go_enter func128, ntmps128
  go_wp2_with (go_at_call 55; refine (HN.out _).mono ?_; rintro e w1 ⟨rfl, rfl⟩)
  go_ret
  exact ⟨rfl, 0, _, hd2.out⟩
/-- OrderedGroups' function. -/
theorem gorder_any (A : Option Addr) (n c : Nat) (ps : List PN) (gn : Nat) (x y : Gd) (w : World) (hps : Nps w A n ps) (hf : FineT ps) (hcap : w.cell? ⟨gn, 0, none⟩ = some (.slice A n c)) :
    Calls prog 126 #[.agg #[.slice x.adr x.cnt x.cap, .int .i64 x.mem], .agg #[.slice y.adr y.cnt y.cap, .int .i64 y.mem], .pointer (some ⟨gn, 0, none⟩)] w fun e w' => e = .returned (.int .i64 (cmpS (keyV ps x.mem) (keyV ps y.mem))) ∧ ∃ q os, w' = grow (w.drewN q) os := by
  have mixed : prog.follows .mixedOrders = true := by kernel_rfl
  have hgn := block_of_cell hcap
  have K1 := (Blk.new w 106 #[.slice x.adr x.cnt x.cap, .int .i64 x.mem]).alloc (.cells #[.slice y.adr y.cnt y.cap, .int .i64 y.mem] 106)
  have K2 := Blk.new (w.alloc (.cells #[.slice x.adr x.cnt x.cap, .int .i64 x.mem] 106)) 106 #[.slice y.adr y.cnt y.cap, .int .i64 y.mem]
  have hb0 : Below w.heap.size w ((w.alloc (.cells #[.slice x.adr x.cnt x.cap, .int .i64 x.mem] 106)).alloc (.cells #[.slice y.adr y.cnt y.cap, .int .i64 y.mem] 106)) := grow_
  have HG0 := hid (grow2 w (.cells #[.slice x.adr x.cnt x.cap, .int .i64 x.mem] 106) (.cells #[.slice y.adr y.cnt y.cap, .int .i64 y.mem] 106))
  have hp2 := hps.next hb0
  have hc2 := ((bcell hb0).1 _ _ hgn).trans hcap
  have hgn2 := Nat.lt_of_lt_of_le hgn hb0.size
  have k0 := K1.cell 0
  have k1 := K1.cell 1
  have j0 := K2.cell 0
  have j1 := K2.cell 1
  have kz := K1.lt
  have jz : w.heap.size + 1 < ((w.alloc (.cells #[.slice x.adr x.cnt x.cap, .int .i64 x.mem] 106)).alloc (.cells #[.slice y.adr y.cnt y.cap, .int .i64 y.mem] 106)).heap.size := by simp
  simp only [List.getElem?_toArray, List.getElem?_cons_zero, List.getElem?_cons_succ, World.size_alloc] at k0 k1 j0 j1
  obtain ⟨kx, hkx⟩ : ∃ t, keyV ps x.mem = t := ⟨_, rfl⟩
  obtain ⟨ky, hky⟩ : ∃ t, keyV ps y.mem = t := ⟨_, rfl⟩
  rw [hkx, hky]
  clear K1 K2 hb0 hcap hgn
  go_enter func126, ntmps126
  go_upto_region 1 with fail
  generalize (w.alloc (.cells #[.slice x.adr x.cnt x.cap, .int .i64 x.mem] 106)).alloc (.cells #[.slice y.adr y.cnt y.cap, .int .i64 y.mem] 106) = W at *
  have f0 := fun n os => cell_grown (by exact kz) k0 n os
  have f1 := fun n os => cell_grown (by exact kz) k1 n os
  have f2 := fun n os => cell_grown (by exact jz) j0 n os
  have f3 := fun n os => cell_grown (by exact jz) j1 n os
  have f4 := fun n os => cell_grown (by exact hgn2) hc2 n os
  have HX := hid (fun (q : Nat) (os : Array Obj) => show Calls prog 128 #[.slice A n c, .agg #[.slice x.adr x.cnt x.cap, .int .i64 x.mem]] (grow (W.drewN q) os) fun e w' => e = .returned (.string kx) ∧ ∃ q2 os', w' = grow ((grow (W.drewN q) os).drewN q2) os' by rw [← hkx]; exact groupKey_any A n c ps _ _ _ _ _ (hp2.next (Go.Lib.below_grow W.heap.size W (Nat.le_refl _) q os)) hf)
  have HY := hid (fun (q : Nat) (os : Array Obj) => show Calls prog 128 #[.slice A n c, .agg #[.slice y.adr y.cnt y.cap, .int .i64 y.mem]] (grow (W.drewN q) os) fun e w' => e = .returned (.string ky) ∧ ∃ q2 os', w' = grow ((grow (W.drewN q) os).drewN q2) os' by rw [← hky]; exact groupKey_any A n c ps _ _ _ _ _ (hp2.next (Go.Lib.below_grow W.heap.size W (Nat.le_refl _) q os)) hf)
  have HCM := hid (fun (q : Nat) (os : Array Obj) => show Calls prog 127 #[.string kx, .string ky] (grow (W.drewN q) os) fun e w' => e = .returned (.int .i64 (cmpS kx ky)) ∧ ∃ q2 os', w' = grow ((grow (W.drewN q) os).drewN q2) os' from (compareS_any kx ky (grow (W.drewN q) os)).mono fun e w' h => ⟨h.1, 0, #[], by rw [h.2, grow_empty]; rfl⟩)
  have HX2 := hid (fun (q : Nat) (os : Array Obj) => Calls.grown_of (HX.out q os))
  have HY2 := hid (fun (q : Nat) (os : Array Obj) => Calls.grown_of (HY.out q os))
  have HC2 := hid (fun (q : Nat) (os : Array Obj) => Calls.grown_of (HCM.out q os))
  clear HX HY HCM k0 k1 j0 j1 hc2 hp2
  go_quiet_grown (first | (go_at_call 128; with_reducible exact (HX2.out _ _)) | (go_at_call 128; with_reducible exact (HY2.out _ _)) | (go_at_call 127; with_reducible exact (HC2.out _ _)))
  go_wp2
  go_ret
  refine ⟨rfl, ?_⟩
  rw [HG0.out]
  exact ⟨nq, _, (show grow (grow (w.drewN nq) _) osq = _ from grow_grow _ _ _)⟩
open Go.Sort Go.RowKit Go.Shelf Go.Lib
instance instGd : Inhabited Gd := ⟨⟨none, 0, 0, [], 0⟩⟩
abbrev GdT := Gd × Nat
def encG (x : GdT) : List Value := grpCells x.1
theorem encG_len (x : GdT) : (encG x).length = 2 := rfl
def ltG (ps : List PN) (x y : Gd) : Bool := lessB (keyV ps x.mem) (keyV ps y.mem)
def cfG (ps : List PN) (x y : GdT) : Int := cmpS (keyV ps x.1.mem) (keyV ps y.1.mem)
theorem ltG_swo (ps : List PN) : SWO (ltG ps) := ⟨fun x => lessB_swo.irrefl _, fun x y z => lessB_swo.trans _ _ _, fun x y z => lessB_swo.ntrans _ _ _⟩
theorem get_flat2 (d : Array GdT) (t : Nat) (ht : t < d.size * 2) : (d.toList.flatMap encG)[t]? = some (flatK encG 2 d)[t]! := by
 rw [get_flatK _ _ _ _ ht]
 have hi : t / 2 < d.size := by omega
 have hd : d.toList[t / 2]? = some d[t / 2]! := by
  rw [List.getElem?_eq_getElem (by simpa using hi), getElem!_pos d _ hi]; simp
 have hv : (encG d[t / 2]!)[HMod.hMod t 2]? = some (encG d[t / 2]!)[HMod.hMod t 2]! := by
  have h3 : HMod.hMod t 2 < (encG d[t / 2]!).length := by rw [encG_len]; omega
  rw [List.getElem?_eq_getElem h3, getElem!_pos (encG d[t / 2]!) (HMod.hMod t 2) h3]
 have := flat_get encG encG_len hd hv
 rwa [show t / 2 * 2 + HMod.hMod t 2 = t by omega] at this
theorem flatK_listG (d : Array GdT) : (flatK encG 2 d).toList = d.toList.flatMap encG := by
 refine List.ext_getElem? (fun t => ?_)
 by_cases ht : t < d.size * 2
 ·rw [get_flat2 d t ht, List.getElem?_eq_getElem (by simpa using ht), getElem!_pos _ _ (by simpa using ht)]; simp
 ·rw [List.getElem?_eq_none (by simp; omega), List.getElem?_eq_none (by rw [flat_len encG encG_len]; simp; omega)]
theorem taggedG_flat (l : List Gd) : (tagged l).toList.flatMap encG = l.flatMap grpCells := by
 unfold tagged
 show l.zipIdx.flatMap encG = _
 have key : ∀ (l : List Gd) (k : Nat), (l.zipIdx k).flatMap encG = l.flatMap grpCells := by
  intro l
  induction l with
  | nil => intro k; rfl
  | cons x l ih => intro k; rw [List.zipIdx_cons, List.flatMap_cons, List.flatMap_cons, ih]; rfl
 exact key l 0
theorem putG_mine {w : World} {B g n c : Nat} {q : Nat} {os : Array Obj} {xs : List Value} (m : Mine w B 106 2 (some ⟨g, 0, none⟩) n c xs) (F : Array Value) (hF : F.size = n * 2) :
  Mine (grow (putRow id (Sort.ahead w q) g 0 F) os) B 106 2 (some ⟨g, 0, none⟩) n c F.toList ∧ w.grownBy (grow (putRow id (Sort.ahead w q) g 0 F) os) (some g) := by
 have hl := m.len
 rcases m.own with ⟨h1, _⟩ | ⟨g', h1, hB, hn, hc, rest, hb, hs⟩
 ·cases h1
 ·injection h1 with h1; injection h1 with h1; subst h1
  have hg := hb.lt
  constructor
  ·refine Mine.mk_own ⟨rest, ?_, ?_⟩ (by simpa using hF) hB hn hc
   ·unfold Blk at hb ⊢
    rw [heap_grow_old _ _ (by simpa using hg)]
    have e : (putRow id (Sort.ahead w q) g 0 F).heap[g]? = some (.cells (putCells id 0 F (xs ++ rest).toArray) 106 (0, 0)) := by
     simp [putRow, mapBlock, Sort.ahead, Array.getElem?_modify, hb, onCells]
    rw [e]
    have hcells : putCells id 0 F (xs ++ rest).toArray = (F.toList ++ rest).toArray := by
     apply Array.ext_getElem?
     intro k
     by_cases hk : k < n * 2
     ·have hk2 : k < (xs ++ rest).length := by rw [lA, hl]; omega
      have hk3 : k < (F.toList ++ rest).length := by rw [lA]; simp [hF]; omega
      simp only [putCells, Array.getElem?_mapIdx, List.getElem?_toArray, List.getElem?_eq_getElem hk2, List.getElem?_eq_getElem hk3, Option.map_some]
      rw [if_pos ⟨by omega, by omega⟩, Nat.sub_zero, getElem!_pos F k (by omega), List.getElem_append_left (by simp [hF]; exact hk)]
      simp
     ·simp only [putCells, Array.getElem?_mapIdx, List.getElem?_toArray]
      rw [List.getElem?_append_right (by omega), List.getElem?_append_right (by simp [hF]; omega), hl]
      simp only [Array.length_toList, hF]
      cases rest[k - n * 2]? with
      | none => rfl
      | some v => rw [Option.map_some, if_neg (by omega)]
    rw [hcells]
   ·rw [lA, hl] at hs
    simp [hF]; exact hs
  ·refine ⟨rfl, rfl, rfl, by simp, fun k hk hne => ?_⟩
   rw [heap_grow_old _ _ (by simpa using hk)]
   have : g ≠ k := fun e => hne (by rw [e])
   simp [putRow, mapBlock, Sort.ahead, Array.getElem?_modify, this]
theorem mineG_holds {w : World} {B g n c : Nat} {l : List Gd} (m : Mine w B 106 2 (some ⟨g, 0, none⟩) n c (l.flatMap grpCells)) : HoldsK encG 2 w g 0 (tagged l) := by
 have hl := m.len
 rcases m.own with ⟨h1, _⟩ | ⟨g', h1, hB, hn, hc, rest, hb, hs⟩
 ·cases h1
 ·injection h1 with h1; injection h1 with h1; subst h1
  intro j hj
  rw [size_flatK] at hj
  refine ⟨?_, hb.frozen _⟩
  rw [hb.cell, Nat.zero_add, List.getElem?_toArray]
  have h2 := get_flat2 (tagged l) j hj
  rw [taggedG_flat] at h2
  have h3 : j < (l.flatMap grpCells).length := (List.getElem?_eq_some_iff.1 h2).1
  rw [List.getElem?_append_left h3, h2]; rfl
def layG_ren : Go.Shelf.Ren := ⟨fun | 20 => 201 | n => n, fun | 22 => 103 | 24 => 106 | 25 => 150 | n => n, fun n => n⟩
theorem layG : SlLaysF0.n20 prog layG_ren := {
 mixed := by kernel_rfl
 f20 := ⟨Tryz.f201.name, by kernel_rfl, func201.trans (congrArg some (by kernel_rfl))⟩
 t0 := underlying0
 a0 := Tryz.isAgg0
 z0 := Tryz.sizeOf0
 v0 := Tryz.zeroValue0
 t3 := underlying3
 a3 := Tryz.isAgg3
 z3 := Tryz.sizeOf3
 v3 := Tryz.zeroValue3
 t4 := underlying4
 a4 := Tryz.isAgg4
 z4 := Tryz.sizeOf4
 v4 := Tryz.zeroValue4
 t22 := underlying103
 a22 := Tryz.isAgg103
 z22 := Tryz.sizeOf103
 v22 := Tryz.zeroValue103
 t25 := underlying150
 a25 := Tryz.isAgg150
 z25 := Tryz.sizeOf150
 v25 := Tryz.zeroValue150 }
theorem stableF_few {α : Type} [Inhabited α] (lt : α → α → Bool) (d : Array α) (h : d.size < 20) : stableF lt d = insertionSort lt d 0 d.size := by
 unfold stableF
 rw [insBF, if_neg (by omega), stF, if_neg (by omega)]
theorem gstable_of (A : Option Addr) (n c : Nat) (fv : Value) (w : World) (hn : n ≤ 13) (Q : Ending → World → Prop) (hQ : ∀ e w', Q e w' → e = .returned (.tuple #[]))
  (h : Calls prog 201 #[.slice A n c, .int .i64 0, .int .i64 (n : Int), fv] w Q) :
  Calls prog 125 #[.slice A n c, fv] w Q := by
 have HH := hid h
 have HQ := hid hQ
 clear h hQ
 have HS := hid (show Calls prog 165 #[.slice A n c, .int .i64 (n : Int), fv] w Q by
  go_enter func165, ntmps165
  go_wp2
  go_loopw [7, 8] (fun a b wr => a = .int .i64 0 ∧ b = .int .i64 20 ∧ wr = w) (fun _ i _ => 0)
  case atStart => exact ⟨rfl, rfl, rfl⟩
  case round =>
   obtain ⟨rfl, rfl, rfl⟩ := hrel
   go_wp2_with (go_at_call 201; refine HH.out.mono ?_; rintro e w1 hq; have hqe := HQ.out _ _ hq; subst hqe; have HQQ := hid hq; clear hq)
   go_loopw [6] (fun a wr2 => a = .int .i64 20 ∧ Hid (Q (.returned (.tuple #[])) wr2)) (fun _ _ => 0)
   case atStart => exact ⟨rfl, HQQ⟩
   case round =>
    obtain ⟨rfl, HQ2⟩ := hrel
    go_wp2
    go_end0
    exact HQ2.out)
 go_enter func125, ntmps125
 go_wp2_with (go_at_call 165; refine HS.out.mono ?_; rintro e w1 hq; have hqe := HQ.out _ _ hq; subst hqe; have HQQ := hid hq; clear hq)
 go_end0
 exact HQQ.out
theorem insertionG_zero (A : Option Addr) (c : Nat) (fv : Value) (w : World) : Calls prog 201 #[.slice A 0 c, .int .i64 0, .int .i64 0, fv] w fun e w' => e = .returned (.tuple #[]) ∧ w = w' := by
 go_enter func201, ntmps201
 go_wp2
 go_loopw [8] (fun i wr => i = .int .i64 1 ∧ wr = w) (fun i _ => 0)
 case atStart => exact ⟨by go_num, rfl⟩
 case round =>
  obtain ⟨rfl, rfl⟩ := hrel
  go_wp2
  go_end0
  exact ⟨rfl, rfl⟩
def SortG (ps : List PN) (A : Option Addr) (n c B : Nat) (l : List Gd) (w : World) (e : Ending) (w' : World) : Prop := e = .returned (.tuple #[]) ∧ Mine w' B 106 2 A n c ((insAll (ltG ps) l).flatMap grpCells) ∧ w.grownBy w' (A.map (·.block))
theorem gsort_any (A0 : Option Addr) (n0 c0 : Nat) (ps : List PN) (gn : Nat) (w0 : World) (hps : Nps w0 A0 n0 ps) (hf : FineT ps) (hcap : w0.cell? ⟨gn, 0, none⟩ = some (.slice A0 n0 c0))
  (A : Option Addr) (n c B : Nat) (l : List Gd) (w : World) (hw : Below w0.heap.size w0 w) (hB0 : w0.heap.size ≤ B) (hn : n ≤ 13) (hl : l.length = n) (m : Mine w B 106 2 A n c (l.flatMap grpCells)) :
  Calls prog 125 #[.slice A n c, .func (.func 126) #[] #[.pointer (some ⟨gn, 0, none⟩)]] w (SortG ps A n c B l w) := by
 refine gstable_of A n c _ w hn _ (fun e w' h => h.1) ?_
 by_cases h0 : n = 0
 ·subst h0
  have e : l = [] := List.eq_nil_of_length_eq_zero hl
  subst e
  refine (insertionG_zero A c _ w).mono ?_
  rintro e w' ⟨rfl, rfl⟩
  exact ⟨rfl, m, ⟨rfl, rfl, rfl, Nat.le_refl _, fun k _ _ => rfl⟩⟩
 ·rcases m.own with ⟨_, h, _⟩ | ⟨g, rfl, hB, hnc, hc, ho⟩
  ·omega
  ·have hz : (tagged l).size = n := by unfold tagged; simp [hl]
   have hH := mineG_holds m
   have hO : SWO (ltOf (cfG ps)) := by
    have e : ltOf (cfG ps) = fun x y : GdT => ltG ps x.1 y.1 := by funext x y; exact cmpS_lt _ _
    rw [e]
    exact ⟨fun x => (ltG_swo ps).irrefl _, fun x y z => (ltG_swo ps).trans _ _ _, fun x y z => (ltG_swo ps).ntrans _ _ _⟩
   have hlt : ltOf (cfG ps) = fun x y : GdT => ltG ps x.1 y.1 := by funext x y; exact cmpS_lt _ _
   have eg : ∀ args w, (callFunc 126 args).run prog w = .ok (.enter 126 args) w := enters_of func126 (by kernel_rfl) rfl
   have hcmp : CmpLays prog 126 #[.pointer (some ⟨gn, 0, none⟩)] encG 2 (cfG ps) g 0 (tagged l).size w := fun q os dk hdk x y => by
    have hgr : w.grownBy (sortWorldK encG 2 w g 0 q dk os) (some g) := (putG_mine (q := q) (os := os) m (flatK encG 2 dk) (by rw [size_flatK, hdk, hz])).2
    have hbw : Below w0.heap.size w0 (sortWorldK encG 2 w g 0 q dk os) := below_turned hw hgr (fun k e => by injection e with e; omega)
    exact gorder_any A0 n0 c0 ps gn x.1 y.1 _ (hps.next hbw) hf (((bcell hbw).1 _ _ (block_of_cell hcap)).trans hcap)
   have R : RowK encG 2 w g 0 (tagged l) := ⟨encG_len, fun x v hv => gp_one x.1 v hv, hH, ho.lt⟩
   have hst := AnyQ.insertionSortCmpFunc layG 2 Tryz.isAgg106 Tryz.sizeOf106 encG R.hk R.h1 (cfG ps) 126 #[.pointer (some ⟨gn, 0, none⟩)] g 0 c 0 n (tagged l) w eg hcmp hH ho.lt (Nat.zero_le _) (by omega) (by omega)
   rw [hz] at hst
   refine Calls.mono hst ?_
   rintro e w' ⟨rfl, q, os, rfl⟩
   have hfin := stable_ins (ltG ps) (ltG_swo ps) l
   rw [stableF_few _ _ (by omega), hz] at hfin
   rw [hlt]
   have hsz : (insertionSort (fun x y : GdT => ltG ps x.1 y.1) (tagged l) 0 n).size = n := by
    rw [← hlt, (insertionSort_holds hO (tagged l) 0 n (Nat.zero_le _) (by omega)).1.1, hz]
   obtain ⟨p1, p2⟩ := putG_mine (q := q) (os := os) m (flatK encG 2 (insertionSort (fun x y : GdT => ltG ps x.1 y.1) (tagged l) 0 n)) (by rw [size_flatK, hsz])
   rw [flatK_listG] at p1
   have e : (insertionSort (fun x y : GdT => ltG ps x.1 y.1) (tagged l) 0 n).toList.flatMap encG = (insAll (ltG ps) l).flatMap grpCells := by
    rw [← hfin, List.flatMap_map]
    rfl
   rw [e] at p1
   exact ⟨rfl, p1, p2⟩
theorem Grps.sorted {w w' : World} {B n c : Nat} {A : Option Addr} {l l' : List Gd} (h : Grps w B A n c l) (hp : l'.Perm l) (hm : Mine w' B 106 2 A n c (l'.flatMap grpCells)) (hg : w.grownBy w' (A.map (·.block))) : Grps w' B A n c l' := by
 refine ⟨by rw [hp.length_eq]; exact h.len, hm, fun d hd => (h.notes d (hp.mem_iff.1 hd)).grown hg (fun g e => .inr (fun e' => ?_))⟩
 obtain ⟨cs1, b1⟩ := mine_blk' h.row e
 obtain ⟨cs2, b2⟩ := mine_blk' (h.notes d (hp.mem_iff.1 hd)) e'
 exact blk_ne b1 b2 (by decide) rfl
theorem groupsV_len {ps : List PN} {m : Nat} (hF : TreeF ps m) : (groupsV ps m).length ≤ 13 := by
 obtain ⟨x, hx, _⟩ := hF.root
 have h1 := groupsG_len (ps := ps) (ndAt ps m).kids [] []
 have h2 := (hF.tree.good m x hx).1
 rw [ndAt_of hx] at h1
 unfold groupsV
 rw [ndAt_of hx]
 simp only [List.length_nil, if_true] at h1
 omega
theorem ordV_of {ps : List PN} {m : Nat} {l : List Gd} (h : l.map Gd.gp = groupsV ps m) : (insAll (ltG ps) l).map Gd.gp = ordV lessB ps m := by
 unfold ordV insAll
 rw [← h]
 exact insAll_map (lt := ltG ps) (lt' := fun x y : Grp => lessB (keyV ps x.2) (keyV ps y.2)) Gd.gp (fun x y => rfl) l []
theorem ins_perm (ps : List PN) (l : List Gd) : (insAll (ltG ps) l).Perm l := by
 have := insAll_perm (ltG ps) l []
 rwa [List.nil_append] at this
theorem implOrdGroups_any (A : Option Addr) (n c : Nat) (ps : List PN) (m : Nat) (hF : TreeF ps m) (ht : treeB ps = true) (w : World) (hf : FineT ps) (hps : Nps w A n ps) :
  Calls prog 80 #[.slice A n c] w (GrpsR w (ordV lessB ps m)) := by
 have hb0 : Below w.heap.size w (w.alloc (.cells #[.slice A n c] 26)) := grow_
 have K := Blk.new w 26 #[.slice A n c]
 have k0 := K.q0
 have kz := K.lt
 have hp0 := hps.next hb0
 have HG := hid (implGroups_any A n c ps m hF ht _ hf hp0)
 have hlen := groupsV_len hF
 have HB0 := hid hb0
 have HS := hid (fun (AG : Option Addr) (ng cg B : Nat) (l : List Gd) (W : World) hW hB hn hl hm => gsort_any A n c ps w.heap.size _ hp0 hf k0 AG ng cg B l W hW hB hn hl hm)
 have HO := hid (fun (l : List Gd) h => ordV_of (ps := ps) (m := m) (l := l) h)
 have HPM := hid (ins_perm ps)
 clear hps hp0 hf ht hF hb0
 go_enter func80, ntmps80
 go_wp2_with fail
 refine HG.out.mono ?_
 rintro e w1 ⟨AG, ng, cg, l, rfl, hgr, hgp, hb1⟩
 have hl := hgr.len
 have hn13 : ng ≤ 13 := by rw [← hl]; have := congrArg List.length hgp; rw [List.length_map] at this; omega
 have HSS := hid (HS.out AG ng cg _ l w1 hb1 (Nat.le_refl _) hn13 hl hgr.row)
 have K1 := K.next hb1
 have HGR := hid hgr
 have HOO := hid (HO.out l hgp)
 have HB1 := hid hb1
 clear k0 kz K hgr hgp hb1 hl
 have k0 := K1.q0
 have kz := K1.lt
 clear K1
 go_wp2_with fail
 refine HSS.out.mono ?_
 rintro e w2 ⟨rfl, hm2, hg2⟩
 have hG2 := HGR.out.sorted (HPM.out l) hm2 hg2
 have hB2 : Below w.heap.size w w2 := below_turned (below_next HB0.out HB1.out) hg2 (fun g e => by have h1 := (Mine.blk HGR.out.row e).1; have h2 := HB0.out.size; omega)
 have HF := hid (show GrpsR w (ordV lessB ps m) (.returned (.slice AG ng cg)) w2 from ⟨AG, ng, cg, _, rfl, ⟨hG2.len, hG2.row.more HB0.out.size, fun d hd => (hG2.notes d hd).more HB0.out.size⟩, HOO.out, hB2⟩)
 clear k0 kz hm2 hg2 hG2 hB2
 go_wp2
 go_ret
 exact HF.out
structure NRw (w : World) (B hi : Nat) (A : Option Addr) (n c : Nat) (l : List Nd) : Prop where
 len : l.length = n
 row : Mine w B 48 4 A n c (l.flatMap nodeCells)
 kid : ∀ d ∈ l, KidR w B hi d
section
variable {w w' : World} {B hi n c : Nat} {A : Option Addr} {l : List Nd}
theorem NR.nrw (h : NR w B hi A n c l) : NRw w B hi A n c l := ⟨h.len, h.row, h.kid⟩
theorem NRw.more (h : NRw w B hi A n c l) {B' hi' : Nat} (h1 : B' ≤ B) (h2 : hi ≤ hi') : NRw w B' hi' A n c l :=
 ⟨h.len, h.row.more h1, fun d hd => ⟨(h.kid d hd).1, (h.kid d hd).2.1.more h1, fun g hg => Nat.lt_of_lt_of_le ((h.kid d hd).2.2 g hg) h2⟩⟩
theorem NRw.nps (h : NRw w B hi A n c l) : Nps w A n (l.map Nd.pn) := ⟨l, ⟨h.len, h.row.rd, fun d hd => (h.kid d hd).rd⟩, fun d hd => (h.kid d hd).1, rfl⟩
theorem NRw.put {a b : List Nd} {d d' : Nd} {g o : Nat} (h : NRw w B hi A n c (a ++ d :: b)) (hA : A = some ⟨g, o, none⟩) {i : Nat} {v : Value} {f : Nat} (hi2 : i = a.length * 4 + f) (hf : f < 4) (hc : nodeCells d' = (nodeCells d).set f v)
  (hk : KidR w B hi d') : NRw (w.setCell ⟨g, i, none⟩ v) B hi A n c (a ++ d' :: b) := by
 subst hi2
 obtain ⟨ty, cs, hB⟩ : ∃ ty cs, Blk w g ty cs ∧ ty = 48 := by
  rcases h.row.own with ⟨e, _⟩ | ⟨g', e, _, _, _, rest, hb, _⟩
  ·rw [hA] at e; cases e
  ·rw [hA] at e; injection e with e; injection e with e; subst e; exact ⟨_, _, hb, rfl⟩
 have hll : (a ++ d' :: b).length = n := by rw [← h.len]; simp
 have hkid : ∀ x, KidR w B hi x → KidR (w.setCell ⟨g, a.length * 4 + f, none⟩ v) B hi x := fun x hx => ⟨hx.1, mine_set hx.2.1 hB.1 (by rw [hB.2]; decide) _ _, hx.2.2⟩
 refine ⟨hll, ?_, fun x hx => ?_⟩
 ·rcases h.row.own with ⟨e, _⟩ | ⟨g', e, h1, h2, h3, ho⟩
  ·rw [hA] at e; cases e
  ·have e2 := e
   rw [hA] at e; injection e with e; injection e with e1 e3 e4; subst e1
   rw [e2]
   refine Mine.mk_own ?_ (by rw [flat_len nodeCells nodeCells_len, hll]) h1 h2 h3
   rw [← flat_put a b d d' f v hf hc]
   exact ho.set (by rw [flat_len nodeCells nodeCells_len]; simp; omega) v
 ·rcases List.mem_append.1 hx with hx | hx
  ·exact hkid x (h.kid x (by simp [hx]))
  ·rcases List.mem_cons.1 hx with rfl | hx
   ·exact hkid _ hk
   ·exact hkid x (h.kid x (by simp [hx]))
end
theorem modify_mid {α : Type} (f : α → α) (a : List α) (x : α) (b : List α) : (a ++ x :: b).modify a.length f = a ++ f x :: b := by
 induction a with
 | nil => rfl
 | cons y a ih => rw [List.cons_append, List.length_cons, List.modify_succ_cons, ih, List.cons_append]
theorem split_at {α : Type} {l : List α} {k : Nat} {x : α} (h : l[k]? = some x) : ∃ a b, l = a ++ x :: b ∧ a.length = k := by
 obtain ⟨hlt, he⟩ := List.getElem?_eq_some_iff.1 h
 refine ⟨l.take k, l.drop (k + 1), ?_, by rw [List.length_take]; omega⟩
 rw [← he, ← List.drop_eq_getElem_cons hlt, List.take_append_drop]
theorem Grps.at_ {w : World} {B n c : Nat} {A : Option Addr} {l : List Gd} (h : Grps w B A n c l) {j : Nat} {d : Gd} (hj : j < n) (hd : l[j]? = some d) :
  ∃ b off, A = some ⟨b, off, none⟩ ∧ b < w.heap.size ∧ w.cell? ⟨b, off + j * 2, none⟩ = some (.slice d.adr d.cnt d.cap) ∧ w.cell? ⟨b, off + j * 2 + 1, none⟩ = some (.int .i64 d.mem) := by
 obtain ⟨b, off, e, hb, hc⟩ := h.row.rd.at_ (by omega)
 exact ⟨b, off, e, hb, hc _ _ (flat_get grpCells grpCells_len hd (j := 0) rfl), hc _ _ (flat_get grpCells grpCells_len hd (j := 1) rfl)⟩
theorem implOrdered_any (A : Option Addr) (n c : Nat) (ps : List PN) (w : World) (hf : FineT ps) (hps : Nps w A n ps) :
    Calls prog 35 #[.slice A n c] w (Made w (orderedV lessB ps)) := by
  have hl := hps.len
  have hn : n ≤ 1048576 := by rw [← hl]; exact hf.2
  have HT := hid (implTreeOk_any A n c ps w hn hps hf.1)
  have HC := hid (fun W (hW : Below w.heap.size w W) => implCopy_any A n c ps W hn (hps.next hW) hf.1)
  unfold orderedV
  cases ht : treeB ps with
  | false =>
    rw [if_neg (by decide)]
    rw [ht] at HT
    clear hps hf
    go_enter func35, ntmps35
    go_wp2_with fail
    refine HT.out.mono ?_
    rintro e w1 ⟨rfl, h1⟩
    go_wp2_with fail
    refine (HC.out _ h1).mono ?_
    rintro e w2 ⟨A3, n3, c3, l3, rfl, hN, hE, hB⟩
    have HN := hid (hN.more h1.size (Nat.le_refl _))
    have HE := hid hE
    have HB := hid (below_next h1 hB)
    clear hN hE hB h1
    go_wp2
    go_ret
    exact ⟨A3, n3, c3, l3, rfl, HN.out, HE.out, HB.out⟩
  | true =>
    rw [if_pos rfl]
    rw [ht] at HT
    obtain ⟨m, hF⟩ := treeF ht
    have hlm := hF.tree.len
    obtain rfl : n = m + 1 := by omega
    rw [show ps.length - 1 = m by omega]
    have hm300 := hF.few
    have HOG := hid (fun W (hW : Below w.heap.size w W) => implOrdGroups_any A (m + 1) c ps m hF ht W hf (hps.next hW))
    obtain ⟨x, hx, _⟩ := hF.root
    have hKp := ordK_perm lessB hF.tree hx
    have hKO := ordK_ok lessB hF.tree hx
    have hTr := oldP_tree hF.tree hx hKp
    have hKe : (ordV lessB ps m).flatMap grpKids = ordK lessB ps m := rfl
    have HV := hid (visV_root hTr.good hTr.len hTr.used)
    obtain ⟨K, hK⟩ : ∃ K, ordK lessB ps m = K := ⟨_, rfl⟩
    rw [hK] at hKp hKO hTr hKe HV ⊢
    have hOL : (ordV lessB ps m).length ≤ 13 := by
      have h1 := insAll_perm (fun x y : Grp => lessB (keyV ps x.2) (keyV ps y.2)) (groupsV ps m) []
      rw [List.nil_append] at h1
      have h2 := h1.length_eq
      have h3 := groupsV_len hF
      unfold ordV insAll
      omega
    obtain ⟨OV, hOV⟩ : ∃ OV, ordV lessB ps m = OV := ⟨_, rfl⟩
    rw [hOV] at hKe HOG hOL
    have HK12 := hid hKO.few
    have HKLT := hid hKO.lt
    have HGD := hid hTr.good
    have HKE := hid hKe
    have HNM := hid (fun (Ao : Option Addr) (co : Nat) W (hW : Nps W Ao (m + 1) (oldP ps m K)) => mkNodeOr_any Ao (m + 1) co (oldP ps m K) W.heap.size W hW hTr.good idW (idW_fits hTr.good) (fun _ => rfl) (hid (cloOr_any (oldP ps m K) hTr.good W)) m (by omega) (fun _ => False) 0 none 0 [] _ (MkC.start 114 (mkCs (.slice Ao (m + 1) co) (.func (.func 81) #[] #[])) W (fun q v v' => rfl) (by decide) (by decide)) (by have := HV.out; simp only [List.length_nil]; omega))
    have HX := hid hx
    clear hps hf hF ht hx hKp hKO hTr hKe hK hOV
    obtain ⟨j0, hj0, hy0, hy1, hy2⟩ := info_parts infoInt
    have HJ := hid (And.intro hj0 (And.intro hy0 (And.intro hy1 hy2)))
    clear hj0 hy0 hy1 hy2
    go_enter func35, ntmps35
    go_wp2_with fail
    refine HT.out.mono ?_
    rintro e w1 ⟨rfl, h1⟩
    have HB1 := hid h1
    clear h1
    go_wp2_with fail
    refine (HC.out _ HB1.out).mono ?_
    rintro e w2 ⟨Ao, no, co, lo, rfl, hno, hpo, hb2⟩
    obtain rfl : no = m + 1 := by rw [← hno.len, ← hlm, ← hpo, List.length_map]
    have HB2 := hid (below_next HB1.out hb2)
    have HB12 := hid hb2
    have HNO := hid hno
    have HPO := hid hpo
    clear hno hpo hb2
    go_wp2_with fail
    refine (HOG.out _ HB2.out).mono ?_
    rintro e w3 ⟨AG, ng, cg, lg, rfl, hgr, hgp, hb3⟩
    have HGR := hid hgr
    have HGP := hid hgp
    have HGL := hid hgr.len
    have HB3 := hid (below_next HB2.out hb3)
    have HB23 := hid hb3
    have hng : ng ≤ 13 := by rw [← hgr.len]; have := congrArg List.length hgp; rw [List.length_map] at this; omega
    clear hgr hgp hb3
    go_wp2
    go_loopw [5, 22] (fun s5 s22 wr => ∃ (j : Nat) (AK : Option Addr) (cK : Nat) (ks : List Int) (nk : Nat), j ≤ ng ∧ s22 = .int .i64 j ∧ s5 = .slice AK nk cK ∧ Hid (ks.length = nk) ∧ Hid (ks ++ ((lg.map Gd.gp).drop j).flatMap grpKids = K) ∧ Hid (Mine wr w3.heap.size 3 1 AK nk cK (intCells ks)) ∧ Hid (Below w3.heap.size w3 wr)) (fun _ i _ => ng - (intOf i).toNat)
    case atStart => exact ⟨0, none, 0, [], 0, Nat.zero_le _, rfl, rfl, (rfl : ([] : List Int).length = 0), hid (show [] ++ ((lg.map Gd.gp).drop 0).flatMap grpKids = K by rw [List.drop_zero, HGP.out, List.nil_append]; exact HKE.out), Mine.mk_nil _ _ _ _, hid (Below.refl _ _)⟩
    case round =>
      obtain ⟨j, AK, cK, ks, nk, hj, rfl, rfl, HKN, HE, HM, HB⟩ := hrel
      by_cases hjl : j < ng
      · obtain ⟨d, hd⟩ : ∃ d, lg[j]? = some d := ⟨_, gE (by have := HGL.out; omega)⟩
        have HGW := hid (HGR.out.next HB.out)
        
        obtain ⟨b5, off5, rfl, hblt5, d0, d1⟩ := HGW.out.at_ hjl hd
        have hmd := HGW.out.notes d (List.mem_of_getElem? hd)
        have HE2 := hid (show ks ++ (grpKids d.gp ++ ((lg.map Gd.gp).drop (j + 1)).flatMap grpKids) = K by
          have h1 := HE.out
          have h2 : (lg.map Gd.gp)[j]? = some d.gp := by rw [List.getElem?_map, hd]; rfl
          obtain ⟨hlt, he⟩ := List.getElem?_eq_some_iff.1 h2
          rw [List.drop_eq_getElem_cons hlt, he, List.flatMap_cons] at h1
          exact h1)
        have hlen : ks.length + (d.notes.length + (if 0 ≤ d.mem then [d.mem] else []).length) ≤ 12 := by
          have h1 := congrArg List.length HE2.out
          rw [lA, lA] at h1
          have h2 : (grpKids d.gp).length = d.notes.length + (if 0 ≤ d.mem then [d.mem] else []).length := by unfold grpKids Gd.gp; rw [lA]
          have h3 := HK12.out
          omega
        have hdl : d.notes.length = d.cnt := by have := hmd.len; simpa [intCells] using this
        have hb0 : Below wr.heap.size wr (wr.alloc (.cells #[.slice d.adr d.cnt d.cap, .int .i64 d.mem] 106)) := grow_
        have hmA := HM.out.next hb0
        have hmdA := (hmd.next hb0)
        have hK1 := HKN.out
        have HRD := hid hmdA.rd
        have hnone : d.adr = none → d.cnt = 0 ∧ d.cap = 0 := fun e => by
          rcases hmdA.own with ⟨_, e2, e3⟩ | ⟨g, e2, _⟩
          · exact ⟨e2, e3⟩
          · rw [e] at e2; cases e2
        have HNN := hid hnone
        have HMA := hid hmA
        have HBA := hid (below_next HB.out hb0)
        have K5 := Blk.new wr 106 #[.slice d.adr d.cnt d.cap, .int .i64 d.mem]
        have HK5 := hid K5
        have h1c : ∀ u ∈ intCells d.notes, u.oneCell' = true := fun u hu => by
          simp only [intCells, List.mem_map] at hu
          obtain ⟨z, _, rfl⟩ := hu
          rfl
        have H1C := hid h1c
        have hwz := HBA.out.size
        clear hd hmd hb0 hmA hmdA hnone HM HE h1c K5 HGW
        go_upto_region 10 with (at_builtin; refine wpList_append_rd rfl (.tmp 26) (.tmp 28) _ rfl w3.heap.size 3 j0 (.int .i64 0) 1 8 underlying37 HJ.out.1 HJ.out.2.1 HJ.out.2.2.1 HJ.out.2.2.2 rfl (by decide) (.slice AK nk cK) nk (intCells ks) rfl HMA.out d.adr d.cnt d.cap (intCells d.notes) rfl HRD.out HNN.out H1C.out (by unfold maxLen; omega) (by omega) (by exact hwz) ?_; intro v' w5 hown hg)
        obtain ⟨A5, c5, rfl, m5⟩ := Mine.of hown
        rw [ownBlk] at hg
        have HM5 := hid (show Mine w5 w3.heap.size 3 1 A5 (nk + d.cnt) c5 (intCells (ks ++ d.notes)) by rw [show intCells (ks ++ d.notes) = intCells ks ++ intCells d.notes by simp [intCells]]; exact m5)
        have HB5 := hid (below_turned HBA.out hg (fun g e => (Mine.blk HMA.out e).1))
        have K6 := HK5.out.grown hg (fun e => by
          obtain ⟨cs', b'⟩ := mine_blk' HMA.out e.symm
          exact blk_ne HK5.out b' (by decide) rfl)
        have k1 := K6.q1
        have kz := K6.lt
        clear hown hg m5 HK5 K6 HMA HBA HRD d0 d1 hwz
        by_cases hmem : 0 ≤ d.mem
        · rw [if_pos hmem, List.length_cons, List.length_nil] at hlen
          have HE3 := hid (show (ks ++ d.notes ++ [d.mem]) ++ ((lg.map Gd.gp).drop (j + 1)).flatMap grpKids = K by
            rw [← HE2.out]; unfold grpKids Gd.gp; simp only; rw [if_pos hmem, List.append_assoc, List.append_assoc, List.append_assoc])
          have hmz := hid (HM5.out.alloc (.cells #[.int .i64 d.mem] 3))
          clear HE2
          go_wp2_with (at_builtin; refine wpList_append_row _ rfl (.tmp 33) (.tmp 36) _ rfl w3.heap.size 3 j0 (.int .i64 0) 1 8 underlying37 HJ.out.1 HJ.out.2.1 HJ.out.2.2.1 HJ.out.2.2.2 rfl (by decide) (.slice A5 (nk + d.cnt) c5) (nk + d.cnt) (intCells (ks ++ d.notes)) rfl hmz.out ⟨w5.heap.size, 0, none⟩ 1 1 [.int .i64 d.mem] rfl rfl (int_new _ _ _) (int_one _) (by unfold maxLen; omega) (by omega) (by have h8 := HB5.out.size; simp; omega) ?_; intro v' w6 hown hg hwh)
          obtain ⟨A7, c7, rfl, m7⟩ := Mine.of hown
          rw [ownBlk] at hg
          rw [← ints_snoc] at m7
          have HM7 := hid m7
          have HB7 := hid (below_turned (HB5.out.alloc HB5.out.size _) hg (fun g e => (Mine.blk HM5.out e).1))
          clear hown hg hwh m7 k1 kz hmz
          go_wp2
          go_roundw
          case rel =>
           exact ⟨j + 1, A7, c7, ks ++ d.notes ++ [d.mem], nk + d.cnt + 1, by omega, by go_num, rfl, hid (show (ks ++ d.notes ++ [d.mem]).length = _ by rw [lA, lA, hdl, hK1]; rfl), HE3.out, HM7.out, HB7.out⟩
          case measure =>
           simp [intOf]; omega
        · have HE3 := hid (show (ks ++ d.notes) ++ ((lg.map Gd.gp).drop (j + 1)).flatMap grpKids = K by
            rw [← HE2.out]; unfold grpKids Gd.gp; simp only; rw [if_neg hmem, List.append_nil, List.append_assoc])
          have hmn : ¬ (0 : Int) ≤ d.mem := hmem
          clear HE2
          go_wp2
          clear k1 kz
          go_roundw
          case rel =>
           exact ⟨j + 1, A5, c5, ks ++ d.notes, nk + d.cnt, by omega, by go_num, rfl, hid (show (ks ++ d.notes).length = _ by rw [lA, hdl, hK1]), HE3.out, HM5.out, HB5.out⟩
          case measure =>
           simp [intOf]; omega
      · obtain rfl : j = ng := by omega
        have hKs : ks = K := by
          have h1 := HE.out
          rw [List.drop_of_length_le (by rw [List.length_map]; have := HGL.out; omega)] at h1
          simpa using h1
        subst hKs
        have hNW : NRw wr w1.heap.size wr.heap.size Ao (m + 1) co lo := ((HNO.out.next HB23.out).next HB.out).nrw.more (Nat.le_refl _) (Nat.le_trans HB23.out.size HB.out.size)
        have hlol : lo.length = m + 1 := HNO.out.len
        obtain ⟨d0, hd0⟩ : ∃ d, lo[m]? = some d := ⟨_, gE (by omega)⟩
        obtain ⟨go, rfl⟩ : ∃ go, Ao = some ⟨go, 0, none⟩ := by
          rcases hNW.row.own with ⟨_, e, _⟩ | ⟨g, e, _⟩
          · omega
          · exact ⟨g, e⟩
        have hgo : w1.heap.size ≤ go ∧ go < wr.heap.size := Mine.blk hNW.row (g := go) rfl
        have hgof : ∀ i, wr.frozen? ⟨go, i, none⟩ = false := by
          rcases hNW.row.own with ⟨e, _⟩ | ⟨g', e, _, _, _, ho⟩
          · cases e
          · injection e with e; injection e with e; subst e; exact ho.frozen
        obtain ⟨b7, off7, e7, _, z0, z1, z2, z3⟩ := (show Nds wr (some ⟨go, 0, none⟩) (m + 1) lo from ⟨hNW.len, hNW.row.rd, fun d hd => (hNW.kid d hd).rd⟩).at_ (show m < m + 1 by omega) hd0
        injection e7 with e7; injection e7 with e71 e72; subst e71; subst e72
        simp only [Nat.zero_add] at z0 z1 z2 z3
        obtain ⟨la, lb, hlo, hla⟩ := split_at hd0
        have hlb : lb = [] := List.eq_nil_of_length_eq_zero (by have := hlol; rw [hlo, lA, List.length_cons] at this; omega)
        subst hlb
        have hpa : ps = la.map Nd.pn ++ [d0.pn] := by rw [← HPO.out, hlo, List.map_append]; rfl
        rw [hlo] at hNW
        have hkr : KidR wr w1.heap.size wr.heap.size ⟨d0.kind, d0.text, AK, nk, cK, ks, d0.blank⟩ := ⟨HM.out.cap, HM.out.more (Nat.le_trans (Nat.le_trans (by have := HB12.out.size; exact this) HB23.out.size) (Nat.le_refl _)), fun g hg => (Mine.blk HM.out hg).2⟩
        have hN1 := hNW.put (d' := ⟨d0.kind, d0.text, AK, nk, cK, ks, d0.blank⟩) rfl (i := m * 4 + 2) (f := 2) (v := .slice AK nk cK) (by rw [hla]) (by omega) rfl hkr
        have hmod : (la ++ [(⟨d0.kind, d0.text, AK, nk, cK, ks, d0.blank⟩ : Nd)]).map Nd.pn = ps.modify m (fun x => ⟨x.kind, x.text, ks, x.blank⟩) := by
          have h1 := modify_last (fun x : PN => (⟨x.kind, x.text, ks, x.blank⟩ : PN)) d0.pn (la.map Nd.pn)
          rw [List.length_map, hla] at h1
          rw [hpa, h1, List.map_append]; rfl
        have hBw1 : Below w.heap.size w (wr.setCell ⟨go, m * 4 + 2, none⟩ (.slice AK nk cK)) := (below_next HB3.out HB.out).setCell (Nat.le_trans HB1.out.size hgo.1) _
        have hgoint : ∀ g, AK.map (·.block) = some g → g ≠ go := fun g e => by
          obtain ⟨cs1, b1⟩ := mine_blk' HM.out e
          obtain ⟨cs2, b2⟩ := mine_blk' hNW.row (g := go) rfl
          exact blk_ne b1 b2 (by decide)
        have hM1 : Mine (wr.setCell ⟨go, m * 4 + 2, none⟩ (.slice AK nk cK)) w3.heap.size 3 1 AK nk cK (intCells ks) := by
          obtain ⟨cs2, b2⟩ := mine_blk' hNW.row (g := go) rfl
          exact mine_set HM.out b2 (by decide) _ _
        have HN1 := hid hN1
        have HMOD := hid hmod
        have HBW1 := hid hBw1
        have HM1 := hid hM1
        have HKN2 := HKN.out
        have hw1go := hgo.1
        have hgo2 := hgo.2
        have hmm : (m : Int) < ((m + 1 : Nat) : Int) := by omega
        clear hNW hkr hN1 hmod hBw1 hM1 hgoint hpa hd0 hgo HM HE hlo
        go_upto_region 14 with fail
        clear z0 z1 z2 z3
        obtain ⟨W1, hW1⟩ : ∃ W1, wr.setCell ⟨go, m * 4 + 2, none⟩ (.slice AK nk cK) = W1 := ⟨_, rfl⟩
        have hsz1 : W1.heap.size = wr.heap.size := by rw [← hW1]; simp [World.setCell]
        rw [hW1] at HN1 HBW1 HM1 ⊢
        have hgof1 : ∀ i, W1.frozen? ⟨go, i, none⟩ = false := by
          rcases HN1.out.row.own with ⟨e, _⟩ | ⟨g', e, _, _, _, ho⟩
          · cases e
          · injection e with e; injection e with e; subst e; exact ho.frozen
        have hgo1 : go < W1.heap.size := by omega
        clear hW1 hgof
        cases ks with
        | nil =>
          obtain rfl : nk = 0 := HKN2.symm
          obtain ⟨W, rfl⟩ : ∃ W : World, W = W1 := ⟨_, rfl⟩
          have hNps : Nps W (some ⟨go, 0, none⟩) (m + 1) (oldP ps m []) := by
            have := HN1.out.nps
            rw [HMOD.out] at this
            exact this
          have hBW : Below w.heap.size w W := HBW1.out
          have HNP := hid hNps
          have HBW := hid hBW
          clear hNps hBW HN1 HMOD HM1 HBW1 hgof1 hgo1 hsz1
          go_wp2_with fail
          refine (HNM.out (some ⟨go, 0, none⟩) co W HNP.out).mono ?_
          rintro e w9 h9
          obtain ⟨A3, c3, l3, q3, hb, hmade⟩ := MkR.made HBW.out h9
          obtain ⟨A8, c8, l8, q8, rfl, _⟩ := h9
          have t1 : w9.cell? ⟨W.heap.size, 1, none⟩ = some (.slice A3 l3.length c3) := hb.cell 1
          have tz := hb.lt
          have HMD := hid hmade
          clear hb hmade
          go_wp2
          go_ret
          exact HMD.out
        | cons k0 r =>
          have hnk : 0 < nk := by rw [← HKN2]; simp
          have hnk2 : (0 : Int) < (nk : Int) := by omega
          have hk0 := HKLT.out k0 (by simp)
          obtain ⟨q0, rfl⟩ := Int.eq_ofNat_of_zero_le hk0.1
          have hq0 : q0 < m := by omega
          obtain ⟨b5, off5, rfl, hblt5, cv⟩ := int_at HM1.out.rd hnk (show ((q0 : Int) :: r)[0]? = some (q0 : Int) from rfl)
          simp only [Nat.add_zero] at cv
          obtain ⟨y, hy⟩ : ∃ y, (la ++ [(⟨d0.kind, d0.text, some ⟨b5, off5, none⟩, nk, cK, (q0 : Int) :: r, d0.blank⟩ : Nd)])[q0]? = some y := ⟨_, gE (by rw [lA, hla]; simp; omega)⟩
          obtain ⟨b7, off7, e7, _, z0, z1, z2, z3⟩ := (show Nds W1 (some ⟨go, 0, none⟩) (m + 1) _ from ⟨HN1.out.len, HN1.out.row.rd, fun d hd => (HN1.out.kid d hd).rd⟩).at_ (show q0 < m + 1 by omega) hy
          injection e7 with e7; injection e7 with e71 e72; subst e71; subst e72
          simp only [Nat.zero_add] at z0 z1 z2 z3
          obtain ⟨ya, yb, hyl, hya⟩ := split_at hy
          have hN1' := HN1.out
          have hMOD' := HMOD.out
          rw [hyl] at hN1' hMOD'
          have hky := hN1'.kid y (by simp)
          have hN2 := hN1'.put (d' := ⟨y.kind, y.text, y.adr, y.cnt, y.cap, y.kids, false⟩) rfl (i := q0 * 4 + 3) (f := 3) (v := .bool false) (by rw [hya]) (by omega) rfl hky
          have hmod2 : (ya ++ (⟨y.kind, y.text, y.adr, y.cnt, y.cap, y.kids, false⟩ : Nd) :: yb).map Nd.pn = oldP ps m ((q0 : Int) :: r) := by
            unfold oldP
            simp only [Int.toNat_natCast]
            rw [← hMOD', List.map_append, List.map_cons, List.map_append, List.map_cons]
            have h1 := modify_mid offN (ya.map Nd.pn) y.pn (yb.map Nd.pn)
            rw [List.length_map, hya] at h1
            rw [h1]; rfl
          have hNps0 : Nps (W1.setCell ⟨go, q0 * 4 + 3, none⟩ (.bool false)) (some ⟨go, 0, none⟩) (m + 1) (oldP ps m ((q0 : Int) :: r)) := by
            have := hN2.nps
            rw [hmod2] at this
            exact this
          have hBW0 : Below w.heap.size w (W1.setCell ⟨go, q0 * 4 + 3, none⟩ (.bool false)) := HBW1.out.setCell (Nat.le_trans HB1.out.size hw1go) _
          have hqm : (q0 : Int) < ((m + 1 : Nat) : Int) := by omega
          have HNP0 := hid hNps0
          have HBW0 := hid hBW0
          clear hN1' hMOD' hky hN2 hmod2 hNps0 hBW0 hyl hya hy HN1 HMOD HM1 HBW1
          go_upto_region 16 with fail
          clear z0 z1 z2 z3 cv
          obtain ⟨W, hW⟩ : ∃ W, W1.setCell ⟨go, q0 * 4 + 3, none⟩ (.bool false) = W := ⟨_, rfl⟩
          rw [hW] at HNP0 HBW0 ⊢
          have hNps := HNP0.out
          have hBW := HBW0.out
          clear hW HNP0 HBW0
          have HNP := hid hNps
          have HBW := hid hBW
          clear hNps hBW hgof1 hgo1 hsz1
          go_wp2_with fail
          refine (HNM.out (some ⟨go, 0, none⟩) co W HNP.out).mono ?_
          rintro e w9 h9
          obtain ⟨A3, c3, l3, q3, hb, hmade⟩ := MkR.made HBW.out h9
          obtain ⟨A8, c8, l8, q8, rfl, _⟩ := h9
          have t1 : w9.cell? ⟨W.heap.size, 1, none⟩ = some (.slice A3 l3.length c3) := hb.cell 1
          have tz := hb.lt
          have HMD := hid hmade
          clear hb hmade
          go_wp2
          go_ret
          exact HMD.out
end Go.Proofs.YtgaajcbklkchjaaGreatDoor

/-
  Put together by program (shake.py): RfK, RfL, RfM, RfN, RfO.
-/
import Derived.Test.YtgaajcbklkchjaaGreatDoorMtL
import Derived.Test.YtgaajcbklkchjaaGreatDoorMtK
import Derived.Deep.RegionHeld3
set_option maxRecDepth 100000
set_option maxHeartbeats 25600000
set_option linter.unusedVariables false
set_option linter.unusedSimpArgs false
open Go.Lib (hid)
open Go.Proofs.Tryz
namespace Go.Proofs.YtgaajcbklkchjaaGreatDoor
open Go.RowKit Go.Sort
theorem specGKey_any (A : Option Addr) (n c : Nat) (ps : List PN) (A2 : Option Addr) (n2 c2 : Nat) (v : Int) (w : World) (hps : Nps w A n ps) (hf : FineT ps) :
  Calls prog 117 #[.slice A n c, .agg #[.slice A2 n2 c2, .int .i64 v]] w (KeyR (keyV ps v) w) := by
 have hl := hps.len
 have hn : n ≤ 1048576 := by rw [← hl]; exact hf.2
 have hd1 := hid (show w.alloc (.cells #[.slice A2 n2 c2, .int .i64 v] 106) = grow (w.drewN 0) #[.cells #[.slice A2 n2 c2, .int .i64 v] 106] from alloc_eq_grow _ _)
 unfold keyV
 cases hin : inB v 0 ((n : Int) - 1) with
 | false =>
  rw [if_neg (by have := of_decide_eq_false hin; omega)]
  have HN := hid (fun W => (by have h := l01In_b v 0 ((n : Int) - 1) W; rw [hin] at h; exact h : Calls prog 97 #[.int .i64 v, .int .i64 0, .int .i64 ((n : Int) - 1)] W fun e w' => e = .returned (.bool false) ∧ W = w'))
  clear hps
  go_enter func117, ntmps117
  go_wp2_with (go_at_call 97; refine (HN.out _).mono ?_; rintro e w1 ⟨rfl, rfl⟩)
  go_ret
  exact ⟨rfl, 0, _, hd1.out⟩
 | true =>
  have hv := of_decide_eq_true hin
  rw [if_pos (by omega)]
  have HN := hid (fun W => (by have h := l01In_b v 0 ((n : Int) - 1) W; rw [hin] at h; exact h : Calls prog 97 #[.int .i64 v, .int .i64 0, .int .i64 ((n : Int) - 1)] W fun e w' => e = .returned (.bool true) ∧ W = w'))
  obtain ⟨q, rfl⟩ := Int.eq_ofNat_of_zero_le hv.1
  have hq : q < n := by omega
  obtain ⟨x, hx⟩ := hps.get hq
  have hsz := (hf.1 x (List.mem_of_getElem? hx)).1
  obtain ⟨b, off, A', c', rfl, hblt, x0, x1, x2, x3, _⟩ := hps.at_ hq hx
  rw [Int.toNat_natCast, ndAt_of hx]
  have hd2 := hid (show (w.alloc (.cells #[.slice A2 n2 c2, .int .i64 (q : Int)] 106)).alloc (.cells #[.int .i64 x.kind, .string x.text, .slice A' x.kids.length c', .bool x.blank] 48) = grow (w.drewN 0) #[.cells #[.slice A2 n2 c2, .int .i64 (q : Int)] 106, .cells #[.int .i64 x.kind, .string x.text, .slice A' x.kids.length c', .bool x.blank] 48] from grow2 _ _ _)
  have hs1 : ¬ 9223372036854775807 < 1 + x.text.size := by omega
  clear hx hps hf hin hv
  by_cases h12 : x.kind = 12
  ·rw [if_pos h12]
   have e12 : (x.kind == 12) = true := by rw [h12]; rfl
   clear h12
   go_enter func117, ntmps117
   go_wp2_with (go_at_call 97; refine (HN.out _).mono ?_; rintro e w1 ⟨rfl, rfl⟩)
   go_ret
   exact ⟨rfl, 0, _, hd2.out⟩
  rw [if_neg h12]
  have e12 : (x.kind == 12) = false := beq_eq_false_iff_ne.2 h12
  by_cases h21 : x.kind = 21
  ·rw [if_pos h21]
   have e21 : (x.kind == 21) = true := by rw [h21]; rfl
   clear h12 h21
   go_enter func117, ntmps117
   go_wp2_with (go_at_call 97; refine (HN.out _).mono ?_; rintro e w1 ⟨rfl, rfl⟩)
   go_ret
   exact ⟨rfl, 0, _, hd2.out⟩
  rw [if_neg h21]
  have e21 : (x.kind == 21) = false := beq_eq_false_iff_ne.2 h21
  by_cases h20 : x.kind = 20
  ·rw [if_pos h20]
   have e20 : (x.kind == 20) = true := by rw [h20]; rfl
   clear h12 h21 h20
   go_enter func117, ntmps117
   go_wp2_with (go_at_call 97; refine (HN.out _).mono ?_; rintro e w1 ⟨rfl, rfl⟩)
   go_ret
   exact ⟨rfl, 0, _, hd2.out⟩
  rw [if_neg h20]
  have e20 : (x.kind == 20) = false := beq_eq_false_iff_ne.2 h20
  clear h12 h21 h20
  go_enter func117, ntmps117
  go_wp2_with (go_at_call 97; refine (HN.out _).mono ?_; rintro e w1 ⟨rfl, rfl⟩)
  go_ret
  exact ⟨rfl, 0, _, hd2.out⟩
structure GS0 (w wr : World) (g4 : Nat) (AO : Option Addr) (no cO : Nat) (lo : List Gd) (V : Value) (mb : Int) : Prop where
 gr : Grps wr w.heap.size AO no cO lo
 box : Blk wr g4 106 #[V, .int .i64 mb]
 off : AO.map (·.block) ≠ some g4
 old : Below w.heap.size w wr
 ge : w.heap.size ≤ g4
structure GS (w wr : World) (g4 : Nat) (AO : Option Addr) (no cO : Nat) (lo : List Gd) (AK : Option Addr) (nk cK : Nat) (ks : List Int) (mb : Int) : Prop where
 s0 : GS0 w wr g4 AO no cO lo (.slice AK nk cK) mb
 row : Mine wr w.heap.size 3 1 AK nk cK (intCells ks)
 ap : ∀ d ∈ lo, ∀ g, AK.map (·.block) = some g → d.adr.map (·.block) ≠ some g
section
variable {w wr w1 w3 : World} {g4 : Nat} {AO AK : Option Addr} {no cO nk cK : Nat} {lo : List Gd} {ks : List Int} {mb : Int} {V : Value}
theorem GS0.next (h : GS0 w wr g4 AO no cO lo V mb) (hb : Below wr.heap.size wr w1) : GS0 w w1 g4 AO no cO lo V mb :=
 ⟨h.gr.next hb, h.box.next hb, h.off, below_next h.old hb, h.ge⟩
theorem GS.next (h : GS w wr g4 AO no cO lo AK nk cK ks mb) (hb : Below wr.heap.size wr w1) : GS w w1 g4 AO no cO lo AK nk cK ks mb :=
 ⟨h.s0.next hb, h.row.next hb, h.ap⟩
theorem GS0.set (h : GS0 w wr g4 AO no cO lo V mb) (i : Nat) (u : Value) {V' : Value} {mb' : Int} (he : (#[V, .int .i64 mb] : Array Value).setIfInBounds i u = #[V', .int .i64 mb']) : GS0 w (wr.setCell ⟨g4, i, none⟩ u) g4 AO no cO lo V' mb' := by
 have hk := Kept.of_set wr (B := g4) (hi := g4 + 1) (Nat.le_refl _) (by omega) i u
 refine ⟨⟨h.gr.len, h.gr.row.kept hk (fun q hq => ?_), fun d hd => mine_set (h.gr.notes d hd) h.box (by decide) _ _⟩, ?_, h.off, h.old.setCell h.ge _, h.ge⟩
 ·have : q ≠ g4 := fun e => h.off (by rw [← e]; exact hq)
  omega
 ·have := h.box.set_ i u
  rwa [he] at this
theorem GS.setMem (h : GS w wr g4 AO no cO lo AK nk cK ks mb) (mb' : Int) : GS w (wr.setCell ⟨g4, 1, none⟩ (.int .i64 mb')) g4 AO no cO lo AK nk cK ks mb' :=
 ⟨h.s0.set 1 _ rfl, mine_set h.row h.s0.box (by decide) _ _, h.ap⟩
theorem GS.note (h : GS w wr g4 AO no cO lo AK nk cK ks mb) (k : Int) (hw1 : Below wr.heap.size wr w1) {v' : Value}
  (hown : w3.ownsRow w.heap.size 3 1 v' (nk + 1) (intCells ks ++ [.int .i64 k])) (hg : w1.grownBy w3 (Value.slice AK nk cK).ownBlock) (hwh : v'.ownBlock = (Value.slice AK nk cK).ownBlock ∨ v'.ownBlock = some w1.heap.size) :
  ∃ A' c', v' = .slice A' (nk + 1) c' ∧ Blk w3 g4 106 #[.slice AK nk cK, .int .i64 mb] ∧ GS w (w3.setCell ⟨g4, 0, none⟩ (.slice A' (nk + 1) c')) g4 AO no cO lo A' (nk + 1) c' (ks ++ [k]) mb := by
 rw [← ints_snoc] at hown
 obtain ⟨A', c', rfl, m1⟩ := Mine.of hown
 rw [ownBlk] at hg hwh
 rw [ownBlk] at hwh
 have hG := h.s0.gr.other h.row h.ap hw1 hg
 have hbox : Blk w3 g4 106 #[.slice AK nk cK, .int .i64 mb] := (h.s0.box.next hw1).grown hg (fun e => by
  obtain ⟨cs', b'⟩ := mine_blk' (h.row.next hw1) e.symm
  exact blk_ne (h.s0.box.next hw1) b' (by decide) rfl)
 have hold : Below w.heap.size w w3 := below_turned (W := w) (below_next h.s0.old hw1) hg (fun g e => (Mine.blk h.row e).1)
 have h0 : GS0 w w3 g4 AO no cO lo (.slice AK nk cK) mb := ⟨hG, hbox, h.s0.off, hold, h.s0.ge⟩
 refine ⟨A', c', rfl, hbox, ⟨h0.set 0 _ rfl, mine_set m1 hbox (by decide) _ _, fun d hd g e e' => ?_⟩⟩
 rcases hwh with h2 | h2
 ·exact h.ap d hd g (by rw [← h2]; exact e) e'
 ·have h8 := (Mine.blk (h.s0.gr.notes d hd) e').2
  rw [e] at h2
  injection h2 with h2
  have := hw1.size
  omega
theorem GS.push (h : GS w wr g4 AO no cO lo AK nk cK ks mb) (hw1 : Below wr.heap.size wr w1) {v' : Value}
  (hown : w3.ownsRow w.heap.size 106 2 v' (no + 1) (lo.flatMap grpCells ++ grpCells ⟨AK, nk, cK, ks, mb⟩)) (hg : w1.grownBy w3 (Value.slice AO no cO).ownBlock) (hwh : v'.ownBlock = (Value.slice AO no cO).ownBlock ∨ v'.ownBlock = some w1.heap.size) :
  ∃ A' c', v' = .slice A' (no + 1) c' ∧ GS0 w w3 g4 A' (no + 1) c' (lo ++ [⟨AK, nk, cK, ks, mb⟩]) (.slice AK nk cK) mb := by
 obtain ⟨A', c', rfl, hG⟩ := h.s0.gr.push (⟨AK, nk, cK, ks, mb⟩ : Gd) h.row hw1 hown hg
 rw [ownBlk] at hg hwh
 rw [ownBlk] at hwh
 have hb1 := h.s0.box.next hw1
 refine ⟨A', c', rfl, ⟨hG, hb1.grown hg (fun e => h.s0.off e.symm), fun e => ?_, below_turned (W := w) (below_next h.s0.old hw1) hg (fun g e => (Mine.blk h.s0.gr.row e).1), h.s0.ge⟩⟩
 rcases hwh with h2 | h2
 ·exact h.s0.off (by rw [← h2]; exact e)
 ·rw [e] at h2
  injection h2 with h2
  have := h.s0.box.lt
  have := hw1.size
  omega
theorem GS0.reset (h : GS0 w wr g4 AO no cO lo V mb) : GS w (((wr.setCell ⟨g4, 0, none⟩ (.slice (some ⟨wr.heap.size, 0, none⟩) 0 0)).setCell ⟨g4, 1, none⟩ (.int .i64 (-1))).alloc (.cells #[] 3)) g4 AO no cO lo (some ⟨wr.heap.size, 0, none⟩) 0 0 [] (-1) := by
 have h2 := h.set 0 (.slice (some ⟨wr.heap.size, 0, none⟩) 0 0) rfl
 have h3 := h2.set 1 (.int .i64 (-1)) rfl
 have hsz : ((wr.setCell ⟨g4, 0, none⟩ (.slice (some ⟨wr.heap.size, 0, none⟩) 0 0)).setCell ⟨g4, 1, none⟩ (.int .i64 (-1))).heap.size = wr.heap.size := by simp [World.setCell]
 have m := mine_empty ((wr.setCell ⟨g4, 0, none⟩ (.slice (some ⟨wr.heap.size, 0, none⟩) 0 0)).setCell ⟨g4, 1, none⟩ (.int .i64 (-1))) 3 1
 rw [hsz] at m
 refine ⟨h3.next ((Below.refl _ _).alloc (Nat.le_refl _) _), m.more h.old.size, fun d hd g e e' => ?_⟩
 have h8 := (Mine.blk (h.gr.notes d hd) e').2
 injection e with e
 simp only at e
 omega
theorem GS.first (w : World) {w1 : World} (hb : Below (w.alloc (.cells #[] 106)).heap.size (w.alloc (.cells #[] 106)) w1) : GS w ((w1.alloc (.cells #[] 3)).alloc (.cells #[.slice (some ⟨w1.heap.size, 0, none⟩) 0 0, .int .i64 (-1)] 106)) (w1.heap.size + 1) (some ⟨w.heap.size, 0, none⟩) 0 0 [] (some ⟨w1.heap.size, 0, none⟩) 0 0 [] (-1) := by
 have m1 : Mine (w.alloc (.cells #[] 106)) w.heap.size 106 2 (some ⟨w.heap.size, 0, none⟩) 0 0 [] := mine_empty w _ _
 have m2 : Mine (w1.alloc (.cells #[] 3)) w1.heap.size 3 1 (some ⟨w1.heap.size, 0, none⟩) 0 0 [] := mine_empty w1 _ _
 have hs := hb.size
 rw [World.size_alloc] at hs
 have hbw : Below w.heap.size w w1 := below_next ((Below.refl _ _).alloc (Nat.le_refl _) _) hb
 have b3 := Blk.new (w1.alloc (.cells #[] 3)) 106 #[.slice (some ⟨w1.heap.size, 0, none⟩) 0 0, .int .i64 (-1)]
 rw [World.size_alloc] at b3
 refine ⟨⟨⟨rfl, ((m1.next hb).alloc _).alloc _, fun d hd => (by cases hd)⟩, b3, fun e => ?_, (hbw.alloc hbw.size _).alloc (by simp; omega) _, by omega⟩, (m2.alloc _).more (by omega), fun d hd => (by cases hd)⟩
 injection e with e
 simp only at e
 omega
end
theorem specGroups_any (A : Option Addr) (n c : Nat) (ps : List PN) (m : Nat) (hF : TreeF ps m) (ht : treeB ps = true) (w : World) (hf : FineT ps) (hps : Nps w A n ps) :
  Calls prog 116 #[.slice A n c] w (GrpsR w (groupsV ps m)) := by
 have hl := hps.len
 have hlm := hF.tree.len
 obtain rfl : n = m + 1 := by omega
 have HT := hid (specTreeOk_any A (m + 1) c ps (w.alloc (.cells #[] 106)) (by have := hF.few; omega) (hps.next ((Below.refl _ _).alloc (Nat.le_refl _) _)) hf.1)
 rw [ht] at HT
 have hm300 := hF.few
 have HP := hid hps
 obtain ⟨x, hx⟩ := hps.get (show m < m + 1 by omega)
 have HG := hid (hF.tree.good)
 obtain ⟨hk12, hkv⟩ := hF.tree.good m x hx
 have HKV := hid hkv
 obtain ⟨b, off, A', c', rfl, hblt, x0, x1, x2, x3, hxr⟩ := hps.at_ (show m < m + 1 by omega) hx
 have HXR := hid hxr
 have hgv : groupsV ps m = groupsG ps (x.kids.drop 0) [] [] := by unfold groupsV; rw [ndAt_of hx, List.drop_zero]
 obtain ⟨Q, hQ⟩ : ∃ Q, groupsV ps m = Q := ⟨_, rfl⟩
 rw [hQ]
 have HQ0 := hid (hgv.symm.trans hQ)
 obtain ⟨i0, hi0, hz0, hz1, hz2⟩ := info_parts infoGrp
 have HI := hid (And.intro hi0 (And.intro hz0 (And.intro hz1 hz2)))
 obtain ⟨j0, hj0, hy0, hy1, hy2⟩ := info_parts infoInt
 have HJ := hid (And.intro hj0 (And.intro hy0 (And.intro hy1 hy2)))
 clear hps hx hgv hQ hkv hxr hi0 hz0 hz1 hz2 hj0 hy0 hy1 hy2 x0 x1 x3 hf ht hF
 go_enter func116, ntmps116
 go_wp2_with fail
 refine HT.out.mono ?_
 rintro e w1 ⟨rfl, h1⟩
 have HFI := hid (GS.first w h1)
 replace h1 : Below w.heap.size w w1 := below_next ((Below.refl _ _).alloc (Nat.le_refl _) _) h1
 have hcb := (bcell h1).1
 have x2' := (hcb _ _ hblt).trans x2
 have hblt' : b < w1.heap.size := Nat.lt_of_lt_of_le hblt h1.size
 have HB1 := hid h1
 clear x2 hcb hblt h1
 go_wp2
 clear x2' hblt'
 go_loopw [3, 6] (fun s3 i wr => ∃ (j : Nat) (AO : Option Addr) (cO : Nat) (lo : List Gd) (AK : Option Addr) (cK : Nat) (ks : List Int) (no nk : Nat), j ≤ x.kids.length ∧ i = .int .i64 j ∧ s3 = .slice AO no cO ∧ Hid (ks.length = nk) ∧ no ≤ j ∧ nk ≤ j ∧ Hid (GS w wr (w1.heap.size + 1) AO no cO lo AK nk cK ks (-1)) ∧ Hid (groupsG ps (x.kids.drop j) ks (lo.map Gd.gp) = Q)) (fun _ i _ => x.kids.length - (intOf i).toNat)
 case atStart => exact ⟨0, _, 0, [], _, 0, [], 0, 0, Nat.zero_le _, rfl, rfl, (rfl : ([] : List Int).length = 0), Nat.le_refl _, Nat.le_refl _, HFI.out, HQ0.out⟩
 case round =>
  clear HQ0 HB1 HFI
  obtain ⟨j, AO, cO, lo, AK, cK, ks, no, nk, hj, rfl, rfl, HKN, hno, hnk, HS, HE⟩ := hrel
  have HB : Hid (Below w.heap.size w wr) := HS.out.s0.old
  have b0 : wr.cell? ⟨w1.heap.size + 1, 0, none⟩ = some (.slice AK nk cK) := HS.out.s0.box.cell 0
  have b1 : wr.cell? ⟨w1.heap.size + 1, 1, none⟩ = some (.int .i64 (-1)) := HS.out.s0.box.cell 1
  have bf0 := HS.out.s0.box.frozen 0
  have bf1 := HS.out.s0.box.frozen 1
  have bz := HS.out.s0.box.lt
  by_cases hjl : j < x.kids.length
  ·obtain ⟨v, hd⟩ : ∃ d, x.kids[j]? = some d := ⟨_, List.getElem?_eq_getElem hjl⟩
   obtain ⟨b5, off5, rfl, hblt5, cv⟩ := int_at (HXR.out.below HB.out) hjl hd
   have hv := HKV.out v (List.mem_of_getElem? hd)
   obtain ⟨q, rfl⟩ := Int.eq_ofNat_of_zero_le hv.1
   have hqn : q < m + 1 := by omega
   obtain ⟨y, hy⟩ := HP.out.get hqn
   obtain ⟨b7, off7, A7, c7, e7, hblt7, y0, y1, y2, y3, _⟩ := (HP.out.below HB.out).at_ hqn hy
   injection e7 with e7; injection e7 with e71 e72; subst e71; subst e72
   have hna : ndAt ps ((q : Int).toNat) = y := by rw [Int.toNat_natCast]; exact ndAt_of hy
   have hq2 : (q : Int) < ((m + 1 : Nat) : Int) := by omega
   by_cases h19 : y.kind = 19
   ·have HE2 := hid ((groupsG_note (notes := ks) (out := lo.map Gd.gp) hd (by rw [hna]; exact h19)).symm.trans HE.out)
    have e19 : (y.kind == 19) = true := by rw [h19]; rfl
    have HMz := hid (HS.out.row.alloc (.cells #[.int .i64 (q : Int)] 3))
    have HP2 := hid (fun (v' : Value) (w3 : World) h1 h2 h3 => HS.out.note (q : Int) (w1 := wr.alloc (.cells #[.int .i64 (q : Int)] 3)) ((Below.refl _ _).alloc (Nat.le_refl _) _) (v' := v') (w3 := w3) h1 h2 h3)
    have HBZ := hid (show w.heap.size ≤ (wr.alloc (.cells #[.int .i64 (q : Int)] 3)).heap.size by have := HB.out.size; simp; omega)
    clear HE h19 hna hy hd y1 y2 y3
    go_upto_region 10 with fail
    go_region_law
     (refine step_append_lies _ rfl (.tmp 37) (.tmp 42) 37 rfl w.heap.size 3 j0 (.int .i64 0) 1 8 underlying37 HJ.out.1 HJ.out.2.1 HJ.out.2.2.1 HJ.out.2.2.2 rfl (by decide) (.slice AK nk cK) nk (intCells ks) (by first | (simp [Act.eval]; done) | (simp [Act.eval, Act.put]; done) | rfl) (by first | exact HMz.out.drew | exact HMz.out) ⟨wr.heap.size, 0, none⟩ 1 1 [.int .i64 (q : Int)] (by first | (simp [Act.eval]; done) | (simp [Act.eval, Act.put]; done) | rfl) (by rfl) (World.news_of_block (cs := #[.int .i64 (q : Int)]) (t := 3) (fr := (0, 0)) (heap_alloc_new wr _)) (int_one _) (by decide) (by unfold maxLen; omega) (by omega) (by first | exact HBZ.out) (wr.heap.size + 1) (by simp) ?_
      intro v' cap w6 hown6 hgrow hat hlt6
      have hgrow2 : (wr.alloc (.cells #[.int .i64 (q : Int)] 3)).grownBy w6 (Value.slice AK nk cK).ownBlock := (by first | exact hgrow | exact grown_undrewP hgrow)
      have hW := HP2.out _ _ hown6 hgrow2 (hat.elim (fun e => .inl e.symm) (fun e => .inr (by rw [e]; simp [Value.ownBlock])))
      have hbx : Blk w6 (w1.heap.size + 1) 106 #[.slice AK nk cK, .int .i64 (-1)] := (by obtain ⟨_, _, _, h, _⟩ := hW; exact h)
      have jc : w6.cell? ⟨w1.heap.size + 1, 0, none⟩ = some (.slice AK nk cK) := hbx.cell 0
      have jf := hbx.frozen 0
      have jz := hbx.lt
      have HW := hid hW
      clear hown6 hgrow hat hgrow2 hW hbx)
    all_goals
     obtain ⟨A5, c5, ev, _, hG5⟩ := HW.out
     injection ev with ev1 ev2 ev3
     subst ev1; subst ev3
     have HG5 := hid hG5
     clear hG5 HW ev2 HS HB HP2
     go_wp2
     go_roundw
     case rel => exact ⟨j + 1, AO, cO, lo, _, _, ks ++ [(q : Int)], no, nk + 1, by omega, by go_num, rfl, hid (show (ks ++ [(q : Int)]).length = nk + 1 by rw [lA, HKN.out]; rfl), by omega, by omega, HG5, HE2⟩
     case measure => simp [intOf]; omega
   ·have HE2 := hid ((groupsG_mem (notes := ks) (out := lo.map Gd.gp) hd (by rw [hna]; exact h19)).symm.trans HE.out)
    have e19 : (y.kind == 19) = false := beq_eq_false_iff_ne.2 h19
    have HS1 := hid (HS.out.setMem (q : Int))
    have HMz := hid (HS1.out.s0.gr.row.alloc (.cells #[.slice AK nk cK, .int .i64 (q : Int)] 106))
    have HP2 := hid (fun (v' : Value) (w3 : World) h1 h2 h3 => HS1.out.push (w1 := (wr.setCell ⟨w1.heap.size + 1, 1, none⟩ (.int .i64 (q : Int))).alloc (.cells #[.slice AK nk cK, .int .i64 (q : Int)] 106)) ((Below.refl _ _).alloc (Nat.le_refl _) _) (v' := v') (w3 := w3) h1 h2 h3)
    have HNW := hid (show ∀ i v, (grpCells (⟨AK, nk, cK, ks, (q : Int)⟩ : Gd))[i]? = some v → ((wr.setCell ⟨w1.heap.size + 1, 1, none⟩ (.int .i64 (q : Int))).alloc (.cells #[.slice AK nk cK, .int .i64 (q : Int)] 106)).cell? ((⟨wr.heap.size, 0, none⟩ : Addr).add i) = some v by
     have h9 := gp_new (wr.setCell ⟨w1.heap.size + 1, 1, none⟩ (.int .i64 (q : Int))) (⟨AK, nk, cK, ks, (q : Int)⟩ : Gd) 106
     simpa [World.setCell] using h9)
    have HBZ := hid (show w.heap.size ≤ ((wr.setCell ⟨w1.heap.size + 1, 1, none⟩ (.int .i64 (q : Int))).alloc (.cells #[.slice AK nk cK, .int .i64 (q : Int)] 106)).heap.size by have := HB.out.size; simp [World.setCell]; omega)
    clear HE h19 hna hy hd y1 y2 y3
    go_wp2_with (at_builtin; refine wpList_append_row _ rfl (.tmp 50) (.tmp 52) _ rfl w.heap.size 106 i0 (.agg #[.slice none 0 0, .int .i64 0]) 2 32 underlying103 HI.out.1 HI.out.2.1 HI.out.2.2.1 HI.out.2.2.2 rfl (by decide) (.slice AO no cO) no (lo.flatMap grpCells) rfl HMz.out ⟨wr.heap.size, 0, none⟩ 1 1 (grpCells (⟨AK, nk, cK, ks, (q : Int)⟩ : Gd)) rfl rfl HNW.out (gp_one _) (by unfold maxLen; omega) (by omega) HBZ.out ?_; intro v' w5 hown hg hwh; obtain ⟨A5, c5, rfl, h05⟩ := HP2.out _ _ hown hg hwh; have l0 : w5.cell? ⟨w1.heap.size + 1, 0, none⟩ = some (.slice AK nk cK) := h05.box.cell 0; have l1 : w5.cell? ⟨w1.heap.size + 1, 1, none⟩ = some (.int .i64 (q : Int)) := h05.box.cell 1; have lf0 := h05.box.frozen 0; have lf1 := h05.box.frozen 1; have lz := h05.box.lt; have HG5 := hid h05.reset; clear hown hg hwh h05)
    go_roundw
    case rel =>
     refine ⟨j + 1, A5, c5, lo ++ [(⟨AK, nk, cK, ks, (q : Int)⟩ : Gd)], _, 0, [], no + 1, 0, by omega, by go_num, rfl, (rfl : ([] : List Int).length = 0), by omega, by omega, HG5, ?_⟩
     show _ = _
     rw [← HE2.out, List.map_append]; rfl
    case measure => simp [intOf]; omega
  ·obtain rfl : j = x.kids.length := by omega
   have HE2 := hid ((groupsG_end (notes := ks) (out := lo.map Gd.gp) (Nat.le_refl x.kids.length)).symm.trans HE.out)
   by_cases h0 : nk = 0
   ·subst h0
    have HQ3 := hid (show lo.map Gd.gp = Q by have h1 := HE2.out; rwa [if_pos HKN.out] at h1)
    clear HE HE2
    go_wp2
    go_ret
    exact ⟨AO, no, cO, lo, rfl, HS.out.s0.gr, HQ3.out, HB.out⟩
   ·have HQ3 := hid (show lo.map Gd.gp ++ [(ks, (-1 : Int))] = Q by have h1 := HE2.out; rwa [if_neg (by rw [HKN.out]; exact h0)] at h1)
    have hpos : (0 : Int) < (nk : Int) := by omega
    have hpos2 : 0 < nk := by omega
    have HMz := hid (HS.out.s0.gr.row.alloc (.cells #[.slice AK nk cK, .int .i64 (-1)] 106))
    have HP2 := hid (fun (v' : Value) (w3 : World) h1 h2 h3 => HS.out.push (w1 := wr.alloc (.cells #[.slice AK nk cK, .int .i64 (-1)] 106)) ((Below.refl _ _).alloc (Nat.le_refl _) _) (v' := v') (w3 := w3) h1 h2 h3)
    have HNW := hid (gp_new wr (⟨AK, nk, cK, ks, (-1)⟩ : Gd) 106)
    clear HE HE2
    go_wp2_with (at_builtin; refine wpList_append_row _ rfl (.tmp 60) (.tmp 62) _ rfl w.heap.size 106 i0 (.agg #[.slice none 0 0, .int .i64 0]) 2 32 underlying103 HI.out.1 HI.out.2.1 HI.out.2.2.1 HI.out.2.2.2 rfl (by decide) (.slice AO no cO) no (lo.flatMap grpCells) rfl HMz.out ⟨wr.heap.size, 0, none⟩ 1 1 (grpCells (⟨AK, nk, cK, ks, (-1)⟩ : Gd)) rfl rfl HNW.out (gp_one _) (by unfold maxLen; omega) (by omega) (by have h8 := HB.out.size; simp; omega) ?_; intro v' w5 hown hg hwh; obtain ⟨A5, c5, rfl, h05⟩ := HP2.out _ _ hown hg hwh; have HG5 := hid h05; clear hown hg hwh h05)
    go_wp2
    go_ret
    refine ⟨A5, no + 1, c5, lo ++ [(⟨AK, nk, cK, ks, (-1)⟩ : Gd)], rfl, HG5.out.gr, ?_, HG5.out.old⟩
    rw [List.map_append]; exact HQ3.out
section
variable {α : Type} {lt : α → α → Bool} {x y : α} {a nx : List α}
theorem insS_none (h : ∀ y ∈ a, lt x y = false) : insS lt x a = a ++ [x] := by
 induction a with
 | nil => rfl
 | cons z a ih =>
  unfold insS
  rw [if_neg (by rw [h z (by simp)]; decide), ih (fun y hy => h y (by simp [hy]))]
  rfl
theorem insS_here (h : ∀ y ∈ a, lt x y = false) (hy : lt x y = true) : insS lt x (a ++ [y]) = a ++ [x] ++ [y] := by
 induction a with
 | nil => show (if lt x y = true then x :: y :: [] else y :: insS lt x []) = _; rw [if_pos hy]; rfl
 | cons z a ih =>
  rw [List.cons_append]
  unfold insS
  rw [if_neg (by rw [h z (by simp)]; decide), ih (fun y hy => h y (by simp [hy]))]
  rfl
theorem insS_done (h : ∃ z ∈ a, lt x z = true) : insS lt x (a ++ [y]) = insS lt x a ++ [y] := by
 induction a with
 | nil => obtain ⟨z, hz, _⟩ := h; cases hz
 | cons z a ih =>
  rw [List.cons_append]
  unfold insS
  by_cases hz : lt x z = true
  ·rw [if_pos hz, if_pos hz]; rfl
  ·rw [if_neg hz, if_neg hz, ih (by
    obtain ⟨u, hu, h2⟩ := h
    rcases List.mem_cons.1 hu with rfl | hu
    ·exact absurd h2 hz
    ·exact ⟨u, hu, h2⟩)]
   rfl
def InsOk (lt : α → α → Bool) (x : α) (a nx : List α) (put : Bool) : Prop := if put = true then nx = insS lt x a ∧ ∃ z ∈ a, lt x z = true else nx = a ∧ ∀ z ∈ a, lt x z = false
theorem InsOk.nil : InsOk lt x [] [] false := ⟨rfl, fun z hz => by cases hz⟩
theorem InsOk.skip (h : InsOk lt x a nx false) (hy : lt x y = false) : InsOk lt x (a ++ [y]) (nx ++ [y]) false := by
 obtain ⟨rfl, h2⟩ := h
 refine ⟨rfl, fun z hz => ?_⟩
 rcases List.mem_append.1 hz with hz | hz
 ·exact h2 z hz
 ·obtain rfl := List.mem_singleton.1 hz; exact hy
theorem InsOk.here (h : InsOk lt x a nx false) (hy : lt x y = true) : InsOk lt x (a ++ [y]) (nx ++ [x] ++ [y]) true := by
 obtain ⟨rfl, h2⟩ := h
 exact ⟨(insS_here h2 hy).symm, y, by simp, hy⟩
theorem InsOk.go (h : InsOk lt x a nx true) (y : α) : InsOk lt x (a ++ [y]) (nx ++ [y]) true := by
 obtain ⟨rfl, h2⟩ := h
 refine ⟨(insS_done h2).symm, ?_⟩
 obtain ⟨z, hz, h3⟩ := h2
 exact ⟨z, by simp [hz], h3⟩
theorem InsOk.last (h : InsOk lt x a nx false) : nx ++ [x] = insS lt x a := by
 obtain ⟨rfl, h2⟩ := h
 exact (insS_none h2).symm
theorem InsOk.done (h : InsOk lt x a nx true) : nx = insS lt x a := h.1
theorem insAll_take {l : List α} {j : Nat} (h : l[j]? = some x) : insAll lt (l.take (j + 1)) = insS lt x (insAll lt (l.take j)) := by
 unfold insAll
 rw [List.take_add_one, h, Option.toList_some, List.foldl_append]
 rfl
end
structure GW (w wr : World) (A : Option Addr) (n c : Nat) (l : List Gd) : Prop where
 len : l.length = n
 row : Mine wr w.heap.size 106 2 A n c (l.flatMap grpCells)
 old : Below w.heap.size w wr
section
variable {w wr w1 w3 w' : World} {A : Option Addr} {n c B no cO : Nat} {AO : Option Addr} {l lo : List Gd}
theorem GW.first (w : World) : GW w (w.alloc (.cells #[] 106)) (some ⟨w.heap.size, 0, none⟩) 0 0 [] := ⟨rfl, mine_empty w _ _, (Below.refl _ _).alloc (Nat.le_refl _) _⟩
theorem GW.next (h : GW w wr A n c l) (hb : Below wr.heap.size wr w1) : GW w w1 A n c l := ⟨h.len, h.row.next hb, below_next h.old hb⟩
theorem GW.push (h : GW w wr A n c l) (x : Gd) (hw1 : Below wr.heap.size wr w1) {v' : Value}
  (hown : w3.ownsRow w.heap.size 106 2 v' (n + 1) (l.flatMap grpCells ++ grpCells x)) (hg : w1.grownBy w3 (Value.slice A n c).ownBlock) : ∃ A' c', v' = .slice A' (n + 1) c' ∧ GW w w3 A' (n + 1) c' (l ++ [x]) := by
 rw [ownBlk] at hg
 obtain ⟨A', c', rfl, m⟩ := Mine.of hown
 exact ⟨A', c', rfl, by rw [lA, h.len]; rfl, by rw [List.flatMap_append]; simpa using m, below_turned (W := w) (below_next h.old hw1) hg (fun g e => (Mine.blk h.row e).1)⟩
theorem GW.grps {lt : Gd → Gd → Bool} {x : Gd} {m c2 : Nat} {A2 : Option Addr} {l2 : List Gd} (h : GW w wr A n c (insS lt x lo)) (hB : B ≤ w.heap.size) (ho : Grps w B AO no cO lo) (hl : Grps w B A2 m c2 l2) (hx : x ∈ l2) : Grps wr B A n c (insS lt x lo) := by
 refine ⟨h.len, h.row.more hB, fun d hd => ?_⟩
 have := (insS_perm (lt := lt) x lo).mem_iff.1 hd
 rcases List.mem_cons.1 this with rfl | hd2
 ·exact (hl.notes _ hx).next h.old
 ·exact (ho.notes _ hd2).next h.old
end
open Go.RowKit Go.Sort
theorem specOrdGroups_any (A : Option Addr) (n c : Nat) (ps : List PN) (m : Nat) (hF : TreeF ps m) (ht : treeB ps = true) (w : World) (hf : FineT ps) (hps : Nps w A n ps) :
  Calls prog 71 #[.slice A n c] w (GrpsR w (ordV lessB ps m)) := by
 have mixed : prog.follows .mixedOrders = true := by kernel_rfl
 have hba : Below w.heap.size w (w.alloc (.cells #[] 106)) := (Below.refl _ _).alloc (Nat.le_refl _) _
 have HT := hid (specGroups_any A n c ps m hF ht (w.alloc (.cells #[] 106)) hf (hps.next hba))
 have HP := hid hps
 have HF := hid hf
 have HLN := hid (groupsV_len hF)
 obtain ⟨i0, hi0, hz0, hz1, hz2⟩ := info_parts infoGrp
 have HI := hid (And.intro hi0 (And.intro hz0 (And.intro hz1 hz2)))
 have HBA := hid hba
 clear hps hf hi0 hz0 hz1 hz2 hba
 go_enter func71, ntmps71
 go_wp2_with fail
 refine HT.out.mono ?_
 rintro e w1 ⟨A1, n1, c1, l1, rfl, hG1, hE1, hB1⟩
 have HG1 := hid (show Grps w1 w.heap.size A1 n1 c1 l1 from ⟨hG1.len, hG1.row.more HBA.out.size, fun d hd => (hG1.notes d hd).more HBA.out.size⟩)
 have hn13 : n1 ≤ 13 := by
  have h1 := HLN.out
  rw [← hE1, List.length_map, hG1.len] at h1
  exact h1
 have HORD := hid (ordV_of hE1)
 have HBW := hid (below_next HBA.out hB1)
 have HO1 := hid (show Grps w1 w.heap.size (some ⟨w.heap.size, 0, none⟩) 0 0 [] from ⟨rfl, (mine_empty w 106 2).next hB1, fun d hd => (by cases hd)⟩)
 clear hG1 hE1 hB1 HT HLN HBA
 go_wp2
 go_loopw [3, 5] (fun s3 s5 wr => ∃ (j : Nat) (AO : Option Addr) (cO : Nat), j ≤ n1 ∧ s5 = .int .i64 j ∧ s3 = .slice AO j cO ∧ Hid (Grps wr w.heap.size AO j cO (insAll (ltG ps) (l1.take j))) ∧ Hid (Below w1.heap.size w1 wr)) (fun _ i _ => n1 - (intOf i).toNat)
 case atStart => exact ⟨0, _, 0, Nat.zero_le _, rfl, rfl, HO1.out, hid (Below.refl _ _)⟩
 case round =>
  clear HO1
  obtain ⟨j, AO, cO, hj, rfl, rfl, HO, HB⟩ := hrel
  have HL := hid (HG1.out.next HB.out)
  have HWW := hid (below_next HBW.out HB.out)
  by_cases hjl : j < n1
  ·obtain ⟨x, hx⟩ : ∃ x, l1[j]? = some x := ⟨_, gE (by rw [HG1.out.len]; exact hjl)⟩
   have HX := hid hx
   have HTK := hid (insAll_take (lt := ltG ps) hx)
   obtain ⟨lo, hlo⟩ : ∃ lo, insAll (ltG ps) (l1.take j) = lo := ⟨_, rfl⟩
   rw [hlo] at HO HTK
   clear hlo hx
   obtain ⟨W0, rfl⟩ : ∃ W0, W0 = wr := ⟨_, rfl⟩
   have HW1 := hid (GW.first W0)
   go_wp2
   go_loopw [6, 7, 8] (fun s6 s7 s8 wk => ∃ (k : Nat) (AN : Option Addr) (nn cN : Nat) (nx : List Gd) (p : Bool), k ≤ j ∧ s8 = .int .i64 k ∧ s6 = .slice AN nn cN ∧ s7 = .bool p ∧ nn ≤ k + 1 ∧ Hid (GW W0 wk AN nn cN nx) ∧ Hid (InsOk (ltG ps) x (lo.take k) nx p)) (fun _ _ i _ => j - (intOf i).toNat)
   case atStart => exact ⟨0, _, 0, 0, [], false, Nat.zero_le _, rfl, rfl, rfl, by omega, HW1, hid InsOk.nil⟩
   case round =>
    clear HW1
    obtain ⟨k, AN, nn, cN, nx, p, hk, rfl, rfl, rfl, hnn, HN, HIN⟩ := hrel
    obtain ⟨b, off, rfl, hblt, x0, x1⟩ := (HL.out.next HN.out.old).at_ hjl HX.out
    by_cases hkj : k < j
    ·obtain ⟨y, hy⟩ : ∃ y, lo[k]? = some y := ⟨_, gE (by rw [HO.out.len]; exact hkj)⟩
     obtain ⟨b2, off2, rfl, hblt2, y0, y1⟩ := (HO.out.next HN.out.old).at_ hkj hy
     have HTO := hid (show lo.take (k + 1) = lo.take k ++ [y] by rw [List.take_add_one, hy]; rfl)
     cases p with
     | true =>
      go_upto_region 11 with fail
      go_quiet (fail)
      have hbg : Below wr.heap.size wr (wr.drewN nq) := ⟨rfl, rfl, rfl, Nat.le_refl _, fun g _ => rfl⟩
      have HN2 := hid (HN.out.next hbg)
      have z0 := ((bcell hbg).1 _ _ hblt2).trans y0
      have z1 := ((bcell hbg).1 _ _ hblt2).trans y1
      have hz2 : b2 < (wr.drewN nq).heap.size := Nat.lt_of_lt_of_le hblt2 hbg.size
      clear x0 x1 y0 y1 hblt hblt2 hbg HN
      generalize wr.drewN nq = wx at *
      go_wp2_with (at_builtin; refine wpList_append_row _ rfl (.tmp 49) (.tmp 54) _ rfl W0.heap.size 106 i0 (.agg #[.slice none 0 0, .int .i64 0]) 2 32 underlying103 HI.out.1 HI.out.2.1 HI.out.2.2.1 HI.out.2.2.2 rfl (by decide) (.slice AN nn cN) (nn) ((nx).flatMap grpCells) rfl (HN2.out.row.alloc _) ⟨wx.heap.size, 0, none⟩ 1 1 (grpCells y) rfl rfl (gp_new wx y _) (gp_one _) (by unfold maxLen; omega) (by omega) (by have h8 := HN2.out.old.size; simp; omega) ?_; intro v' w5 hown hg hwh; obtain ⟨A5, c5, rfl, h05⟩ := HN2.out.push y ((Below.refl _ _).alloc (Nat.le_refl _) _) hown hg; have HN5 := hid h05; clear hown hg hwh h05)
      go_roundw
      case rel => exact ⟨k + 1, A5, nn + 1, c5, nx ++ [y], true, by omega, by go_num, rfl, rfl, by omega, HN5, hid (by rw [HTO.out]; exact HIN.out.go y)⟩
      case measure => simp [intOf]; omega
     | false =>
      go_upto_region 11 with fail
      obtain ⟨kx, hkx⟩ : ∃ t, keyV ps x.mem = t := ⟨_, rfl⟩
      obtain ⟨ky, hky⟩ : ∃ t, keyV ps y.mem = t := ⟨_, rfl⟩
      have hpw := HP.out.next (below_next HWW.out HN.out.old)
      have f0 := fun n os => cell_grown (by exact hblt) x0 n os
      have f1 := fun n os => cell_grown (by exact hblt) x1 n os
      have f2 := fun n os => cell_grown (by exact hblt2) y0 n os
      have f3 := fun n os => cell_grown (by exact hblt2) y1 n os
      have HX2 := hid (fun (q : Nat) (os : Array Obj) => Calls.grown_of (show Calls prog 117 #[.slice A n c, .agg #[.slice x.adr x.cnt x.cap, .int .i64 x.mem]] (grow (wr.drewN q) os) fun e w' => e = .returned (.string kx) ∧ ∃ q2 os', w' = grow ((grow (wr.drewN q) os).drewN q2) os' by rw [← hkx]; exact specGKey_any A n c ps _ _ _ _ _ (hpw.next (Go.Lib.below_grow wr.heap.size wr (Nat.le_refl _) q os)) HF.out))
      have HY2 := hid (fun (q : Nat) (os : Array Obj) => Calls.grown_of (show Calls prog 117 #[.slice A n c, .agg #[.slice y.adr y.cnt y.cap, .int .i64 y.mem]] (grow (wr.drewN q) os) fun e w' => e = .returned (.string ky) ∧ ∃ q2 os', w' = grow ((grow (wr.drewN q) os).drewN q2) os' by rw [← hky]; exact specGKey_any A n c ps _ _ _ _ _ (hpw.next (Go.Lib.below_grow wr.heap.size wr (Nat.le_refl _) q os)) HF.out))
      have HLT := hid (show ltG ps x y = Op.bytesLess kx.toList ky.toList by unfold ltG lessB; rw [hkx, hky])
      have HX0 := hid x0
      have HX1 := hid x1
      have HY0 := hid y0
      have HY1 := hid y1
      have HZ1 := hid hblt
      have HZ2 := hid hblt2
      clear x0 x1 y0 y1 hpw hkx hky hblt hblt2
      go_quiet_grown (first | (go_at_call 117; with_reducible exact (HX2.out _ _)) | (go_at_call 117; with_reducible exact (HY2.out _ _)))
      have hbg : Below wr.heap.size wr (grow (wr.drewN nq) osq) := Go.Lib.below_grow wr.heap.size wr (Nat.le_refl _) nq osq
      have HN2 := hid (HN.out.next hbg)
      have x0 := ((bcell hbg).1 _ _ HZ1.out).trans HX0.out
      have x1 := ((bcell hbg).1 _ _ HZ1.out).trans HX1.out
      have y0 := ((bcell hbg).1 _ _ HZ2.out).trans HY0.out
      have y1 := ((bcell hbg).1 _ _ HZ2.out).trans HY1.out
      have hz1 : b < (grow (wr.drewN nq) osq).heap.size := Nat.lt_of_lt_of_le HZ1.out hbg.size
      have hz2 : b2 < (grow (wr.drewN nq) osq).heap.size := Nat.lt_of_lt_of_le HZ2.out hbg.size
      have hnk : nn = k := by
       have h1 := congrArg List.length HIN.out.1
       rw [HN.out.len, List.length_take, HO.out.len] at h1
       omega
      have HNK := hid hnk
      clear hnk f0 f1 f2 f3 HX0 HX1 HY0 HY1 HZ1 HZ2 HX2 HY2 hbg HN
      generalize grow (wr.drewN nq) osq = wx at *
      cases hlt : Op.bytesLess kx.toList ky.toList with
      | false =>
       have HI2 := hid (HIN.out.skip (HLT.out.trans hlt))
       go_wp2_with (at_builtin; refine wpList_append_row _ rfl (.tmp 49) (.tmp 54) _ rfl W0.heap.size 106 i0 (.agg #[.slice none 0 0, .int .i64 0]) 2 32 underlying103 HI.out.1 HI.out.2.1 HI.out.2.2.1 HI.out.2.2.2 rfl (by decide) (.slice AN (nn) cN) (nn) ((nx).flatMap grpCells) rfl (HN2.out.row.alloc _) ⟨wx.heap.size, 0, none⟩ 1 1 (grpCells y) rfl rfl (gp_new wx y _) (gp_one _) (by unfold maxLen; omega) (by omega) (by have h8 := HN2.out.old.size; simp; omega) ?_; intro v' w5 hown hg hwh; obtain ⟨A5, c5, rfl, h05⟩ := HN2.out.push y ((Below.refl _ _).alloc (Nat.le_refl _) _) hown hg; have HN5 := hid h05; clear hown hg hwh h05)
       go_roundw
       case rel => exact ⟨k + 1, A5, nn + 1, c5, nx ++ [y], false, by omega, by go_num, rfl, rfl, by omega, HN5, hid (by rw [HTO.out]; exact HI2.out)⟩
       case measure => simp [intOf]; omega
      | true =>
       have HI2 := hid (HIN.out.here (HLT.out.trans hlt))
       go_upto_region 14 with (at_builtin; refine wpList_append_row _ rfl (.tmp 42) (.tmp 47) _ rfl W0.heap.size 106 i0 (.agg #[.slice none 0 0, .int .i64 0]) 2 32 underlying103 HI.out.1 HI.out.2.1 HI.out.2.2.1 HI.out.2.2.2 rfl (by decide) (.slice AN (nn) cN) (nn) ((nx).flatMap grpCells) rfl (HN2.out.row.alloc _) ⟨wx.heap.size, 0, none⟩ 1 1 (grpCells x) rfl rfl (gp_new wx x _) (gp_one _) (by unfold maxLen; omega) (by omega) (by have h8 := HN2.out.old.size; simp; omega) ?_; intro v' w4 hown hg hwh; obtain ⟨A4, c4, rfl, h05⟩ := HN2.out.push x ((Below.refl _ _).alloc (Nat.le_refl _) _) hown hg; have HN4 := hid h05; clear hwh h05)
       obtain ⟨b3, off3, e3, hblt3, u0, u1⟩ := (HO.out.next HN4.out.old).at_ hkj hy
       injection e3 with e3
       injection e3 with e31 e32
       subst e31; subst e32
       clear y0 y1 x0 x1 HN2
       go_wp2_with (at_builtin; refine wpList_append_row _ rfl (.tmp 49) (.tmp 54) _ rfl W0.heap.size 106 i0 (.agg #[.slice none 0 0, .int .i64 0]) 2 32 underlying103 HI.out.1 HI.out.2.1 HI.out.2.2.1 HI.out.2.2.2 rfl (by decide) (.slice A4 (nn + 1) c4) (nn + 1) ((nx ++ [x]).flatMap grpCells) rfl (HN4.out.row.alloc _) ⟨w4.heap.size, 0, none⟩ 1 1 (grpCells y) rfl rfl (gp_new w4 y _) (gp_one _) (by unfold maxLen; omega) (by omega) (by have h8 := HN4.out.old.size; simp; omega) ?_; intro v' w5 hown hg hwh; obtain ⟨A5, c5, rfl, h05⟩ := HN4.out.push y ((Below.refl _ _).alloc (Nat.le_refl _) _) hown hg; have HN5 := hid h05; clear hown hg hwh h05)
       go_roundw
       case rel => exact ⟨k + 1, A5, nn + 1 + 1, c5, nx ++ [x] ++ [y], true, by omega, by go_num, rfl, rfl, by have := HNK.out; omega, HN5, hid (by rw [HTO.out]; exact HI2.out)⟩
       case measure => simp [intOf]; omega
    ·have hkj2 : k = j := by omega
     subst hkj2
     have htk : lo.take k = lo := List.take_of_length_le (by rw [HO.out.len]; omega)
     rw [htk] at HIN
     have hil : (insS (ltG ps) x lo).length = k + 1 := by rw [(insS_perm x lo).length_eq, List.length_cons, HO.out.len]
     cases p with
     | true =>
      obtain rfl : nx = insS (ltG ps) x lo := HIN.out.done
      obtain rfl : nn = k + 1 := by rw [← HN.out.len]; exact hil
      have HGN := hid (HN.out.grps (B := w.heap.size) HWW.out.size HO.out HL.out (List.mem_of_getElem? HX.out))
      have HBN := hid (below_next HB.out HN.out.old)
      clear x0 x1 hblt HN HIN
      go_wp2
      go_roundw
      case rel => exact ⟨k + 1, AN, cN, by omega, by go_num, rfl, hid (by rw [HTK.out]; exact HGN.out), HBN⟩
      case measure => simp [intOf]; omega
     | false =>
      have HLA := hid (HIN.out.last)
      have hnn2 : nn + 1 = k + 1 := by
       have h1 := congrArg List.length HIN.out.last
       rw [hil, lA, HN.out.len] at h1
       exact h1
      go_wp2_with (at_builtin; refine wpList_append_row _ rfl (.tmp 58) (.tmp 63) _ rfl W0.heap.size 106 i0 (.agg #[.slice none 0 0, .int .i64 0]) 2 32 underlying103 HI.out.1 HI.out.2.1 HI.out.2.2.1 HI.out.2.2.2 rfl (by decide) (.slice AN nn cN) (nn) ((nx).flatMap grpCells) rfl (HN.out.row.alloc _) ⟨wr.heap.size, 0, none⟩ 1 1 (grpCells x) rfl rfl (gp_new wr x _) (gp_one _) (by unfold maxLen; omega) (by omega) (by have h8 := HN.out.old.size; simp; omega) ?_; intro v' w5 hown hg hwh; obtain ⟨A5, c5, rfl, h05⟩ := HN.out.push x ((Below.refl _ _).alloc (Nat.le_refl _) _) hown hg; have HN5 := hid h05; clear hown hg hwh h05)
      rw [HLA.out] at HN5
      have HGN := hid (HN5.out.grps (B := w.heap.size) HWW.out.size HO.out HL.out (List.mem_of_getElem? HX.out))
      have HBN := hid (below_next HB.out HN5.out.old)
      rw [hnn2] at HGN
      clear x0 x1 hblt HN HIN HN5
      go_roundw
      case rel => exact ⟨k + 1, A5, c5, by omega, by go_num, rfl, hid (by rw [HTK.out]; exact HGN.out), HBN⟩
      case measure => simp [intOf]; omega
  ·have hjn : j = n1 := by omega
   subst hjn
   have htk : l1.take j = l1 := List.take_of_length_le (by rw [HG1.out.len]; omega)
   rw [htk] at HO
   go_wp2
   go_ret
   exact ⟨AO, j, cO, _, rfl, HO.out, HORD.out, HWW.out⟩
end Go.Proofs.YtgaajcbklkchjaaGreatDoor

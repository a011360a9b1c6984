/-
  Put together by program (shake.py): FiM, FiN, FiO.
-/
import Derived.Test.YtgbikafalcbibaaGreatDoorMiYE
set_option maxRecDepth 100000
set_option maxHeartbeats 25600000
set_option linter.unusedVariables false
set_option linter.unusedSimpArgs false
open Go.Lib (hid)
open Go.Proofs.Tryz
namespace Go.Proofs.YtgbikafalcbibaaGreatDoor
open Go.RowKit
theorem Mine.far_ {w : World} {B g s n c : Nat} {e : TypeId} {xs : List Value} (h : Mine w B e s (some ⟨g, 0, none⟩) n c xs) {p : Addr} (hp : g ≠ p.block) (u : Value) : Mine (w.setCell p u) B e s (some ⟨g, 0, none⟩) n c xs := by
 have hl := h.len
 rcases h.own with ⟨h1, _⟩ | ⟨g', h1, hB, hn, hc, ho⟩
 ·cases h1
 ·injection h1 with h1; injection h1 with h1; subst h1
  exact Mine.mk_own (ho.far hp u) hl hB hn hc
theorem specMembers_no (A : Option Addr) (n c : Nat) (ps : List PN) (w : World) (hn : n ≤ 1048576) (hps : Nps w A n ps) (hb : Hid (PNs ps)) (htr : treeB ps = false) :
  Calls prog 26 #[.slice A n c] w (IntsM w []) := by
 have HT := hid (fun (W : World) (hW : Below w.heap.size w W) => specTreeOk_any A n c ps W hn (hps.next hW) hb)
 rw [htr] at HT
 unfold IntsM
 clear htr hps hb
 go_enter func26, ntmps26
 go_wp2_with fail
 refine (HT.out _ grow_).mono ?_
 rintro e w1 ⟨rfl, h1⟩
 have M0 := hid (show Mine w1 w.heap.size 3 1 (some ⟨w.heap.size, 0, none⟩) 0 0 [] from Mine.next (own_empty w 3 1) h1)
 have hb := below_next1 (Below.refl _ _) h1
 clear h1
 go_wp2
 go_ret
 exact ⟨_, _, rfl, M0.out, hb⟩
theorem specMembers_yes (A : Option Addr) (n c : Nat) (ps : List PN) (w : World) (hps : Nps w A n ps) (hb : Hid (PNs ps)) (htr : treeB ps = true) :
  Calls prog 26 #[.slice A n c] w (IntsM w (trueTo (memTo ps n) n)) := by
 obtain ⟨i0, hi, hz0, hz1, hz2⟩ := info_parts infoInt
 have HII := hid (And.intro hi (And.intro hz0 (And.intro hz1 hz2)))
 obtain ⟨j0, hj, hy0, hy1, hy2⟩ := info_parts infoBool
 obtain ⟨m, hm, hm3, hg, hu⟩ := tree_one htr
 have hl := hps.len
 have hn : n ≤ 300 := by omega
 have HT := hid (fun (W : World) (hW : Below w.heap.size w W) => specTreeOk_any A n c ps W (by omega) (hps.next hW) hb)
 rw [htr] at HT
 have hmk := fun W => run_make_rowN (P := prog) 81 4 j0 _ underlying81 hj hy0 .i64 .i64 n n (Nat.le_refl _) (by rw [hy2]; omega) (by omega) W
 rw [hy1, Nat.mul_one] at hmk
 simp only [Value.cells] at hmk
 have HFZ := hid (fun (W : World) => Own.falses (w := W) (e := 4) n)
 obtain ⟨M, hM⟩ : ∃ M, memTo ps = M := ⟨_, rfl⟩
 have HM0 := hid (show M 0 = List.replicate n false by rw [← hM, ← hl]; rfl)
 have HML := hid (show ∀ i, (M i).length = n from fun i => by rw [← hM, memTo_len, hl])
 have HMN := hid (show ∀ (i : Nat) (p : PN), ps[i]? = some p → (p.kind == 22 || p.kind == 21) = false → M (i + 1) = M i from fun i p hp hk => by
  rw [← hM]; conv => lhs; unfold memTo
  rw [hp]; dsimp only; rw [hk]; rfl)
 have HMY := hid (show ∀ (i : Nat) (p : PN), ps[i]? = some p → (p.kind == 22 || p.kind == 21) = true → M (i + 1) = p.kids.foldl (memStep ps) (M i) from fun i p hp hk => by
  rw [← hM]; conv => lhs; unfold memTo
  rw [hp]; dsimp only; rw [if_pos hk])
 rw [hM]
 obtain ⟨S, hS⟩ : ∃ S, M n = S := ⟨_, rfl⟩
 have HMS := hid hS
 have HSL := hid (show S.length = n by rw [← hS]; exact HML.out n)
 rw [hS]
 obtain ⟨F, hF⟩ : ∃ F, trueTo S = F := ⟨_, rfl⟩
 have HFS := hid (show ∀ i, F (i + 1) = F i ++ (if S.getD i false = true then [(i : Int)] else []) from fun i => by rw [← hF]; rfl)
 have HFL := hid (show ∀ i, (F i).length ≤ i from fun i => by rw [← hF]; exact trueTo_len S i)
 have HF0 := hid (show F 0 = [] by rw [← hF]; rfl)
 rw [hF]
 have HG := hid hg
 have HPS := hid hps
 unfold IntsM
 clear hi hz0 hz1 hz2 hj hy0 hy1 hy2 hm hm3 hg hu hl hps hb htr hM hS hF
 go_enter func26, ntmps26
 go_wp2_with fail
 refine (HT.out _ grow_).mono ?_
 rintro e w1 ⟨rfl, h1⟩
 have HO1 := hid (show Mine w1 w.heap.size 3 1 (some ⟨w.heap.size, 0, none⟩) 0 0 [] from Mine.next (own_empty w 3 1) h1)
 have HB1 := hid (below_next1 (Below.refl _ _) h1)
 have hz1s : w.heap.size < w1.heap.size := by have := h1.size; simp at this; omega
 clear h1 HT
 have HR1 := hid (HFZ.out w1)
 have HO2 := hid (Mine.alloc HO1.out (.cells (madeCells #[.bool false] n) 4))
 have HB2 := hid (HB1.out.alloc HB1.out.size (.cells (madeCells #[.bool false] n) 4))
 have hz1 := HB1.out.size
 go_wp2
 clear hmk
 go_loopw [5] (fun x wr => ∃ i : Nat, i ≤ n ∧ x = .int .i64 i ∧ Hid (Own wr w1.heap.size 4 n (boolCells (M i))) ∧ Hid (Mine wr w.heap.size 3 1 (some ⟨w.heap.size, 0, none⟩) 0 0 []) ∧ Hid (Below w.heap.size w wr)) (fun x _ => n - (intOf x).toNat)
 case atStart => exact ⟨0, Nat.zero_le _, rfl, by rw [HM0.out]; exact HR1, HO2, HB2⟩
 case round =>
  clear HR1 HO1 HO2 HB2 HB1
  obtain ⟨i, hi, rfl, HR, HO, HB⟩ := hrel
  by_cases hin : i < n
  ·obtain ⟨p, hp⟩ := HPS.out.get hin
   obtain ⟨hk12, hkv⟩ := HG.out i p hp
   obtain ⟨ks, hks⟩ : ∃ ks, p.kids = ks := ⟨_, rfl⟩
   obtain ⟨ml, hml⟩ : ∃ ml, ks.length = ml := ⟨_, rfl⟩
   obtain ⟨K, hK⟩ : ∃ K, (p.kind == 22 || p.kind == 21) = K := ⟨_, rfl⟩
   obtain ⟨G, hG⟩ : ∃ G, (fun j => if K = true then (ks.take j).foldl (memStep ps) (M i) else M i) = G := ⟨_, rfl⟩
   have HKN := hid (show K = false → M (i + 1) = G 0 from fun h => by rw [← hG]; dsimp only; rw [h, if_neg (by decide)]; exact HMN.out i p hp (by rw [hK, h]))
   have HKY := hid (show K = true → M (i + 1) = G ml from fun h => by rw [← hG]; dsimp only; rw [if_pos h, ← hml, List.take_length, ← hks]; exact HMY.out i p hp (by rw [hK, h]))
   have HKZ := hid (show ml = 0 → M (i + 1) = G 0 from fun h => by
    cases hKb : K with
    | false => exact HKN.out hKb
    | true => rw [HKY.out hKb, h])
   have HG0 := hid (show G 0 = M i by rw [← hG]; dsimp only; split <;> rfl)
   have HGS := hid (show K = true → ∀ (j : Nat) (v : Int), ks[j]? = some v → G (j + 1) = (G j).set v.toNat (kindAt ps v != 19) from fun h j v hv => by
    rw [← hG]
    dsimp only
    rw [if_pos h, if_pos h, List.take_add_one, hv, Option.toList_some, List.foldl_append]
    rfl)
   have HGL := hid (show ∀ j, (G j).length = n from fun j => by
    rw [← hG]
    dsimp only
    split
    ·rw [memStep_len, HML.out]
    ·exact HML.out i)
   rw [hks] at hkv hk12
   have HKV := hid hkv
   have HML2 := hid hml
   have hml12 : ml ≤ 12 := by omega
   obtain ⟨b, off, A', c', rfl, hblt0, y0, _, y2, _, _, hkr⟩ := HPS.out.atc hin hp
   rw [hks, hml] at y2 hkr
   have HKR := hid hkr
   have HX0 := hid (fun (W : World) (h : Below w.heap.size w W) => ((bcell h).1 _ _ hblt0).trans y0)
   have HX2 := hid (fun (W : World) (h : Below w.heap.size w W) => ((bcell h).1 _ _ hblt0).trans y2)
   have HBL := hid (fun (W : World) (h : Below w.heap.size w W) => show b < W.heap.size by have := h.size; omega)
   have hi1 : (i : Int) < (n : Int) := by omega
   rw [← HG0.out] at HR
   have HKB := hid hK
   clear hp hks hml hG hkv y0 y2 hkr hblt0 hK
   rename World => wo
   go_wp2
   go_loopw [6] (fun x wr => ∃ j : Nat, j ≤ ml ∧ x = .int .i64 j ∧ (K = false → j = 0) ∧ Hid (Own wr w1.heap.size 4 n (boolCells (G j))) ∧ Hid (Mine wr w.heap.size 3 1 (some ⟨w.heap.size, 0, none⟩) 0 0 []) ∧ Hid (Below w.heap.size w wr)) (fun x _ => ml - (intOf x).toNat)
   case atStart => exact ⟨0, Nat.zero_le _, rfl, fun _ => rfl, HR, HO, HB⟩
   case round =>
    clear HR HO HB
    obtain ⟨j, hj, rfl, hj0, HR, HO, HB⟩ := hrel
    have x0 := HX0.out _ HB.out
    have x2 := HX2.out _ HB.out
    have hblt := HBL.out _ HB.out
    by_cases hjm : j < ml
    ·have hjm' : (j : Int) < (ml : Int) := by omega
     obtain ⟨v, hv⟩ : ∃ v, ks[j]? = some v := ⟨_, gE (by rw [HML2.out]; exact hjm)⟩
     have hvb := HKV.out v (List.mem_of_getElem? hv)
     obtain ⟨q, rfl⟩ := Int.eq_ofNat_of_zero_le hvb.1
     have hqn : q < n := by omega
     have hq1 : (q : Int) < (n : Int) := by omega
     obtain ⟨b7, off7, e7, hblt7, c7⟩ := int_at (HKR.out.below HB.out) hjm hv
     subst e7
     obtain ⟨p', hp'⟩ := HPS.out.get hqn
     obtain ⟨b8, off8, A8, c8, e8, hblt8, y0, _, _, _, _, _⟩ := HPS.out.atc hqn hp'
     injection e8 with e8
     injection e8 with e81 e82
     subst e81; subst e82
     have z0 := ((bcell HB.out).1 _ _ hblt8).trans y0
     have hka := kindAt_some hp'
     cases K with
     | true =>
      have HGj := hid (HGS.out rfl j _ hv)
      rw [Int.toNat_natCast, hka] at HGj
      have hlG := HGL.out j
      clear hv hvb y0 hblt8 hp' hka
      rcases bft (p.kind == 22) with g2 | g2
      ·go_upto_region 11 with fail
       go_still_tail 23, (by kernel_rfl)
       change wpList _ _ _ _ _ wr.drew
       have hd := (Below.refl wr.heap.size wr).drew
       have HRd := hid (HR.out.next hd)
       have HOd := hid (HO.out.next hd)
       have HBd := hid (below_next HB.out hd)
       clear hd x0 x2 hblt c7 hblt7 z0 HR HO HB
       generalize wr.drew = wd at HRd HOd HBd ⊢
       have HR3 := hid (bools_put (x := (p'.kind != 19)) HRd.out (show q < (G j).length by rw [hlG]; exact hqn))
       rw [← HGj.out] at HR3
       obtain ⟨u0, hu0⟩ := HRd.out.there (show q < n from hqn)
       have huf := HRd.out.frozen
       have huz := HRd.out.lt
       have HO3 := hid (Mine.far_ HOd.out (p := ⟨w1.heap.size, q, none⟩) (show w.heap.size ≠ w1.heap.size by omega) (.bool (p'.kind != 19)))
       have HB3 := hid (HBd.out.setCell (show w.heap.size ≤ (⟨w1.heap.size, q, none⟩ : Addr).block from hz1) (.bool (p'.kind != 19)))
       clear HRd HOd HBd
       go_wp2
       go_roundw
       case rel => exact ⟨j + 1, by omega, by go_num, fun h => (by cases h), HR3, HO3, HB3⟩
       case measure => simp [intOf]; omega
      ·have g1 : (p.kind == 21) = true := by have := HKB.out; rw [g2, Bool.false_or] at this; exact this
       go_upto_region 11 with fail
       go_still_tail 23, (by kernel_rfl)
       change wpList _ _ _ _ _ wr.drew
       have hd := (Below.refl wr.heap.size wr).drew
       have HRd := hid (HR.out.next hd)
       have HOd := hid (HO.out.next hd)
       have HBd := hid (below_next HB.out hd)
       clear hd x0 x2 hblt c7 hblt7 z0 HR HO HB
       generalize wr.drew = wd at HRd HOd HBd ⊢
       have HR3 := hid (bools_put (x := (p'.kind != 19)) HRd.out (show q < (G j).length by rw [hlG]; exact hqn))
       rw [← HGj.out] at HR3
       obtain ⟨u0, hu0⟩ := HRd.out.there (show q < n from hqn)
       have huf := HRd.out.frozen
       have huz := HRd.out.lt
       have HO3 := hid (Mine.far_ HOd.out (p := ⟨w1.heap.size, q, none⟩) (show w.heap.size ≠ w1.heap.size by omega) (.bool (p'.kind != 19)))
       have HB3 := hid (HBd.out.setCell (show w.heap.size ≤ (⟨w1.heap.size, q, none⟩ : Addr).block from hz1) (.bool (p'.kind != 19)))
       clear HRd HOd HBd
       go_wp2
       go_roundw
       case rel => exact ⟨j + 1, by omega, by go_num, fun h => (by cases h), HR3, HO3, HB3⟩
       case measure => simp [intOf]; omega
     | false =>
      obtain rfl := hj0 rfl
      have gg := HKB.out
      rw [Bool.or_eq_false_iff] at gg
      obtain ⟨g2, g1⟩ := gg
      have HE := hid (HKN.out rfl)
      rw [← HE.out] at HR
      clear hv hvb y0 z0 hblt8 hp' hka c7 hblt7
      go_wp2
      exact ⟨⟨i + 1, by omega, by go_num, HR, HO, HB⟩, by simp [intOf]; omega⟩
    ·obtain rfl : j = ml := by omega
     have HE : Hid (M (i + 1) = G j) := (show M (i + 1) = G j by
      cases hKb : K with
      | true => exact HKY.out hKb
      | false => rw [hj0 hKb]; exact HKN.out hKb)
     rw [← HE.out] at HR
     go_wp2
     exact ⟨⟨i + 1, by omega, by go_num, HR, HO, HB⟩, by simp [intOf]; omega⟩
  ·obtain rfl : n = i := by omega
   rw [HMS.out] at HR
   clear HMN HMY HML HM0
   go_wp2
   go_loopw [3, 7] (fun o x wr => ∃ (i : Nat) (A : Option Addr) (c : Nat), i ≤ n ∧ x = .int .i64 i ∧ o = .slice A (F i).length c ∧ Hid (Mine wr w.heap.size 3 1 A (F i).length c (intCells (F i))) ∧ Hid (Own wr w1.heap.size 4 n (boolCells S)) ∧ Hid (Below w.heap.size w wr)) (fun _ x _ => n - (intOf x).toNat)
   case atStart =>
    refine ⟨0, some ⟨w.heap.size, 0, none⟩, 0, Nat.zero_le _, rfl, ?_, ?_, HR, HB⟩
    all_goals rw [HF0.out]
    ·rfl
    ·exact HO
   case round =>
    clear HO HR HB
    obtain ⟨i, A3, c3, hi, rfl, rfl, HO, HR, HB⟩ := hrel
    have hfl := HFL.out i
    have hst := hid (HFS.out i)
    obtain ⟨xs, hxs⟩ : ∃ xs, F i = xs := ⟨_, rfl⟩
    rw [hxs] at HO hfl hst
    rw [hxs]
    obtain ⟨n1, hn1⟩ : ∃ n1, xs.length = n1 := ⟨_, rfl⟩
    have Hn1 := hid hn1
    rw [hn1] at HO hfl ⊢
    have HXS := hid hxs
    clear hn1 hxs
    have hbz := HB.out.size
    by_cases hin : i < n
    ·have c0 := bool_at HR.out (show i < S.length by rw [HSL.out]; exact hin)
     have cz := HR.out.lt
     have hi1 : (i : Int) < (n : Int) := by omega
     rcases bft (S.getD i false) with hb | hb
     ·rw [hb] at c0
      rw [if_pos hb] at hst
      clear hb
      go_wp2_with (at_builtin; (refine wpList_append_own _ rfl (.tmp 81) (.tmp 83) _ rfl w.heap.size 3 i0 (.int .i64 0) 1 8 underlying34 HII.out.1 HII.out.2.1 HII.out.2.2.1 HII.out.2.2.2 rfl (by decide) _ _ _ rfl (Mine.alloc HO.out _) ⟨wr.heap.size, 0, none⟩ 1 1 [.int .i64 i] rfl rfl (int_new _ _ _) (int_one _) (by unfold maxLen; omega) (by omega) (by simp; omega) ?_); intro v' w3 hown3 hg3 hnil3)
      have hr : ∀ q, (Value.slice A3 n1 c3).ownBlock = some q → w.heap.size ≤ q ∧ ∃ cs, Blk (wr.alloc (.cells #[.int .i64 i] 3)) q 3 cs := fun q e => by
       rw [ownBlk] at e
       exact ⟨(Mine.blk HO.out e).1, mine_blk' (Mine.alloc HO.out (.cells #[.int .i64 i] 3)) e⟩
      have HR3 := hid ((HR.out.alloc (.cells #[.int .i64 i] 3)).grown' hg3 (fun q e => by obtain ⟨_, cs, hk⟩ := hr q e; exact ⟨_, cs, hk, by decide⟩))
      have HB3 := hid ((HB.out.alloc hbz (.cells #[.int .i64 i] 3)).grown hg3 (HB.out.alloc hbz (.cells #[.int .i64 i] 3)).size (fun q e => (hr q e).1))
      obtain ⟨A5, c5, rfl, m5⟩ := Mine.of hown3
      rw [← ints_snoc] at m5
      have HO3 := hid m5
      clear hown3 hg3 hnil3 hr m5 HO HR HB c0 cz
      go_wp2
      go_roundw
      case rel => exact ⟨i + 1, A5, c5, by omega, by go_num, by rw [hst.out, lA, Hn1.out]; rfl, by rw [hst.out, lA, Hn1.out]; exact HO3, HR3, HB3⟩
      case measure => simp [intOf]; omega
     ·rw [hb] at c0
      rw [if_neg (by rw [hb]; decide), List.append_nil] at hst
      clear hb
      go_wp2
      go_roundw
      case rel => exact ⟨i + 1, A3, c3, by omega, by go_num, by rw [hst.out, Hn1.out], by rw [hst.out, Hn1.out]; exact HO, HR, HB⟩
      case measure => simp [intOf]; omega
    ·obtain rfl : i = n := by omega
     go_wp2
     go_ret
     rw [HXS.out, Hn1.out]
     exact ⟨A3, c3, rfl, HO.out, HB.out⟩
theorem specFindUnused_no (t : ByteArray) (w : World) (ht : t.size ≤ 1048576) (h : readP t = none) : Calls prog 12 #[.string t] w (FindM w []) := by
 have HR := hid (fun W => specRead_any t W ht)
 unfold SRd at HR
 rw [h] at HR
 unfold FindM
 clear h
 go_enter func12, ntmps12
 go_wp2_with fail
 refine (HR.out _).mono ?_
 rintro e w1 ⟨h1, g, p, rfl, hnps⟩
 have M0 := hid (show Mine w1 w.heap.size 41 3 (some ⟨w.heap.size, 0, none⟩) 0 0 [] from Mine.next (own_empty w 41 3) h1)
 have hb := below_next1 (Below.refl _ _) h1
 have HMb := hid (specMembers_no (some ⟨g, 0, none⟩) 0 0 [] w1 (by omega) hnps.nps (hid (show PNs [] from fun p hp => by cases hp)) rfl)
 unfold IntsM at HMb
 clear h1 hnps HR
 go_wp2_with fail
 refine HMb.out.mono ?_
 rintro e w2 ⟨A2, c2, rfl, _, h2⟩
 have M2 := hid (M0.out.next h2)
 have hb2 := below_next hb h2
 clear h2 hb M0 HMb
 go_wp2
 go_loopw [3, 8] (fun o i wr => o = .slice (some ⟨w.heap.size, 0, none⟩) 0 0 ∧ i = .int .i64 0 ∧ Hid (Mine wr w.heap.size 41 3 (some ⟨w.heap.size, 0, none⟩) 0 0 []) ∧ Below w.heap.size w wr) (fun _ i _ => 0)
 case atStart => exact ⟨rfl, rfl, M2, hb2⟩
 case round =>
  obtain ⟨rfl, rfl, HM, hb⟩ := hrel
  go_wp2
  go_ret
  exact ⟨_, _, rfl, HM.out, hb⟩
theorem specFindUnused_yes (t : ByteArray) (w : World) (ht : t.size ≤ 1048576) (ps : List PN) (h : readP t = some ps) : Calls prog 12 #[.string t] w (FindM w (unusedTo t ps ps.length)) := by
 obtain ⟨i0, hi, hz0, hz1, hz2⟩ := info_parts infoFindingI
 have HII := hid (And.intro hi (And.intro hz0 (And.intro hz1 hz2)))
 have HR := hid (fun W => specRead_any t W ht)
 unfold SRd at HR
 rw [h] at HR
 dsimp only at HR
 have HLn := hid (fun (A : Option Addr) (n c : Nat) (k : Int) (W : World) h1 h2 h3 => specLine_any t A n c ps k W ht h1 h2 h3)
 have HPN := hid (readP_some h).2.2
 have htr := (readP_some h).1
 obtain ⟨m, hm, hm3, hg, hu⟩ := tree_one htr
 obtain ⟨n, hn⟩ : ∃ n, ps.length = n := ⟨_, rfl⟩
 have hn3 : n ≤ 300 := by omega
 have HUn := hid (fun (A : Option Addr) (c k : Nat) (W : World) (hps : Nps W A n ps) (hk : k < n) => specUnused_any A n c ps k W hps HPN htr hk)
 have HMb := hid (fun (A : Option Addr) (c : Nat) (W : World) (hps : Nps W A n ps) => specMembers_yes A n c ps W hps HPN htr)
 have hfl := members_flat (t := t) htr
 rw [hn] at hfl HR
 obtain ⟨L, hL⟩ : ∃ L, trueTo (memTo ps n) n = L := ⟨_, rfl⟩
 have HLM := hid (show ∀ v ∈ L, ∃ q : Nat, v = (q : Int) ∧ q < n from fun v hv => by
  rw [← hL] at hv
  obtain ⟨j, h1, h2, _⟩ := trueTo_mem hv
  exact ⟨j, h1, h2⟩)
 have hLl : L.length ≤ n := by rw [← hL]; exact trueTo_len _ _
 rw [hL] at HMb hfl
 unfold IntsM at HMb
 unfold TextsM at HUn
 obtain ⟨ml, hml⟩ : ∃ ml, L.length = ml := ⟨_, rfl⟩
 rw [hml] at HMb hLl
 have HML := hid hml
 obtain ⟨F, hF⟩ : ∃ F, (fun i => (L.take i).flatMap (unStep t ps)) = F := ⟨_, rfl⟩
 have HFE := hid (show F ml = unusedTo t ps n by rw [← hfl, ← hF]; dsimp only; rw [← hml, List.take_length])
 have HF0 := hid (show F 0 = [] by rw [← hF]; rfl)
 have HFS := hid (show ∀ (i : Nat) (v : Int), L[i]? = some v → F (i + 1) = F i ++ unStep t ps v from fun i v hv => by
  rw [← hF]
  dsimp only
  rw [List.take_add_one, hv, Option.toList_some, List.flatMap_append]
  simp)
 have HFL := hid (show ∀ i, i ≤ ml → (F i).length ≤ i * 301 from fun i => by
  induction i with
  | zero => intro _; rw [HF0.out]; simp
  | succ i ih =>
   intro hi
   obtain ⟨v, hv⟩ : ∃ v, L[i]? = some v := ⟨_, gE (by rw [hml]; omega)⟩
   obtain ⟨q, rfl, hq⟩ := HLM.out v (List.mem_of_getElem? hv)
   have h1 := unStep_len t ps q
   have h2 := ih (by omega)
   rw [HFS.out i _ hv, lA]
   omega)
 have HSY := hid (fun (k : Nat) (p : PN) (hp : ps[k]? = some p) (hk : (p.kind == 20) = true) => unStep_20 (t := t) hp hk)
 have HSN := hid (fun (k : Nat) (p : PN) (hp : ps[k]? = some p) (hk : (p.kind == 20) = false) => unStep_no (t := t) hp hk)
 have HUL := hid (show ∀ k, k < n → (unusedP ps k).length ≤ 300 from fun k hk => by
  have h1 := letsP_len ps k
  have h2 : (unusedP ps k).length ≤ (letsP ps k).length := List.length_filter_le _ _
  omega)
 rw [hn, ← HFE.out]
 unfold FindM
 clear hi hz0 hz1 hz2 h htr hm hm3 hg hu hn hfl hL hml hF
 go_enter func12, ntmps12
 go_wp2_with fail
 refine (HR.out _).mono ?_
 rintro e w1 ⟨h1, AN, cN, rfl, hnps⟩
 have HM0 := hid (show Mine w1 w.heap.size 41 3 (some ⟨w.heap.size, 0, none⟩) 0 0 [] from Mine.next (own_empty w 41 3) h1)
 have HN1 := hid (hnps.more (show w.heap.size ≤ _ by simp))
 have HB1 := hid (below_next1 (Below.refl _ _) h1)
 have HMb1 := hid (HMb.out AN cN w1 hnps.nps)
 clear hnps h1 HR HMb
 go_wp2_with fail
 refine HMb1.out.mono ?_
 rintro e w2 ⟨AI, cI, rfl, hmi, h2⟩
 have HF1 : Hid (SF w AN n cN ps AI cI L none 0 [] (some ⟨w.heap.size, 0, none⟩) 0 [] w2) := (show SF w AN n cN ps AI cI L none 0 [] (some ⟨w.heap.size, 0, none⟩) 0 [] w2 from ⟨HN1.out.next h2, by rw [HML.out]; exact hmi.more HB1.out.size, Mine.mk_nil _ _ _ _, HM0.out.next h2, below_next HB1.out h2⟩)
 clear h2 hmi HM0 HN1 HB1 HMb1
 go_wp2
 go_loopw [3, 8] (fun o i wr => ∃ (k : Nat) (A : Option Addr) (c : Nat), k ≤ ml ∧ i = .int .i64 k ∧ o = .slice A (F k).length c ∧ Hid (SF w AN n cN ps AI cI L none 0 [] A c (F k) wr)) (fun _ i _ => ml - (intOf i).toNat)
 case atStart =>
  refine ⟨0, some ⟨w.heap.size, 0, none⟩, 0, Nat.zero_le _, rfl, ?_, ?_⟩
  all_goals rw [HF0.out]
  ·rfl
  ·exact HF1
 case round =>
  clear HF1
  obtain ⟨k, A, c, hk, rfl, rfl, HSF⟩ := hrel
  have hl1 := HFL.out k hk
  by_cases hkn : k < ml
  ·obtain ⟨v, hvk⟩ : ∃ v, L[k]? = some v := ⟨_, gE (by rw [HML.out]; exact hkn)⟩
   obtain ⟨q, rfl, hq⟩ := HLM.out v (List.mem_of_getElem? hvk)
   obtain ⟨p1, hp1⟩ := HSF.out.1.nps.get hq
   have HS1 := hid (HFS.out k _ hvk)
   obtain ⟨b7, off7, e7, hblt7, c7⟩ := int_at HSF.out.2.1.rd (by rw [HML.out]; exact hkn) hvk
   subst e7
   obtain ⟨b', off', A2, c2, e8, hblt', x0, x1, x2, x3, _, _⟩ := HSF.out.1.nps.atc hq hp1
   subst e8
   have hi1 : (k : Int) < (ml : Int) := by omega
   have hq1 : (q : Int) < (n : Int) := by omega
   clear x1 x2 x3
   rcases bft (p1.kind == 20) with g1 | g1
   ·rw [HSY.out q p1 hp1 g1] at HS1
    have hul := HUL.out q hq
    have HUq := hid (fun (W : World) (h : Below wr.heap.size wr W) => HUn.out (some ⟨b', off', none⟩) cN q W (HSF.out.next h).1.nps hq)
    obtain ⟨us, hus⟩ : ∃ us, unusedP ps q = us := ⟨_, rfl⟩
    rw [hus] at HUq HS1 hul
    obtain ⟨nu, hnu⟩ : ∃ nu, us.length = nu := ⟨_, rfl⟩
    rw [hnu] at HUq hul
    have HNU := hid hnu
    obtain ⟨D, hD⟩ : ∃ D, lineN t (firstV ps q) = D := ⟨_, rfl⟩
    have HD := hid hD
    rw [hD] at HS1
    obtain ⟨fs, hfs⟩ : ∃ fs, F k = fs := ⟨_, rfl⟩
    have HFk := hid hfs
    rw [hfs] at HSF hl1 HS1 ⊢
    obtain ⟨G, hG⟩ : ∃ G, (fun j => fs ++ (us.take j).map (fun s => ((2 : Int), D, s))) = G := ⟨_, rfl⟩
    have HG0 := hid (show G 0 = fs by rw [← hG]; simp)
    have HGE := hid (show F (k + 1) = G nu by rw [HS1.out, ← hG]; dsimp only; rw [← hnu, List.take_length])
    have HGS := hid (show ∀ (j : Nat) (s : ByteArray), us[j]? = some s → G (j + 1) = G j ++ [((2 : Int), D, s)] from fun j s hs => by
     rw [← hG]
     dsimp only
     rw [List.take_add_one, hs, Option.toList_some, List.map_append, List.append_assoc]
     rfl)
    have HGL := hid (show ∀ j, j ≤ nu → (G j).length ≤ 90600 from fun j hj => by
     rw [← hG]
     dsimp only
     rw [lA, List.length_map, List.length_take]
     omega)
    have HVK := hid hvk
    clear hp1 hus hnu hD hfs hG hl1 hvk
    go_wp2_with fail
    refine (HUq.out _ grow_).mono ?_
    rintro e w3 ⟨AS, cS, rfl, hms, h3⟩
    have hzz := HSF.out.2.2.2.2.size
    have HS3 : Hid (SF w (some ⟨b', off', none⟩) n cN ps (some ⟨b7, off7, none⟩) cI L AS cS us A c (G 0) w3) := (show SF w (some ⟨b', off', none⟩) n cN ps (some ⟨b7, off7, none⟩) cI L AS cS us A c (G 0) w3 from by
     rw [HG0.out]
     have h := HSF.out.next h3
     exact ⟨h.1, h.2.1, by rw [HNU.out]; exact hms.more hzz, h.2.2.2.1, h.2.2.2.2⟩)
    rw [show fs.length = (G 0).length by rw [HG0.out]]
    clear hms h3 HSF HUq x0 c7 hblt7 hblt' hzz
    rename World => wo
    go_wp2
    go_loopw [3, 10] (fun o i wr => ∃ (j : Nat) (A : Option Addr) (c : Nat), j ≤ nu ∧ i = .int .i64 j ∧ o = .slice A (G j).length c ∧ Hid (SF w (some ⟨b', off', none⟩) n cN ps (some ⟨b7, off7, none⟩) cI L AS cS us A c (G j) wr)) (fun _ i _ => nu - (intOf i).toNat)
    case atStart => exact ⟨0, A, c, Nat.zero_le _, rfl, rfl, HS3⟩
    case round =>
     clear HS3
     obtain ⟨j, A, c, hj, rfl, rfl, HSF⟩ := hrel
     have hl1 := HGL.out j hj
     obtain ⟨gs, hgs⟩ : ∃ gs, G j = gs := ⟨_, rfl⟩
     have HGk := hid hgs
     rw [hgs] at HSF hl1 ⊢
     obtain ⟨n1, hn1⟩ : ∃ n1, gs.length = n1 := ⟨_, rfl⟩
     have Hn1 := hid hn1
     rw [hn1] at hl1 ⊢
     clear hn1 hgs
     by_cases hjn : j < nu
     ·obtain ⟨s, hs⟩ : ∃ s, us[j]? = some s := ⟨_, gE (by rw [HNU.out]; exact hjn)⟩
      have HGj := hid (HGS.out j s hs)
      rw [HGk.out] at HGj
      obtain ⟨bs, offs, es, hblts, cs0⟩ := str_at HSF.out.2.2.1.rd (by rw [HNU.out]; exact hjn) hs
      subst es
      have hvk := HVK.out
      obtain ⟨b9, off9, e9, hblt9, c9⟩ := int_at HSF.out.2.1.rd (by rw [HML.out]; exact hkn) hvk
      injection e9 with e9
      injection e9 with e91 e92
      subst e91; subst e92
      have hj1 : (j : Int) < (nu : Int) := by omega
      have HM := hid HSF.out.2.2.2.1
      rw [Hn1.out] at HM
      have hbz := HSF.out.2.2.2.2.size
      have H8 := hid (fun (W : World) (h : Below wr.heap.size wr W) => HLn.out (some ⟨b', off', none⟩) n cN q W (by omega) (HSF.out.next h).1.nps HPN)
      rw [HD.out] at H8
      clear hs hvk
      go_upto_region 12 with fail
      go_region_law (first
       | (
        have _s := S4
        refine step_append_lies _ rfl (.tmp 47) (.tmp 60) 22 rfl w.heap.size 41 i0 (.agg #[.int .i64 0, .int .i64 0, .string ⟨#[]⟩]) 3 32 underlying22 HII.out.1 HII.out.2.1 HII.out.2.2.1 HII.out.2.2.2 rfl (by decide) (.slice A n1 c) n1 (gs.flatMap findingCells) (by first | (simp [Act.eval]; done) | (simp [Act.eval, Act.put]; done) | rfl) (by first | exact (Mine.alloc M4.out _).drew | exact Mine.alloc M4.out _) ⟨w4.heap.size, 0, none⟩ 1 1 [.int .i64 2, .int .i64 D, .string s] (by first | (simp [Act.eval]; done) | (simp [Act.eval, Act.put]; done) | rfl) (by rfl) (World.news_of_block (cs := #[.int .i64 2, .int .i64 D, .string s]) (t := 41) (fr := (0, 0)) (heap_alloc_new w4 _)) (fun x hx => by simp at hx; rcases hx with rfl | rfl | rfl <;> rfl) (by decide) (by unfold maxLen; omega) (by omega) (by simp; omega) (w4.heap.size + 1) (by simp) ?_
        intro v' cap w6 hown6 hgrow hat hlt6
        have hgrow2 : (w4.alloc (.cells #[.int .i64 2, .int .i64 D, .string s] 41)).grownBy w6 (Value.slice A n1 c).ownBlock := (by first | exact hgrow | exact grown_undrewP hgrow))
       | (
        refine step_calls rfl 20 func20 (by kernel_rfl) (by kernel_rfl) _ _ rfl #[.string t, .slice (some ⟨b', off', none⟩) n cN, .int .i64 q] (by first | (simp [Act.eval]; done) | (simp [Act.eval, Act.put]; done) | rfl) (H8.out _ (by first | exact Below.refl _ _ | exact (Below.refl _ _).drew)) ?_
        rintro e w4 ⟨rfl, h4⟩
        refine ⟨_, rfl, ?_⟩
        have h4' : Below wr.heap.size wr w4 := (by first | exact h4 | exact (Below.refl _ wr).drew.trans h4)
        have S4 := hid (HSF.out.next h4')
        have M4 := hid (HM.out.next h4')
        have cs4 := ((bcell h4').1 _ _ hblts).trans cs0
        have c94 := ((bcell h4').1 _ _ hblt9).trans c9
        have hz4 := h4'.size
        have hbz4 := S4.out.2.2.2.2.size))
      all_goals
       rw [← Hn1.out] at hown6 hgrow2
       obtain ⟨A6, c6, ev, h6⟩ := SF.find (S4.out.alloc (.cells #[.int .i64 2, .int .i64 D, .string s] 41)) hown6 hgrow2
       injection ev with ev1 ev2 ev3
       subst ev1; subst ev3
       have S6 := hid h6
       clear hown6 hgrow hgrow2 hat hlt6 h6 S4 M4 HM HSF H8 cs4 c94 c9 cs0
       go_wp2
       go_roundw
       case rel => exact ⟨j + 1, _, _, by omega, by go_num, by rw [HGj.out, lA, ← Hn1.out]; rfl, by rw [HGj.out]; exact S6⟩
       case measure => simp [intOf]; omega
     ·obtain rfl : j = nu := by omega
      rw [← HGk.out, ← HGE.out] at HSF
      have HEn := hid (show n1 = (F (k + 1)).length by rw [HGE.out, HGk.out, Hn1.out])
      have HS5 : Hid (SF w (some ⟨b', off', none⟩) n cN ps (some ⟨b7, off7, none⟩) cI L none 0 [] A c (F (k + 1)) wr) := (show SF w (some ⟨b', off', none⟩) n cN ps (some ⟨b7, off7, none⟩) cI L none 0 [] A c (F (k + 1)) wr from ⟨HSF.out.1, HSF.out.2.1, Mine.mk_nil _ _ _ _, HSF.out.2.2.2.1, HSF.out.2.2.2.2⟩)
      clear HSF
      go_wp2
      exact ⟨⟨k + 1, A, c, by omega, by go_num, by rw [HEn.out], HS5⟩, by simp [intOf]; omega⟩
   ·rw [HSN.out q p1 hp1 g1, List.append_nil] at HS1
    clear hp1 hvk
    go_wp2
    go_roundw
    case rel => exact ⟨k + 1, A, c, by omega, by go_num, by rw [HS1.out], by rw [HS1.out]; exact HSF⟩
    case measure => simp [intOf]; omega
  ·obtain rfl : k = ml := by omega
   go_wp2
   go_ret
   exact ⟨A, c, rfl, HSF.out.2.2.2.1, HSF.out.2.2.2.2⟩
theorem specFindUnused_any (t : ByteArray) (w : World) (ht : t.size ≤ 1048576) : Calls prog 12 #[.string t] w (FindM w (findUnused t)) := by
 unfold findUnused
 rcases hr : readP t with _ | ps
 ·exact specFindUnused_no t w ht hr
 ·exact specFindUnused_yes t w ht ps hr
theorem implFindUnused_any (t : ByteArray) (w : World) (ht : t.size ≤ 1048576) : Calls prog 13 #[.string t] w (FindM w (findUnused t)) := by
 have HR := hid (finderOf_src t w ht)
 obtain ⟨fe, hfe⟩ : ∃ fe, findUnused t = fe := ⟨_, rfl⟩
 have HFE := hid hfe
 rw [hfe]
 unfold FindM
 clear hfe
 go_enter func13, ntmps13
 go_wp2_with fail
 refine HR.out.mono ?_
 rintro e w1 ⟨T, AN, n, cN, ps, ls, rfl, hfi, hn3, hll, hla, hsrc⟩
 obtain ⟨F, hF⟩ : ∃ F, unusedTo t ps = F := ⟨_, rfl⟩
 have HE : Hid (fe = F n) := (show fe = F n by
  rw [← HFE.out, ← hF]
  unfold findUnused
  rcases hsrc with ⟨hr, rfl, rfl⟩ | ⟨hr, rfl⟩ <;> rw [hr] <;> rfl)
 have HF0 := hid (show F 0 = [] by rw [← hF]; rfl)
 have HFS := hid (show ∀ k, F (k + 1) = F k ++ unStep t ps (k : Int) from fun k => by rw [← hF]; rfl)
 have HFL := hid (show ∀ k, k ≤ n → (F k).length ≤ k * 301 from fun k hk => by rw [← hF]; exact unusedTo_len t ps k (by omega))
 have HSY := hid (fun (k : Nat) (p : PN) (hp : ps[k]? = some p) (hk : (p.kind == 20) = true) => unStep_20 (t := t) hp hk)
 have HSN := hid (fun (k : Nat) (p : PN) (hp : ps[k]? = some p) (hk : (p.kind == 20) = false) => unStep_no (t := t) hp hk)
 have HUN : Hid (∀ (A : Option Addr) (c k : Nat) (W : World), Nps W A n ps → k < n → Calls prog 28 #[.slice A n c, .int .i64 k] W (TextsM W (unusedP ps k))) := (show ∀ (A : Option Addr) (c k : Nat) (W : World), Nps W A n ps → k < n → Calls prog 28 #[.slice A n c, .int .i64 k] W (TextsM W (unusedP ps k)) from fun A c k W hps hk => by
  rcases hsrc with ⟨_, rfl, _⟩ | ⟨hr, _⟩
  ·omega
  ·exact implUnused_any A n c ps k W hps (hid (readP_some hr).2.2) (readP_some hr).1 hk)
 have HUL := hid (show ∀ k, k < n → (unusedP ps k).length ≤ 300 from fun k hk => by
  have h1 := letsP_len ps k
  have h2 : (unusedP ps k).length ≤ (letsP ps k).length := List.length_filter_le _ _
  omega)
 have HLA := hid hla
 have HLL := hid hll
 unfold TextsM at HUN
 have HP0 : Hid (FP w T AN n cN ps ls none 0 [] none 0 [] [] w1) := (show FP w T AN n cN ps ls none 0 [] none 0 [] [] w1 from ⟨hfi, Mine.mk_nil _ _ _ _, Mine.mk_nil _ _ _ _⟩)
 obtain ⟨AL, cL, AF, cF, hK, hN, hL, hFF, hBT, hB⟩ := hfi
 have k0 := hK.q0
 have kf := hK.frozen
 have kz := hK.lt
 clear hK hN hL hFF hBT hB hsrc hla hll hF HR HFE
 go_wp2
 go_loopw [15] (fun i wr => ∃ (k : Nat), k ≤ n ∧ i = .int .i64 k ∧ Hid (FP w T AN n cN ps ls none 0 [] none 0 [] (F k) wr)) (fun i _ => n - (intOf i).toNat)
 case atStart => exact ⟨0, Nat.zero_le _, rfl, by rw [HF0.out]; exact HP0⟩
 case round =>
  clear HP0 k0 kf kz
  obtain ⟨k, hk, rfl, HP⟩ := hrel
  have hl1 := HFL.out k hk
  obtain ⟨fs, hfs⟩ : ∃ fs, F k = fs := ⟨_, rfl⟩
  have HFk := hid hfs
  rw [hfs] at HP hl1
  clear hfs
  obtain ⟨AL, cL, AF, cF, hK, hN, hL, hFF, hBT, hB⟩ := id HP.out.1
  have k0 := hK.q0
  have k2 := hK.q2
  have kf := hK.frozen
  have kz := hK.lt
  by_cases hkn : k < n
  ·obtain ⟨p1, hp1⟩ := hN.nps.get hkn
   obtain ⟨b, off, A2, c2, rfl, hblt, x0, x1, x2, x3, _, _⟩ := hN.nps.atc hkn hp1
   have hi1 : (k : Int) < (n : Int) := by omega
   have hlk := HLA.out k hkn
   have HS1 := hid (HFS.out k)
   rw [HFk.out] at HS1
   have HPx := hid (HP.out.alloc (.cells #[.int .i64 p1.kind, .string p1.text, .slice A2 p1.kids.length c2, .bool p1.blank] 36))
   have hzz := hB.size
   clear hK hN hL hFF hBT hB k2
   rcases bft (p1.kind == 20) with g1 | g1
   ·rw [HSY.out k p1 hp1 g1] at HS1
    have hul := HUL.out k hkn
    have HUq := hid (fun (W : World) (h : Below wr.heap.size wr W) => HUN.out (some ⟨b, off, none⟩) cN k W (by obtain ⟨_, _, _, _, _, hN, _⟩ := (HP.out.next h).1; exact hN.nps) hkn)
    obtain ⟨us, hus⟩ : ∃ us, unusedP ps k = us := ⟨_, rfl⟩
    rw [hus] at HUq HS1 hul
    obtain ⟨nu, hnu⟩ : ∃ nu, us.length = nu := ⟨_, rfl⟩
    rw [hnu] at HUq hul
    have HNU := hid hnu
    obtain ⟨D, hD⟩ : ∃ D, lineN t (firstV ps k) = D := ⟨_, rfl⟩
    rw [hD] at HS1 hlk
    obtain ⟨G, hG⟩ : ∃ G, (fun j => fs ++ (us.take j).map (fun s => ((2 : Int), D, s))) = G := ⟨_, rfl⟩
    have HG0 := hid (show G 0 = fs by rw [← hG]; simp)
    have HGE := hid (show F (k + 1) = G nu by rw [HS1.out, ← hG]; dsimp only; rw [← hnu, List.take_length])
    have HGS := hid (show ∀ (j : Nat) (s : ByteArray), us[j]? = some s → G (j + 1) = G j ++ [((2 : Int), D, s)] from fun j s hs => by
     rw [← hG]
     dsimp only
     rw [List.take_add_one, hs, Option.toList_some, List.map_append, List.append_assoc]
     rfl)
    have HGL := hid (show ∀ j, j ≤ nu → (G j).length ≤ 90600 from fun j hj => by
     rw [← hG]
     dsimp only
     rw [lA, List.length_map, List.length_take]
     omega)
    have HLK := hid hlk
    clear hp1 hus hnu hD hG hl1 hlk
    go_wp2_with fail
    refine (HUq.out _ grow_).mono ?_
    rintro e w3 ⟨AS, cS, rfl, hms, h3⟩
    have HP3 : Hid (FP w T (some ⟨b, off, none⟩) n cN ps ls none 0 [] AS cS us (G 0) w3) := (show FP w T (some ⟨b, off, none⟩) n cN ps ls none 0 [] AS cS us (G 0) w3 from by
     rw [HG0.out]
     have h := HPx.out.next h3
     exact ⟨h.1, h.2.1, by rw [HNU.out]; exact hms.more (by simp; omega)⟩)
    clear hms h3 HP HPx HUq x0 x1 x2 x3 hblt k0 kf kz
    rename World => wo
    go_wp2
    go_loopw [30] (fun i wr => ∃ (j : Nat), j ≤ nu ∧ i = .int .i64 j ∧ Hid (FP w T (some ⟨b, off, none⟩) n cN ps ls none 0 [] AS cS us (G j) wr)) (fun i _ => nu - (intOf i).toNat)
    case atStart => exact ⟨0, Nat.zero_le _, rfl, HP3⟩
    case round =>
     clear HP3
     obtain ⟨j, hj, rfl, HP⟩ := hrel
     have hl1 := HGL.out j hj
     by_cases hjn : j < nu
     ·obtain ⟨s, hs⟩ : ∃ s, us[j]? = some s := ⟨_, gE (by rw [HNU.out]; exact hjn)⟩
      have HGj := hid (HGS.out j s hs)
      obtain ⟨bs, offs, es, hblts, cs0⟩ := str_at HP.out.2.2.rd (by rw [HNU.out]; exact hjn) hs
      subst es
      have hj1 : (j : Int) < (nu : Int) := by omega
      have HFn := hid (find_any w T (some ⟨b, off, none⟩) n cN ps ls (G j) 2 k D s _ HP.out.1 HLK.out (by omega) (by rw [HLL.out]; omega))
      rw [← HGj.out] at HFn
      clear hs
      go_wp2_with fail
      refine HFn.out.mono ?_
      rintro e w4 ⟨rfl, h4, hk4⟩
      have HP4 := hid (HP.out.found h4 hk4)
      clear h4 hk4 cs0 hblts HP HFn
      go_wp2
      go_roundw
      case rel => exact ⟨j + 1, by omega, by go_num, HP4⟩
      case measure => simp [intOf]; omega
     ·obtain rfl : j = nu := by omega
      rw [← HGE.out] at HP
      have HP5 : Hid (FP w T (some ⟨b, off, none⟩) n cN ps ls none 0 [] none 0 [] (F (k + 1)) wr) := (show FP w T (some ⟨b, off, none⟩) n cN ps ls none 0 [] none 0 [] (F (k + 1)) wr from ⟨HP.out.1, HP.out.2.1, Mine.mk_nil _ _ _ _⟩)
      clear HP
      go_wp2
      exact ⟨⟨k + 1, by omega, by go_num, HP5⟩, by simp [intOf]; omega⟩
   ·rw [HSN.out k p1 hp1 g1, List.append_nil] at HS1
    clear hp1 hlk
    go_wp2
    go_roundw
    case rel => exact ⟨k + 1, by omega, by go_num, by rw [HS1.out]; exact HPx⟩
    case measure => simp [intOf]; omega
  ·obtain rfl : k = n := by omega
   have HM := hid hFF
   have HB := hid hB
   clear hK hN hL hFF hBT hB k0
   go_wp2
   go_ret
   rw [HE.out, HFk.out]
   exact ⟨AF, cF, rfl, HM.out, HB.out⟩
theorem lawFindUnused (t : ByteArray) (w : World) (ht : t.size ≤ maxLen) : Calls prog 4 #[.string t] w fun e w' => e = .returned (.bool true) ∧ Below w.heap.size w w' := by
 have hb := Below.refl w.heap.size w
 unfold maxLen at ht
 by_cases h1 : 1048576 < t.size
 ·go_enter func4, ntmps4
  go_wp2
  go_ret
  exact ⟨rfl, grow_⟩
 ·have h2 : t.size ≤ 1048576 := by omega
  have hn6 : (findUnused t).length ≤ 100000 := by have := findUnused_len t; omega
  have HI := hid (fun W => implFindUnused_any t W h2)
  have HP := hid (fun W => specFindUnused_any t W h2)
  obtain ⟨l, hr⟩ : ∃ r, findUnused t = r := ⟨_, rfl⟩
  rw [hr] at HI HP hn6
  clear hr ht h1
  go_enter func4, ntmps4
  go_wp2_with fail
  refine (HP.out _).mono ?_
  rintro e w2 ⟨A0, c0, rfl, m0, h2'⟩
  replace hb := below_next hb h2'
  clear h2'
  have q0 := hid (fun g (hg : A0.map (·.block) = some g) => (m0.blk hg).2)
  have z0 := hb.size
  go_wp2_with fail
  refine (HI.out _).mono ?_
  rintro e w3 ⟨A3, c3, rfl, m3, h2'⟩
  replace m0 := m0.next h2'
  replace hb := below_next hb h2'
  clear h2'
  obtain ⟨H3, hH3⟩ : ∃ H, H = w2.heap.size := ⟨_, rfl⟩
  rw [← hH3] at m3 q0 z0
  go_wp2_with fail
  refine (eqFindingS_same _ _ _ _ _ l _ (by omega) rfl m3.rd m0.rd).mono ?_
  rintro e w2 ⟨rfl, h2⟩
  replace m0 := by first | exact m0.next h2 | exact m0.next1 h2 | exact m0.next2 h2
  replace m3 := by first | exact m3.next h2 | exact m3.next1 h2 | exact m3.next2 h2
  replace hb := by first | exact below_next hb h2 | exact below_next1 hb h2 | exact below_next2 hb h2
  clear h2
  go_wp2_with fail
  refine (markFindingS_mine _ _ _ _ _ _ _ m3 (by omega) (by omega)).mono ?_
  rintro e w2 ⟨rfl, m4, hg⟩
  replace m0 := m0.grown hg (fun g e => .inr (fun h => by have := (m3.blk e).1; have := q0.out _ h; omega))
  replace hb := below_turned hb hg (fun g e => by have := (m3.blk e).1; omega)
  clear hg m3
  go_wp2_with fail
  refine (heldFindingS_any _ _ _ _ _ m4.rd (by omega) (by omega)).mono ?_
  rintro e w2 ⟨rfl, h2⟩
  replace m0 := by first | exact m0.next h2 | exact m0.next1 h2 | exact m0.next2 h2
  replace m4 := by first | exact m4.next h2 | exact m4.next1 h2 | exact m4.next2 h2
  replace hb := by first | exact below_next hb h2 | exact below_next1 hb h2 | exact below_next2 hb h2
  clear h2
  go_wp2_with fail
  refine (HI.out _).mono ?_
  rintro e w3 ⟨A5, c5, rfl, m5, h2'⟩
  replace m0 := m0.next h2'
  replace m4 := m4.next h2'
  replace hb := below_next hb h2'
  clear h2'
  go_wp2_with fail
  refine (eqFindingS_same _ _ _ _ _ l _ (by omega) rfl m5.rd m0.rd).mono ?_
  rintro e w2 ⟨rfl, h2⟩
  replace m4 := by first | exact m4.next h2 | exact m4.next1 h2 | exact m4.next2 h2
  replace hb := by first | exact below_next hb h2 | exact below_next1 hb h2 | exact below_next2 hb h2
  clear h2
  go_wp2_with fail
  refine (heldFindingS_any _ _ _ _ _ m4.rd (by omega) (by omega)).mono ?_
  rintro e w2 ⟨rfl, h2⟩
  replace hb := by first | exact below_next hb h2 | exact below_next1 hb h2 | exact below_next2 hb h2
  clear h2
  go_wp2
  go_ret
  exact ⟨rfl, grow_⟩
end Go.Proofs.YtgbikafalcbibaaGreatDoor

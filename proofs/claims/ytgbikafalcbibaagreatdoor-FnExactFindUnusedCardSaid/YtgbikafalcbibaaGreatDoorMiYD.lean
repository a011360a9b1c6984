/-
  Put together by program (shake.py): FiK.
-/
import Derived.Test.YtgbikafalcbibaaGreatDoorMiYC
set_option maxRecDepth 100000
set_option maxHeartbeats 25600000
set_option linter.unusedVariables false
set_option linter.unusedSimpArgs false
open Go.Lib (hid)
open Go.Proofs.Tryz
namespace Go.Proofs.YtgbikafalcbibaaGreatDoor
open Go.RowKit
theorem implUnused_any (A : Option Addr) (n c : Nat) (ps : List PN) (k : Nat) (w : World) (hps : Nps w A n ps) (hb : Hid (PNs ps)) (htr : treeB ps = true) (hk : k < n) :
  Calls prog 28 #[.slice A n c, .int .i64 k] w (TextsM w (unusedP ps k)) := by
 obtain ⟨j0, hj, hy0, hy1, hy2⟩ := info_parts infoStr
 have HJJ := hid (And.intro hj (And.intro hy0 (And.intro hy1 hy2)))
 obtain ⟨m, hm, hm3, hg, hu⟩ := tree_one htr
 have hl := hps.len
 have hn : n ≤ 300 := by omega
 have HU := hid (fun (W : World) (hW : Below w.heap.size w W) => implUnder_any A n c ps k W (hps.next hW) hb htr hk)
 have HLt := hid (fun (W : World) (hW : Below w.heap.size w W) => implLets_any A n c ps k W (hps.next hW) hb htr hk)
 have hum := undL_mem (show k < ps.length by omega)
 rw [hl] at hum
 have hul := undL_len ps k
 have hll := letsP_len ps k
 have hPl := parP_len ps (undL ps k)
 rw [hl] at hPl
 have hUS : ∀ s, Lib.containsS (usesP ps (parP ps (undL ps k)) (undL ps k)) s = usedIn ps k s := fun s => usesP_iff ps k s
 obtain ⟨L, hL⟩ : ∃ L, undL ps k = L := ⟨_, rfl⟩
 have HPA := hid (fun (AL : Option Addr) (nl cl : Nat) (W : World) (hW : Below w.heap.size w W) (hr : Rd W 1 AL nl (intCells L)) (hll : Hid (L.length = nl)) => implBinders_any A n c ps AL nl cl L W (hps.next hW) hg (by omega) hr hll (by have := hll.out; rw [hL] at hul; omega) (bind_one htr) (by rw [← hL]; exact hum))
 unfold unusedP
 rw [hL] at HU hum hul hPl hUS
 obtain ⟨P, hP⟩ : ∃ P, parP ps L = P := ⟨_, rfl⟩
 rw [hP] at HPA hPl hUS
 obtain ⟨LT, hLT⟩ : ∃ LT, letsP ps k = LT := ⟨_, rfl⟩
 rw [hLT] at HLt hll ⊢
 obtain ⟨nl, hnl⟩ : ∃ nl, L.length = nl := ⟨_, rfl⟩
 obtain ⟨nt, hnt⟩ : ∃ nt, LT.length = nt := ⟨_, rfl⟩
 obtain ⟨F, hF⟩ : ∃ F, (fun i => (LT.take i).filter (fun s => !usedIn ps k s)) = F := ⟨_, rfl⟩
 have HE := hid (show LT.filter (fun s => !usedIn ps k s) = F nt by rw [← hF]; dsimp only; rw [← hnt, List.take_length])
 have HF0 := hid (show F 0 = [] by rw [← hF]; rfl)
 have HFS := hid (show ∀ (i : Nat) (s : ByteArray), LT[i]? = some s → F (i + 1) = F i ++ (if (!usedIn ps k s) = true then [s] else []) from fun i s hs => by
  rw [← hF]; exact filter_snoc _ hs)
 have HFL := hid (show ∀ i, (F i).length ≤ i from fun i => by
  rw [← hF]
  exact Nat.le_trans (List.length_filter_le _ _) (by rw [List.length_take]; omega))
 obtain ⟨G, hG⟩ : ∃ G, (fun i => (L.take i).foldl (useStep ps P) []) = G := ⟨_, rfl⟩
 have HUI := hid (show ∀ s, Lib.containsS (G nl) s = usedIn ps k s from fun s => by rw [← hUS, ← hG]; dsimp only; rw [← hnl, List.take_length]; rfl)
 have HG0 := hid (show G 0 = [] by rw [← hG]; rfl)
 have HGS := hid (show ∀ (i : Nat) (v : Int), L[i]? = some v → G (i + 1) = useStep ps P (G i) v from fun i v hv => by
  rw [← hG]
  dsimp only
  rw [List.take_add_one, hv, Option.toList_some, List.foldl_append]
  rfl)
 have HGL := hid (show ∀ i, (G i).length ≤ i from fun i => by
  rw [← hG]
  have key : ∀ (l : List Int) (o : List ByteArray), (l.foldl (useStep ps P) o).length ≤ o.length + l.length := by
   intro l
   induction l with
   | nil => intro o; simp
   | cons v l ih =>
    intro o
    have h1 := ih (useStep ps P o v)
    have h2 := useStep_len ps P o v
    simp only [List.foldl_cons, List.length_cons]
    omega
  have h1 := key (L.take i) []
  have h2 : (L.take i).length ≤ i := by rw [List.length_take]; omega
  simp only [List.length_nil] at h1
  dsimp only
  omega)
 rw [HE.out]
 unfold TextsM at HLt ⊢
 rw [hnt] at HLt
 unfold IntsM at HU
 rw [hnl] at HU
 have HPS := hid hps
 have HUM := hum
 have HNL := hid hnl
 have HNT := hid hnt
 have HPL := hid hPl
 rw [hnl] at hul
 rw [hnt] at hll
 have hnl3 : nl ≤ 300 := by omega
 have hnt3 : nt ≤ 300 := by omega
 clear hj hy0 hy1 hy2 hm hm3 hg hu hl hps hb htr hL hP hLT hF hnl hnt HE hum hPl hul hll hUS hG
 go_enter func28, ntmps28
 go_wp2_with fail
 refine (HU.out _ (Below.refl _ _)).mono ?_
 rintro e w1 ⟨AL, cl, rfl, hml, h1⟩
 have HML := hid hml
 have HB1 := hid h1
 clear hml h1 HU
 go_wp2_with fail
 refine (HPA.out AL nl cl w1 HB1.out HML.out.rd HNL).mono ?_
 rintro e w2 ⟨rfl, ho2, h2⟩
 rw [HPL.out] at ho2 ⊢
 have HL2 := hid (HML.out.next h2)
 have HR2 := hid ho2
 have HB2 := hid (below_next HB1.out h2)
 clear h2 ho2 HML HB1 HPA
 go_wp2
 go_loopw [7, 21] (fun u y wr => ∃ (j : Nat) (A3 : Option Addr) (c3 : Nat), j ≤ nl ∧ y = .int .i64 j ∧ u = .slice A3 (G j).length c3 ∧ Hid (Mine wr w.heap.size 9 1 A3 (G j).length c3 (strCells (G j))) ∧ Hid (Mine wr w.heap.size 3 1 AL nl cl (intCells L)) ∧ Hid (Own wr w1.heap.size 4 n (boolCells P)) ∧ Hid (Below w.heap.size w wr)) (fun _ y _ => nl - (intOf y).toNat)
 case atStart =>
  refine ⟨0, none, 0, Nat.zero_le _, rfl, ?_, ?_, HL2, HR2, HB2⟩
  all_goals rw [HG0.out]
  ·rfl
  ·exact Mine.mk_nil _ _ _ _
 case round =>
  clear HL2 HR2 HB2
  obtain ⟨j, A3, c3, hj, rfl, rfl, HO, HL, HR, HB⟩ := hrel
  by_cases hjn : j < nl
  ·obtain ⟨v, hv⟩ : ∃ v, L[j]? = some v := ⟨_, gE (by rw [HNL.out]; exact hjn)⟩
   obtain ⟨q, rfl, hq⟩ := HUM v (List.mem_of_getElem? hv)
   have HGj := hid (HGS.out j _ hv)
   obtain ⟨b7, off7, e7, hblt7, c7⟩ := int_at HL.out.rd hjn hv
   subst e7
   obtain ⟨p, hp⟩ := HPS.out.get hq
   have hBw := HB.out
   obtain ⟨b, off, A', c', e8, hblt0, y0, y1, _, _, _, _⟩ := HPS.out.atc hq hp
   subst e8
   have x0 := ((bcell hBw).1 _ _ hblt0).trans y0
   have x1 := ((bcell hBw).1 _ _ hblt0).trans y1
   have hbz := hBw.size
   have hblt : b < wr.heap.size := by omega
   have c0 := bool_at HR.out (show q < P.length by rw [HPL.out]; exact hq)
   have cz := HR.out.lt
   have hj1 : (j : Int) < (nl : Int) := by omega
   have hq1 : (q : Int) < (n : Int) := by omega
   have HUK : Hid (useStep ps P (G j) (q : Int) = (if ((p.kind == 1) && !(P.getD q false)) = true then G j ++ [p.text] else G j)) := (show useStep ps P (G j) (q : Int) = (if ((p.kind == 1) && !(P.getD q false)) = true then G j ++ [p.text] else G j) by
    unfold useStep; rw [Int.toNat_natCast, hp])
   rw [HUK.out] at HGj
   have hgl := HGL.out j
   clear hv hp hBw y0 y1 HUK
   obtain ⟨xs, hxs⟩ : ∃ xs, G j = xs := ⟨_, rfl⟩
   have HXS := hid hxs
   rw [hxs] at HO HGj hgl ⊢
   clear hxs
   obtain ⟨n1, hn1⟩ : ∃ n1, xs.length = n1 := ⟨_, rfl⟩
   have Hn1 := hid hn1
   rw [hn1] at HO hgl ⊢
   clear hn1
   rcases bft (p.kind == 1) with g1 | g1
   ·cases hP : P.getD q false with
    | true =>
     rw [hP] at c0
     have HV := hid (show G (j + 1) = xs by rw [HGj.out, g1, hP]; rfl)
     clear hP
     go_wp2
     go_roundw
     case rel => exact ⟨j + 1, A3, c3, by omega, by go_num, by rw [HV.out, Hn1.out], by rw [HV.out, Hn1.out]; exact HO, HL, HR, HB⟩
     case measure => simp [intOf]; omega
    | false =>
     rw [hP] at c0
     have HV := hid (show G (j + 1) = xs ++ [p.text] by rw [HGj.out, g1, hP]; rfl)
     clear hP
     go_wp2_with (at_builtin; (refine wpList_append_row _ rfl (.tmp 38) (.tmp 44) _ rfl w.heap.size 9 j0 (.string ⟨#[]⟩) 1 16 underlying37 HJJ.out.1 HJJ.out.2.1 HJJ.out.2.2.1 HJJ.out.2.2.2 rfl (by decide) (.slice A3 n1 c3) n1 (strCells xs) rfl (Mine.alloc HO.out _) ⟨wr.heap.size, 0, none⟩ 1 1 [.string p.text] rfl rfl (cell_one_new _ _ _) (fun x hx => by simp at hx; subst hx; rfl) (by unfold maxLen; omega) (by omega) (by simp; omega) ?_); intro v' w5 hown hg hwh)
     rw [← Hn1.out] at hown hg hwh HO
     obtain ⟨A5, c5, rfl, hm5, hk5, hb5⟩ := add_push HO.out (Below.refl _ _) (KpX.refl _ _) hbz hown hg
     have HO5 := hid hm5
     have HL5 := hid (HL.out.kpx hk5 (by decide))
     have HR5 := hid (HR.out.kpx hk5 (by decide))
     have HB5 := hid (HB.out.trans hb5)
     clear hown hg hwh hm5 hk5 hb5 HO HL HR HB x0 x1 c7 hblt7 hblt c0 cz
     go_wp2
     go_roundw
     case rel => exact ⟨j + 1, A5, c5, by omega, by go_num, by rw [HV.out, lA]; rfl, by rw [HV.out]; exact HO5, HL5, HR5, HB5⟩
     case measure => simp [intOf]; omega
   ·have HV := hid (show G (j + 1) = xs by rw [HGj.out, g1]; rfl)
    go_wp2
    go_roundw
    case rel => exact ⟨j + 1, A3, c3, by omega, by go_num, by rw [HV.out, Hn1.out], by rw [HV.out, Hn1.out]; exact HO, HL, HR, HB⟩
    case measure => simp [intOf]; omega
  ·obtain rfl : j = nl := by omega
   have HCO := hid (fun (s : ByteArray) (W : World) (h : Mine W w.heap.size 9 1 A3 (G j).length c3 (strCells (G j))) => show Calls prog 22 #[.slice A3 (G j).length c3, .string s] W fun e w' => e = .returned (.bool (usedIn ps k s)) ∧ W = w' by rw [← HUI.out s]; exact (containsM s h).mono (fun e w' h => ⟨h.1, h.2.symm⟩))
   obtain ⟨US, hUS⟩ : ∃ US, strCells (G j) = US := ⟨_, rfl⟩
   rw [hUS] at HO HCO
   obtain ⟨nu, hnu⟩ : ∃ nu, (G j).length = nu := ⟨_, rfl⟩
   rw [hnu] at HO HCO ⊢
   have hzz : w.heap.size ≤ wr.heap.size := HB.out.size
   clear hUS hnu HGS HGL HG0 HUI HL HR
   go_wp2_with fail
   refine (HLt.out wr HB.out).mono ?_
   rintro e w3 ⟨AT, ct, rfl, hmt, h3⟩
   have HO3 := hid (HO.out.next h3)
   have hz3 := Nat.le_trans hzz h3.size
   have HT3 := hid (hmt.more hzz)
   have HB3 := hid (below_next HB.out h3)
   have HA3 := hid (show ∀ g, A3.map (·.block) = some g → AT.map (·.block) ≠ some g from fun g hg e => by
    have h1 := (Mine.blk hmt e).1
    have h2 := (Mine.blk HO.out hg).2
    omega)
   clear hmt h3 HO HB HLt
   rename World => wo
   go_wp2
   go_loopw [10, 51] (fun o x wr => ∃ (i : Nat) (A4 : Option Addr) (c4 : Nat), i ≤ nt ∧ x = .int .i64 i ∧ o = .slice A4 (F i).length c4 ∧ Hid (Mine wr w.heap.size 9 1 A4 (F i).length c4 (strCells (F i))) ∧ Hid (Mine wr w.heap.size 9 1 A3 nu c3 US) ∧ Hid (Mine wr w.heap.size 9 1 AT nt ct (strCells LT)) ∧ Hid (∀ g, A4.map (·.block) = some g → AT.map (·.block) ≠ some g) ∧ Hid (∀ g, A4.map (·.block) = some g → A3.map (·.block) ≠ some g) ∧ Hid (Below w.heap.size w wr)) (fun _ x _ => nt - (intOf x).toNat)
   case atStart =>
    refine ⟨0, none, 0, Nat.zero_le _, rfl, ?_, ?_, HO3, HT3, fun g hg => (by simp at hg), fun g hg => (by simp at hg), HB3⟩
    all_goals rw [HF0.out]
    ·rfl
    ·exact Mine.mk_nil _ _ _ _
   case round =>
    clear HO3 HT3 HA3 HB3
    obtain ⟨i, A4, c4, hi, rfl, rfl, HO, HU, HT, HAp, HAq, HB⟩ := hrel
    have hfl := HFL.out i
    obtain ⟨xs, hxs⟩ : ∃ xs, F i = xs := ⟨_, rfl⟩
    have HXS := hid hxs
    rw [hxs] at HO hfl ⊢
    obtain ⟨n1, hn1⟩ : ∃ n1, xs.length = n1 := ⟨_, rfl⟩
    have Hn1 := hid hn1
    rw [hn1] at HO hfl ⊢
    clear hn1 hxs
    by_cases hin : i < nt
    ·obtain ⟨s, hs⟩ : ∃ s, LT[i]? = some s := ⟨_, gE (by rw [HNT.out]; exact hin)⟩
     have HSi := hid (HFS.out i s hs)
     have HUi := hid (HU.out)
     obtain ⟨bt, offt, eT, hbltt, ct0⟩ := str_at HT.out.rd hin hs
     subst eT
     have hi1 : (i : Int) < (nt : Int) := by omega
     have HC := hid (HCO.out s wr HU.out)
     have HXS2 := hid HXS.out
     clear hs
     go_wp2_with fail
     refine HC.out.mono ?_
     rintro e w5 ⟨rfl, rfl⟩
     have hbz := HB.out.size
     rcases bft (usedIn ps k s) with hus | hus
     ·rw [hus] at HSi HC ⊢
      have HS2 := hid (show F (i + 1) = xs by rw [HSi.out, HXS2.out]; simp)
      clear hus
      go_wp2
      go_roundw
      case rel => exact ⟨i + 1, A4, c4, by omega, by go_num, by rw [HS2.out, Hn1.out], by rw [HS2.out, Hn1.out]; exact HO, HU, HT, HAp, HAq, HB⟩
      case measure => simp [intOf]; omega
     ·rw [hus] at HSi HC ⊢
      have HS2 := hid (show F (i + 1) = xs ++ [s] by rw [HSi.out, HXS2.out]; simp)
      clear hus
      go_wp2_with (at_builtin; (refine wpList_append_row _ rfl (.tmp 59) (.tmp 61) _ rfl w.heap.size 9 j0 (.string ⟨#[]⟩) 1 16 underlying37 HJJ.out.1 HJJ.out.2.1 HJJ.out.2.2.1 HJJ.out.2.2.2 rfl (by decide) (.slice A4 n1 c4) n1 (strCells xs) rfl (Mine.alloc HO.out _) ⟨wr.heap.size, 0, none⟩ 1 1 [.string s] rfl rfl (cell_one_new _ _ _) (fun x hx => by simp at hx; subst hx; rfl) (by unfold maxLen; omega) (by omega) (by simp; omega) ?_); intro v' w6 hown hg hwh)
      rw [← Hn1.out] at hown hg hwh HO
      have HT5 := hid ((Mine.alloc HT.out (.cells #[.string s] 9)).grown hg (fun g e => .inr (HAp.out g (by rw [ownBlk] at e; exact e))))
      have HU5 := hid ((Mine.alloc HU.out (.cells #[.string s] 9)).grown hg (fun g e => .inr (HAq.out g (by rw [ownBlk] at e; exact e))))
      obtain ⟨A5, c5, rfl, hm5, hk5, hb5⟩ := add_push HO.out (Below.refl _ _) (KpX.refl _ _) hbz hown hg
      have hnew : ∀ g, A5.map (·.block) = some g → A4.map (·.block) = some g ∨ g = wr.heap.size + 1 ∨ wr.heap.size ≤ g := fun g e => by
       rw [ownBlk, ownBlk] at hwh
       rcases hwh with h | h
       ·exact .inl (by rw [← h]; exact e)
       ·rw [h] at e
        injection e with e
        simp at e
        omega
      have HA5 := hid (show ∀ g, A5.map (·.block) = some g → (some ⟨bt, offt, none⟩ : Option Addr).map (·.block) ≠ some g from fun g e e2 => by
       have := (Mine.blk HT.out e2).2
       rcases hnew g e with h | h | h
       ·exact HAp.out g h e2
       ·omega
       ·omega)
      have HA6 := hid (show ∀ g, A5.map (·.block) = some g → A3.map (·.block) ≠ some g from fun g e e2 => by
       have := (Mine.blk HU.out e2).2
       rcases hnew g e with h | h | h
       ·exact HAq.out g h e2
       ·omega
       ·omega)
      have HO5 := hid hm5
      have HB5 := hid (HB.out.trans hb5)
      clear hown hg hwh hm5 hk5 hb5 HO HU HT HB HAp HAq ct0 hbltt hnew
      go_wp2
      go_roundw
      case rel => exact ⟨i + 1, A5, c5, by omega, by go_num, by rw [HS2.out, lA]; rfl, by rw [HS2.out]; exact HO5, HU5, HT5, HA5, HA6, HB5⟩
      case measure => simp [intOf]; omega
    ·obtain rfl : i = nt := by omega
     go_wp2
     go_ret
     rw [HXS.out, Hn1.out]
     exact ⟨A4, c4, rfl, HO.out, HB.out⟩
end Go.Proofs.YtgbikafalcbibaaGreatDoor

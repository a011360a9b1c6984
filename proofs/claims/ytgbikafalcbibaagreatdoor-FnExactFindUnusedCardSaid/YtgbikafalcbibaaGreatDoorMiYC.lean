/-
  Put together by program (shake.py): FiI, FiJ.
-/
import Derived.Test.YtgbikafalcbibaaGreatDoorMiYB
set_option maxRecDepth 100000
set_option maxHeartbeats 25600000
set_option linter.unusedVariables false
set_option linter.unusedSimpArgs false
open Go.Lib (hid)
open Go.Proofs.Tryz
namespace Go.Proofs.YtgbikafalcbibaaGreatDoor
open Go.RowKit
def usesK (ps : List PN) (P : List Bool) (s : ByteArray) (v : Int) : Bool := match ps[v.toNat]? with | none => false | some p => (p.kind == 1) && (!(P.getD v.toNat false) && decide (p.text = s))
def usedIn (ps : List PN) (k : Nat) (s : ByteArray) : Bool := (undL ps k).any (usesK ps (parP ps (undL ps k)) s)
def unusedP (ps : List PN) (k : Nat) : List ByteArray := (letsP ps k).filter (fun s => !usedIn ps k s)
theorem letsP_len (ps : List PN) (k : Nat) : (letsP ps k).length ≤ k + 1 := by
 have key : ∀ (l : List Int) (o : List ByteArray), (l.foldl (letStep ps (parP ps (undL ps k))) o).length ≤ o.length + l.length := by
  intro l
  induction l with
  | nil => intro o; simp
  | cons v l ih =>
   intro o
   have h1 := ih (letStep ps (parP ps (undL ps k)) o v)
   have h2 := letStep_len ps (parP ps (undL ps k)) o v
   simp only [List.foldl_cons, List.length_cons]
   omega
 have h1 := key (undL ps k) []
 have h2 := undL_len ps k
 unfold letsP
 simp only [List.length_nil] at h1
 omega
theorem any_snoc {L : List Int} {i : Nat} {v : Int} (f : Int → Bool) (h : L[i]? = some v) : (L.take (i + 1)).any f = ((L.take i).any f || f v) := by
 rw [List.take_add_one, h, Option.toList_some, List.any_append]
 simp
theorem filter_snoc {L : List ByteArray} {i : Nat} {s : ByteArray} (f : ByteArray → Bool) (h : L[i]? = some s) : (L.take (i + 1)).filter f = (L.take i).filter f ++ (if f s = true then [s] else []) := by
 rw [List.take_add_one, h, Option.toList_some, List.filter_append]
 simp [List.filter_cons]
theorem specUnused_any (A : Option Addr) (n c : Nat) (ps : List PN) (k : Nat) (w : World) (hps : Nps w A n ps) (hb : Hid (PNs ps)) (htr : treeB ps = true) (hk : k < n) :
  Calls prog 27 #[.slice A n c, .int .i64 k] w (TextsM w (unusedP ps k)) := by
 obtain ⟨j0, hj, hy0, hy1, hy2⟩ := info_parts infoStr
 have HJJ := hid (And.intro hj (And.intro hy0 (And.intro hy1 hy2)))
 obtain ⟨m, hm, hm3, hg, hu⟩ := tree_one htr
 have hl := hps.len
 have hn : n ≤ 300 := by omega
 have HU := hid (fun (W : World) (hW : Below w.heap.size w W) => specUnder_any A n c ps k W (hps.next hW) hb htr hk)
 have HLt := hid (fun (W : World) (hW : Below w.heap.size w W) => specLets_any A n c ps k W (hps.next hW) hb htr hk)
 have hum := undL_mem (show k < ps.length by omega)
 rw [hl] at hum
 have hul := undL_len ps k
 have hll := letsP_len ps k
 have hPl := parP_len ps (undL ps k)
 rw [hl] at hPl
 have hUS : ∀ s, usedIn ps k s = (undL ps k).any (usesK ps (parP ps (undL ps k)) s) := fun s => rfl
 obtain ⟨L, hL⟩ : ∃ L, undL ps k = L := ⟨_, rfl⟩
 have HPA := hid (fun (AL : Option Addr) (nl cl : Nat) (W : World) (hW : Below w.heap.size w W) (hr : Rd W 1 AL nl (intCells L)) (hll : Hid (L.length = nl)) => specParams_any A n c ps AL nl cl L W (hps.next hW) hg (by omega) hr hll (by have := hll.out; rw [hL] at hul; omega) (by rw [← hL]; exact hum))
 unfold unusedP
 rw [hL] at HU hum hul hPl hUS
 obtain ⟨P, hP⟩ : ∃ P, parP ps L = P := ⟨_, rfl⟩
 rw [hP] at HPA hPl hUS
 obtain ⟨LT, hLT⟩ : ∃ LT, letsP ps k = LT := ⟨_, rfl⟩
 rw [hLT] at HLt hll ⊢
 obtain ⟨nl, hnl⟩ : ∃ nl, L.length = nl := ⟨_, rfl⟩
 obtain ⟨nt, hnt⟩ : ∃ nt, LT.length = nt := ⟨_, rfl⟩
 obtain ⟨F, hF⟩ : ∃ F, (fun i => (LT.take i).filter (fun s => !usedIn ps k s)) = F := ⟨_, rfl⟩
 have HE := hid (show LT.filter (fun s => !usedIn ps k s) = F nt by rw [← hF]; dsimp only; rw [← hnt, List.take_length])
 have HF0 := hid (show F 0 = [] by rw [← hF]; rfl)
 have HFS := hid (show ∀ (i : Nat) (s : ByteArray), LT[i]? = some s → F (i + 1) = F i ++ (if (!usedIn ps k s) = true then [s] else []) from fun i s hs => by
  rw [← hF]; exact filter_snoc _ hs)
 have HFL := hid (show ∀ i, (F i).length ≤ i from fun i => by
  rw [← hF]
  exact Nat.le_trans (List.length_filter_le _ _) (by rw [List.length_take]; omega))
 have HUI := hid (show ∀ s, usedIn ps k s = (L.take nl).any (usesK ps P s) from fun s => by rw [hUS, ← hnl, List.take_length])
 rw [HE.out]
 unfold TextsM at HLt ⊢
 rw [hnt] at HLt
 unfold IntsM at HU
 rw [hnl] at HU
 have HPS := hid hps
 have HUM := hum
 have HNL := hid hnl
 have HNT := hid hnt
 have HPL := hid hPl
 rw [hnl] at hul
 rw [hnt] at hll
 have hnl3 : nl ≤ 300 := by omega
 have hnt3 : nt ≤ 300 := by omega
 clear hj hy0 hy1 hy2 hm hm3 hg hu hl hps hb htr hL hP hLT hF hnl hnt HE hum hPl hul hll hUS
 go_enter func27, ntmps27
 go_wp2_with fail
 refine (HU.out _ grow_).mono ?_
 rintro e w1 ⟨AL, cl, rfl, hml, h1⟩
 have HO1 := hid (show Mine w1 w.heap.size 9 1 (some ⟨w.heap.size, 0, none⟩) 0 0 [] from Mine.next (own_empty w 9 1) h1)
 have HML := hid (hml.more (show w.heap.size ≤ _ by simp))
 have HB1 := hid (below_next1 (Below.refl _ _) h1)
 have hz1 : w.heap.size < w1.heap.size := by have := h1.size; simp at this; omega
 clear hml h1 HU
 go_wp2_with fail
 refine (HPA.out AL nl cl w1 HB1.out HML.out.rd HNL).mono ?_
 rintro e w2 ⟨rfl, ho2, h2⟩
 rw [HPL.out] at ho2 ⊢
 have HO2 := hid (HO1.out.next h2)
 have HL2 := hid (HML.out.next h2)
 have HR2 := hid ho2
 have HB2 := hid (below_next HB1.out h2)
 clear h2 ho2 HO1 HML HB1 HPA
 go_wp2_with fail
 refine (HLt.out w2 HB2.out).mono ?_
 rintro e w3 ⟨AT, ct, rfl, hmt, h3⟩
 have HO3 := hid (HO2.out.next h3)
 have HL3 := hid (HL2.out.next h3)
 have HR3 := hid (HR2.out.next h3)
 have HT3 := hid (hmt.more HB2.out.size)
 have HT3a := hid (hmt.more (show w.heap.size + 1 ≤ w2.heap.size by have := HR2.out.lt; omega))
 have HB3 := hid (below_next HB2.out h3)
 clear hmt h3 HO2 HL2 HR2 HB2 HLt
 have HA3 := hid (show ∀ g, (some ⟨w.heap.size, 0, none⟩ : Option Addr).map (·.block) = some g → AT.map (·.block) ≠ some g from fun g hg e => by
  have h1 := (Mine.blk HT3a.out e).1
  simp at hg
  omega)
 clear HT3a
 go_wp2
 go_loopw [5, 9] (fun o x wr => ∃ (i : Nat) (A3 : Option Addr) (c3 : Nat), i ≤ nt ∧ x = .int .i64 i ∧ o = .slice A3 (F i).length c3 ∧ Hid (Mine wr w.heap.size 9 1 A3 (F i).length c3 (strCells (F i))) ∧ Hid (Mine wr w.heap.size 3 1 AL nl cl (intCells L)) ∧ Hid (Own wr w1.heap.size 4 n (boolCells P)) ∧ Hid (Mine wr w.heap.size 9 1 AT nt ct (strCells LT)) ∧ Hid (∀ g, A3.map (·.block) = some g → AT.map (·.block) ≠ some g) ∧ Hid (Below w.heap.size w wr)) (fun _ x _ => nt - (intOf x).toNat)
 case atStart =>
  refine ⟨0, some ⟨w.heap.size, 0, none⟩, 0, Nat.zero_le _, rfl, ?_, ?_, HL3, HR3, HT3, HA3, HB3⟩
  all_goals rw [HF0.out]
  ·rfl
  ·exact HO3
 case round =>
  clear HO3 HL3 HR3 HT3 HA3 HB3
  obtain ⟨i, A3, c3, hi, rfl, rfl, HO, HL, HR, HT, HAp, HB⟩ := hrel
  have hfl := HFL.out i
  obtain ⟨xs, hxs⟩ : ∃ xs, F i = xs := ⟨_, rfl⟩
  have HXS := hid hxs
  rw [hxs] at HO hfl ⊢
  obtain ⟨n1, hn1⟩ : ∃ n1, xs.length = n1 := ⟨_, rfl⟩
  have Hn1 := hid hn1
  rw [hn1] at HO hfl ⊢
  clear hn1 hxs
  by_cases hin : i < nt
  ·obtain ⟨s, hs⟩ : ∃ s, LT[i]? = some s := ⟨_, gE (by rw [HNT.out]; exact hin)⟩
   have HSi := hid (HFS.out i s hs)
   obtain ⟨bt, offt, eT, hbltt, ct0⟩ := str_at HT.out.rd hin hs
   subst eT
   have hi1 : (i : Int) < (nt : Int) := by omega
   have HU1 := hid (HUI.out s)
   have HUS := hid (show ∀ (j : Nat) (v : Int), L[j]? = some v → (L.take (j + 1)).any (usesK ps P s) = ((L.take j).any (usesK ps P s) || usesK ps P s v) from fun j v hv => any_snoc _ hv)
   have HU0 := hid (show (L.take 0).any (usesK ps P s) = false from rfl)
   have HXS2 := hid HXS.out
   clear hs
   rename World => wo
   go_wp2
   go_loopw [10, 11] (fun u y wx => ∃ j : Nat, j ≤ nl ∧ y = .int .i64 j ∧ u = .bool ((L.take j).any (usesK ps P s)) ∧ Hid (Below wo.heap.size wo wx)) (fun _ y _ => nl - (intOf y).toNat)
   case atStart => exact ⟨0, Nat.zero_le _, rfl, by rw [HU0.out], Below.refl _ _⟩
   case round =>
    obtain ⟨j, hj, rfl, rfl, HBx⟩ := hrel
    by_cases hjn : j < nl
    ·obtain ⟨v, hv⟩ : ∃ v, L[j]? = some v := ⟨_, gE (by rw [HNL.out]; exact hjn)⟩
     obtain ⟨q, rfl, hq⟩ := HUM.out v (List.mem_of_getElem? hv)
     have HUj := hid (HUS.out j _ hv)
     obtain ⟨b7, off7, e7, hblt7, c7⟩ := int_at (HL.out.next HBx.out).rd hjn hv
     subst e7
     obtain ⟨p, hp⟩ := HPS.out.get hq
     have hBw := below_next HB.out HBx.out
     obtain ⟨b, off, A', c', e8, hblt0, y0, y1, _, _, _, _⟩ := HPS.out.atc hq hp
     subst e8
     have x0 := ((bcell hBw).1 _ _ hblt0).trans y0
     have x1 := ((bcell hBw).1 _ _ hblt0).trans y1
     have hbz := hBw.size
     have hblt : b < wr.heap.size := by omega
     have hR := HR.out.next HBx.out
     have c0 := bool_at hR (show q < P.length by rw [HPL.out]; exact hq)
     have cz := hR.lt
     have ct1 := ((bcell HBx.out).1 _ _ hbltt).trans ct0
     have hbltx : bt < wr.heap.size := by have := HBx.out.size; omega
     have hj1 : (j : Int) < (nl : Int) := by omega
     have hq1 : (q : Int) < (n : Int) := by omega
     have HUK : Hid (usesK ps P s (q : Int) = ((p.kind == 1) && (!(P.getD q false) && decide (p.text = s)))) := (show usesK ps P s (q : Int) = ((p.kind == 1) && (!(P.getD q false) && decide (p.text = s))) by
      unfold usesK; rw [Int.toNat_natCast, hp])
     rw [HUK.out] at HUj
     clear hv hp hBw hR y0 y1 HUK
     obtain ⟨u, hu⟩ : ∃ u, (L.take j).any (usesK ps P s) = u := ⟨_, rfl⟩
     rw [hu] at HUj ⊢
     clear hu
     cases u with
     | true =>
      have HV := hid (show (L.take (j + 1)).any (usesK ps P s) = true by rw [HUj.out, Bool.true_or])
      clear x0 x1 c7 hblt7 hblt c0 cz ct1 hbltx
      go_wp2
      go_quiet (fail)
      go_wp2
      go_roundw
      case rel => exact ⟨j + 1, by omega, by go_num, by rw [HV.out], by first | exact below_drewN HBx.out _ | exact HBx.out⟩
      case measure => simp [intOf]; omega
     | false =>
      rcases bft (p.kind == 1) with g1 | g1
      ·cases hP : P.getD q false with
       | true =>
        rw [hP] at c0
        have HV := hid (show (L.take (j + 1)).any (usesK ps P s) = false by rw [HUj.out, g1, hP]; rfl)
        clear hP
        go_wp2
        go_quiet (fail)
        go_wp2
        go_roundw
        case rel => exact ⟨j + 1, by omega, by go_num, by rw [HV.out], by first | exact below_drewN HBx.out _ | exact HBx.out⟩
        case measure => simp [intOf]; omega
       | false =>
        rw [hP] at c0
        by_cases hts : p.text = s
        ·have hs := str_yes hts
         have HV := hid (show (L.take (j + 1)).any (usesK ps P s) = true by rw [HUj.out, g1, hP, decide_eq_true hts]; rfl)
         clear hP hts
         go_wp2
         go_quiet (fail)
         go_wp2
         go_roundw
         case rel => exact ⟨j + 1, by omega, by go_num, by rw [HV.out], by first | exact below_drewN HBx.out _ | exact HBx.out⟩
         case measure => simp [intOf]; omega
        ·have hs := str_ne hts
         have HV := hid (show (L.take (j + 1)).any (usesK ps P s) = false by rw [HUj.out, g1, hP, decide_eq_false hts]; rfl)
         clear hP hts
         go_wp2
         go_quiet (fail)
         go_wp2
         go_roundw
         case rel => exact ⟨j + 1, by omega, by go_num, by rw [HV.out], by first | exact below_drewN HBx.out _ | exact HBx.out⟩
         case measure => simp [intOf]; omega
      ·have HV := hid (show (L.take (j + 1)).any (usesK ps P s) = false by rw [HUj.out, g1]; rfl)
       go_wp2
       go_quiet (fail)
       go_wp2
       go_roundw
       case rel => exact ⟨j + 1, by omega, by go_num, by rw [HV.out], by first | exact below_drewN HBx.out _ | exact HBx.out⟩
       case measure => simp [intOf]; omega
    ·obtain rfl : j = nl := by omega
     rw [← HU1.out]
     have hz := HBx.out.size
     have HO2 := hid (HO.out.next HBx.out)
     have HL2 := hid (HL.out.next HBx.out)
     have HR2 := hid (HR.out.next HBx.out)
     have HT2 := hid (HT.out.next HBx.out)
     have HB2 := hid (below_next HB.out HBx.out)
     have ct1 := ((bcell HBx.out).1 _ _ hbltt).trans ct0
     have hbltx : bt < wr.heap.size := by omega
     have hbz := HB2.out.size
     clear ct0 hbltt HO HL HR HT HB HBx
     rcases bft (usedIn ps k s) with hus | hus
     ·rw [hus] at HSi ⊢
      have HS2 := hid (show F (i + 1) = xs by rw [HSi.out, HXS2.out]; simp)
      clear hus
      go_wp2
      go_roundw
      case rel => exact ⟨i + 1, A3, c3, by omega, by go_num, by rw [HS2.out, Hn1.out], by rw [HS2.out, Hn1.out]; exact HO2, HL2, HR2, HT2, HAp, HB2⟩
      case measure => simp [intOf]; omega
     ·rw [hus] at HSi ⊢
      have HS2 := hid (show F (i + 1) = xs ++ [s] by rw [HSi.out, HXS2.out]; simp)
      clear hus
      go_wp2_with (at_builtin; (refine wpList_append_row _ rfl (.tmp 73) (.tmp 78) _ rfl w.heap.size 9 j0 (.string ⟨#[]⟩) 1 16 underlying37 HJJ.out.1 HJJ.out.2.1 HJJ.out.2.2.1 HJJ.out.2.2.2 rfl (by decide) (.slice A3 n1 c3) n1 (strCells xs) rfl (Mine.alloc HO2.out _) ⟨wr.heap.size, 0, none⟩ 1 1 [.string s] rfl rfl (cell_one_new _ _ _) (fun x hx => by simp at hx; subst hx; rfl) (by unfold maxLen; omega) (by omega) (by simp; omega) ?_); intro v' w5 hown hg hwh)
      rw [← Hn1.out] at hown hg hwh HO2
      have HT5 := hid ((Mine.alloc HT2.out (.cells #[.string s] 9)).grown hg (fun g e => .inr (HAp.out g (by rw [ownBlk] at e; exact e))))
      obtain ⟨A5, c5, rfl, hm5, hk5, hb5⟩ := add_push HO2.out (Below.refl _ _) (KpX.refl _ _) hbz hown hg
      have HA5 := hid (show ∀ g, A5.map (·.block) = some g → (some ⟨bt, offt, none⟩ : Option Addr).map (·.block) ≠ some g from fun g e => by
       rw [ownBlk, ownBlk] at hwh
       rcases hwh with h | h
       ·exact HAp.out g (by rw [← h]; exact e)
       ·rw [h] at e
        injection e with e
        intro e2
        have := (Mine.blk HT2.out e2).2
        simp at e
        omega)
      have HO5 := hid hm5
      have HL5 := hid (HL2.out.kpx hk5 (by decide))
      have HR5 := hid (HR2.out.kpx hk5 (by decide))
      have HB5 := hid (HB2.out.trans hb5)
      clear hown hg hwh hm5 hk5 hb5 HO2 HL2 HR2 HT2 HB2 HAp ct1 hbltx
      go_wp2
      go_roundw
      case rel => exact ⟨i + 1, A5, c5, by omega, by go_num, by rw [HS2.out, lA]; rfl, by rw [HS2.out]; exact HO5, HL5, HR5, HT5, HA5, HB5⟩
      case measure => simp [intOf]; omega
  ·obtain rfl : i = nt := by omega
   go_wp2
   go_ret
   rw [HXS.out, Hn1.out]
   exact ⟨A3, c3, rfl, HO.out, HB.out⟩
def useStep (ps : List PN) (P : List Bool) (out : List ByteArray) (v : Int) : List ByteArray := match ps[v.toNat]? with | none => out | some p => if ((p.kind == 1) && !(P.getD v.toNat false)) = true then out ++ [p.text] else out
def usesP (ps : List PN) (P : List Bool) (L : List Int) : List ByteArray := L.foldl (useStep ps P) []
theorem useStep_mem (ps : List PN) (P : List Bool) (out : List ByteArray) (v : Int) (s : ByteArray) : s ∈ useStep ps P out v ↔ (s ∈ out ∨ usesK ps P s v = true) := by
 unfold useStep usesK
 cases ps[v.toNat]? with
 | none => simp
 | some p =>
  dsimp only
  by_cases h : ((p.kind == 1) && !(P.getD v.toNat false)) = true
  ·rw [if_pos h, List.mem_append, List.mem_singleton]
   rw [Bool.and_eq_true] at h
   simp only [h.1, h.2, Bool.true_and, decide_eq_true_eq]
   exact or_congr Iff.rfl eq_comm
  ·rw [if_neg h]
   constructor
   ·intro hs; exact .inl hs
   ·rintro (hs | hs)
    ·exact hs
    ·rw [Bool.and_eq_true, Bool.and_eq_true] at hs
     exact absurd (by rw [Bool.and_eq_true]; exact ⟨hs.1, hs.2.1⟩) h
theorem usesP_iff (ps : List PN) (k : Nat) (s : ByteArray) : Lib.containsS (usesP ps (parP ps (undL ps k)) (undL ps k)) s = usedIn ps k s := by
 have key : ∀ (L : List Int) (out : List ByteArray), s ∈ L.foldl (useStep ps (parP ps (undL ps k))) out ↔ (s ∈ out ∨ L.any (usesK ps (parP ps (undL ps k)) s) = true) := by
  intro L
  induction L with
  | nil => intro out; simp
  | cons v L ih =>
   intro out
   rw [List.foldl_cons, ih, useStep_mem, List.any_cons, Bool.or_eq_true, or_assoc]
 rw [Bool.eq_iff_iff, Lib.containsS_iff]
 unfold usesP usedIn
 rw [key]
 simp
theorem useStep_len (ps : List PN) (P : List Bool) (out : List ByteArray) (v : Int) : (useStep ps P out v).length ≤ out.length + 1 := by
 unfold useStep
 split
 ·omega
 ·split <;> simp
end Go.Proofs.YtgbikafalcbibaaGreatDoor

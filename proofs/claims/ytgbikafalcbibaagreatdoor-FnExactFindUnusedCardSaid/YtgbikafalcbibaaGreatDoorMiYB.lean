/-
  Put together by program (shake.py): FiG, FiH.
-/
import Derived.Test.YtgbikafalcbibaaGreatDoorMiYA
import Derived.Test.YtgbikafalcbibaaGreatDoorMiV
set_option maxRecDepth 100000
set_option maxHeartbeats 25600000
set_option linter.unusedVariables false
set_option linter.unusedSimpArgs false
open Go.Lib (hid)
open Go.Proofs.Tryz
namespace Go.Proofs.YtgbikafalcbibaaGreatDoor
open Go.RowKit
def KpX (t0 : TypeId) (w w' : World) : Prop := ∀ g t cs, Blk w g t cs → t ≠ t0 → Blk w' g t cs
section
variable {t0 : TypeId} {w w' w2 : World} {g cap : Nat} {t : TypeId} {xs : List Value} {B s n c : Nat} {A : Option Addr}
theorem KpX.refl (t0 : TypeId) (w : World) : KpX t0 w w := fun g t cs h _ => h
theorem KpX.of_below (h : Below w.heap.size w w') : KpX t0 w w' := fun g t cs hb _ => hb.next h
theorem KpX.trans (h : KpX t0 w w') (k : KpX t0 w' w2) : KpX t0 w w2 := fun g t cs hb hn => k g t cs (h g t cs hb hn) hn
theorem Own.kpx (h : Own w g t cap xs) (k : KpX t0 w w') (hn : t ≠ t0) : Own w' g t cap xs := by
 obtain ⟨rest, hb, hs⟩ := h
 exact ⟨rest, k _ _ _ hb hn, hs⟩
theorem Mine.kpx (h : Mine w B t s A n c xs) (k : KpX t0 w w') (hn : t ≠ t0) : Mine w' B t s A n c xs := by
 have hl2 := h.len
 rcases h.own with ⟨rfl, rfl, rfl⟩ | ⟨g', rfl, hB, hnc, hc, ho⟩
 ·exact ⟨by rw [hl2], .inl ⟨rfl, rfl⟩⟩
 ·exact Mine.mk_own (ho.kpx k hn) hl2 hB hnc hc
end
def addN (l : List ByteArray) (s : ByteArray) : List ByteArray := if Lib.containsS l s = true then l else l ++ [s]
theorem addN_len (l : List ByteArray) (s : ByteArray) : (addN l s).length ≤ l.length + 1 := by unfold addN; split <;> simp
def AddR (B : Nat) (w : World) (l : List ByteArray) (e : Ending) (w' : World) : Prop :=
 ∃ (A : Option Addr) (c : Nat), e = .returned (.slice A l.length c) ∧ Mine w' B 9 1 A l.length c (strCells l) ∧ KpX 9 w w' ∧ Below B w w'
theorem add_push {w w1 w3 : World} {B : Nat} {A : Option Addr} {l : List ByteArray} {c : Nat} {s : ByteArray} {v' : Value} (hm : Mine w1 B 9 1 A l.length c (strCells l)) (hb : Below B w w1) (hk : KpX 9 w w1) (hB : B ≤ w.heap.size)
  (hown : w3.ownsRow B 9 1 v' (l.length + 1) (strCells l ++ [.string s])) (hg : (w1.alloc (.cells #[.string s] 9)).grownBy w3 (Value.slice A l.length c).ownBlock) :
  ∃ A3 c3, v' = .slice A3 (l.length + 1) c3 ∧ Mine w3 B 9 1 A3 (l ++ [s]).length c3 (strCells (l ++ [s])) ∧ KpX 9 w w3 ∧ Below B w w3 := by
 obtain ⟨A3, c3, rfl, m3⟩ := Mine.of hown
 rw [ownBlk] at hg
 have hma := Mine.alloc hm (.cells #[.string s] 9)
 have hb2 : Below B w (w1.alloc (.cells #[.string s] 9)) := hb.alloc (Nat.le_trans hB hb.size) _
 refine ⟨A3, c3, rfl, by simp only [strCells, lA, List.map_append]; exact m3, fun g t cs hbk hn => ?_, hb2.grown hg (Nat.le_trans hB hb2.size) (fun g e => (Mine.blk hma e).1)⟩
 refine ((hk g t cs hbk hn).alloc _).grown hg (fun e => ?_)
 obtain ⟨cs', hk'⟩ := mine_blk' hma e.symm
 exact blk_ne ((hk g t cs hbk hn).alloc _) hk' hn rfl
theorem l22Add_any (A : Option Addr) (c B : Nat) (l : List ByteArray) (s : ByteArray) (w : World) (hl : l.length ≤ 100000) (hB : B ≤ w.heap.size) (hm : Mine w B 9 1 A l.length c (strCells l)) :
  Calls prog 89 #[.slice A l.length c, .string s] w (AddR B w (addN l s)) := by
 obtain ⟨j0, hj, hy0, hy1, hy2⟩ := info_parts infoStr
 have HJJ := hid (And.intro hj (And.intro hy0 (And.intro hy1 hy2)))
 have HC := hid (fun (v : Bool) (h : Lib.containsS l s = v) => show Calls prog 19 #[.slice A l.length c, .string s] w fun e w' => e = .returned (.bool v) ∧ Below w.heap.size w w' by rw [← h]; exact l22Has_any A l.length c l s w (by omega) (hid rfl) hm.rd)
 have HM := hid hm
 unfold AddR addN
 obtain ⟨nl, hnl⟩ : ∃ nl, l.length = nl := ⟨_, rfl⟩
 have HNL := hid hnl
 clear hj hy0 hy1 hy2 hm
 rcases bft (Lib.containsS l s) with hc | hc
 ·have HC2 := hid (HC.out _ hc)
  rw [if_pos hc]
  clear HC hc
  rw [hnl] at HC2 hl ⊢
  clear hnl
  go_enter func89, ntmps89
  go_wp2_with fail
  refine HC2.out.mono ?_
  rintro e w2 ⟨rfl, h2⟩
  have HM2 := hid (HM.out.next h2)
  rw [HNL.out] at HM2
  have HK := hid (KpX.of_below (t0 := 9) h2)
  have HB := hid (h2.mono hB)
  clear h2
  go_wp2
  go_ret
  exact ⟨A, c, rfl, HM2.out, HK.out, HB.out⟩
 ·have HC2 := hid (HC.out _ hc)
  rw [if_neg (by rw [hc]; decide)]
  clear HC hc
  rw [hnl] at HC2 hl ⊢
  clear hnl
  go_enter func89, ntmps89
  go_wp2_with fail
  refine HC2.out.mono ?_
  rintro e w2 ⟨rfl, h2⟩
  have HM2 := hid (HM.out.next h2)
  have HM3 := HM2
  rw [HNL.out] at HM3
  have HK := hid (KpX.of_below (t0 := 9) h2)
  have HB := hid (h2.mono hB)
  have hz := h2.size
  clear h2
  go_wp2_with (at_builtin; (refine wpList_append_own _ rfl (.tmp 9) (.tmp 11) _ rfl B 9 j0 (.string ⟨#[]⟩) 1 16 underlying37 HJJ.out.1 HJJ.out.2.1 HJJ.out.2.2.1 HJJ.out.2.2.2 rfl (by decide) _ _ _ rfl (Mine.alloc HM3.out _) ⟨w2.heap.size, 0, none⟩ 1 1 [.string s] rfl rfl (cell_one_new _ _ _) (fun x hx => by simp at hx; subst hx; rfl) (by unfold maxLen; omega) (by omega) (by simp; omega) ?_); intro v' w3 hown3 hg3 hnil3)
  rw [← HNL.out] at hown3 hg3
  obtain ⟨A3, c3, rfl, h3⟩ := add_push HM2.out HB.out HK.out hB hown3 hg3
  have H3 := hid h3
  clear hown3 hg3 hnil3 h3
  go_wp2
  go_ret
  exact ⟨A3, c3, by rw [lA]; rfl, H3.out⟩
theorem addOnce_any (A : Option Addr) (c B : Nat) (l : List ByteArray) (s : ByteArray) (w : World) (hl : l.length ≤ 100000) (hB : B ≤ w.heap.size) (hm : Mine w B 9 1 A l.length c (strCells l)) :
  Calls prog 92 #[.slice A l.length c, .string s] w (AddR B w (addN l s)) := by
 obtain ⟨j0, hj, hy0, hy1, hy2⟩ := info_parts infoStr
 have HJJ := hid (And.intro hj (And.intro hy0 (And.intro hy1 hy2)))
 have HC := hid (fun (v : Bool) (h : Lib.containsS l s = v) => show Calls prog 22 #[.slice A l.length c, .string s] w fun e w' => e = .returned (.bool v) ∧ Below w.heap.size w w' by rw [← h]; exact (containsM s hm).mono (fun e w' h => ⟨h.1, by rw [h.2]; exact Below.refl _ _⟩))
 have HM := hid hm
 unfold AddR addN
 obtain ⟨nl, hnl⟩ : ∃ nl, l.length = nl := ⟨_, rfl⟩
 have HNL := hid hnl
 clear hj hy0 hy1 hy2 hm
 rcases bft (Lib.containsS l s) with hc | hc
 ·have HC2 := hid (HC.out _ hc)
  rw [if_pos hc]
  clear HC hc
  rw [hnl] at HC2 hl ⊢
  clear hnl
  go_enter func92, ntmps92
  go_wp2_with fail
  refine HC2.out.mono ?_
  rintro e w2 ⟨rfl, h2⟩
  have HM2 := hid (HM.out.next h2)
  rw [HNL.out] at HM2
  have HK := hid (KpX.of_below (t0 := 9) h2)
  have HB := hid (h2.mono hB)
  clear h2
  go_wp2
  go_ret
  exact ⟨A, c, rfl, HM2.out, HK.out, HB.out⟩
 ·have HC2 := hid (HC.out _ hc)
  rw [if_neg (by rw [hc]; decide)]
  clear HC hc
  rw [hnl] at HC2 hl ⊢
  clear hnl
  go_enter func92, ntmps92
  go_wp2_with fail
  refine HC2.out.mono ?_
  rintro e w2 ⟨rfl, h2⟩
  have HM2 := hid (HM.out.next h2)
  have HM3 := HM2
  rw [HNL.out] at HM3
  have HK := hid (KpX.of_below (t0 := 9) h2)
  have HB := hid (h2.mono hB)
  have hz := h2.size
  clear h2
  go_wp2_with (at_builtin; (refine wpList_append_own _ rfl (.tmp 9) (.tmp 11) _ rfl B 9 j0 (.string ⟨#[]⟩) 1 16 underlying37 HJJ.out.1 HJJ.out.2.1 HJJ.out.2.2.1 HJJ.out.2.2.2 rfl (by decide) _ _ _ rfl (Mine.alloc HM3.out _) ⟨w2.heap.size, 0, none⟩ 1 1 [.string s] rfl rfl (cell_one_new _ _ _) (fun x hx => by simp at hx; subst hx; rfl) (by unfold maxLen; omega) (by omega) (by simp; omega) ?_); intro v' w3 hown3 hg3 hnil3)
  rw [← HNL.out] at hown3 hg3
  obtain ⟨A3, c3, rfl, h3⟩ := add_push HM2.out HB.out HK.out hB hown3 hg3
  have H3 := hid h3
  clear hown3 hg3 hnil3 h3
  go_wp2
  go_ret
  exact ⟨A3, c3, by rw [lA]; rfl, H3.out⟩
def letStep (ps : List PN) (P : List Bool) (out : List ByteArray) (v : Int) : List ByteArray := match ps[v.toNat]? with | none => out | some p => if ((p.kind == 12) || P.getD v.toNat false) = true then addN out p.text else out
def letsP (ps : List PN) (k : Nat) : List ByteArray := (undL ps k).foldl (letStep ps (parP ps (undL ps k))) []
theorem letStep_len (ps : List PN) (P : List Bool) (out : List ByteArray) (v : Int) : (letStep ps P out v).length ≤ out.length + 1 := by
 unfold letStep
 split
 ·omega
 ·split
  ·exact addN_len _ _
  ·omega
theorem undL_mem {ps : List PN} {k : Nat} (hk : k < ps.length) : Hid (∀ v ∈ undL ps k, ∃ q : Nat, v = (q : Int) ∧ q < ps.length) := (show ∀ v ∈ undL ps k, ∃ q : Nat, v = (q : Int) ∧ q < ps.length from fun v hv => by
 obtain ⟨j, h1, h2, _⟩ := trueTo_mem hv
 exact ⟨j, h1, by omega⟩)
theorem undL_len (ps : List PN) (k : Nat) : (undL ps k).length ≤ k + 1 := trueTo_len _ _
def TextsM (w : World) (l : List ByteArray) (e : Ending) (w' : World) : Prop :=
 ∃ (A : Option Addr) (c : Nat), e = .returned (.slice A l.length c) ∧ Mine w' w.heap.size 9 1 A l.length c (strCells l) ∧ Below w.heap.size w w'
theorem specLets_any (A : Option Addr) (n c : Nat) (ps : List PN) (k : Nat) (w : World) (hps : Nps w A n ps) (hb : Hid (PNs ps)) (htr : treeB ps = true) (hk : k < n) :
  Calls prog 59 #[.slice A n c, .int .i64 k] w (TextsM w (letsP ps k)) := by
 obtain ⟨m, hm, hm3, hg, hu⟩ := tree_one htr
 have hl := hps.len
 have hn : n ≤ 300 := by omega
 have HU := hid (fun (W : World) (hW : Below w.heap.size w W) => specUnder_any A n c ps k W (hps.next hW) hb htr hk)
 have hum := undL_mem (show k < ps.length by omega)
 rw [hl] at hum
 have hul := undL_len ps k
 have hPl := parP_len ps (undL ps k)
 rw [hl] at hPl
 obtain ⟨L, hL⟩ : ∃ L, undL ps k = L := ⟨_, rfl⟩
 have HPA := hid (fun (AL : Option Addr) (nl cl : Nat) (W : World) (hW : Below w.heap.size w W) (hr : Rd W 1 AL nl (intCells L)) (hll : Hid (L.length = nl)) => specParams_any A n c ps AL nl cl L W (hps.next hW) hg (by omega) hr hll (by have := hll.out; rw [hL] at hul; omega) (by rw [← hL]; exact hum))
 unfold letsP
 rw [hL] at HU hum hul hPl ⊢
 obtain ⟨P, hP⟩ : ∃ P, parP ps L = P := ⟨_, rfl⟩
 rw [hP] at HPA hPl ⊢
 obtain ⟨F, hF⟩ : ∃ F, (fun i => (L.take i).foldl (letStep ps P) []) = F := ⟨_, rfl⟩
 obtain ⟨nl, hnl⟩ : ∃ nl, L.length = nl := ⟨_, rfl⟩
 have HE := hid (show L.foldl (letStep ps P) [] = F nl by rw [← hF]; dsimp only; rw [← hnl, List.take_length])
 have HF0 := hid (show F 0 = [] by rw [← hF]; rfl)
 have HFS := hid (show ∀ (i : Nat) (v : Int), L[i]? = some v → F (i + 1) = letStep ps P (F i) v from fun i v hv => by
  rw [← hF]
  dsimp only
  rw [List.take_add_one, hv, Option.toList_some, List.foldl_append]
  rfl)
 have HFL := hid (show ∀ i, (F i).length ≤ i from fun i => by
  rw [← hF]
  have key : ∀ (l : List Int) (o : List ByteArray), (l.foldl (letStep ps P) o).length ≤ o.length + l.length := by
   intro l
   induction l with
   | nil => intro o; simp
   | cons v l ih =>
    intro o
    have h1 := ih (letStep ps P o v)
    have h2 := letStep_len ps P o v
    simp only [List.foldl_cons, List.length_cons]
    omega
  have h1 := key (L.take i) []
  have h2 : (L.take i).length ≤ i := by rw [List.length_take]; omega
  simp only [List.length_nil] at h1
  dsimp only
  omega)
 rw [HE.out]
 unfold TextsM
 have HPS := hid hps
 have HUM := hum
 unfold IntsM at HU
 rw [hnl] at HU
 have HNL := hid hnl
 have HPL := hid hPl
 rw [hnl] at hul
 have hnl3 : nl ≤ 300 := by omega
 clear hm hm3 hg hu hl hps hb htr hL hP hF hnl HE hum hPl hul
 go_enter func59, ntmps59
 go_wp2_with fail
 refine (HU.out _ grow_).mono ?_
 rintro e w1 ⟨AL, cl, rfl, hml, h1⟩
 have HO1 := hid (show Mine w1 w.heap.size 9 1 (some ⟨w.heap.size, 0, none⟩) 0 0 [] from Mine.next (own_empty w 9 1) h1)
 have HML := hid (hml.more (show w.heap.size ≤ _ by simp))
 have HB1 := hid (below_next1 (Below.refl _ _) h1)
 clear hml h1 HU
 go_wp2_with fail
 refine (HPA.out AL nl cl w1 HB1.out HML.out.rd HNL).mono ?_
 rintro e w2 ⟨rfl, ho2, h2⟩
 rw [HPL.out] at ho2 ⊢
 have HO2 := hid (HO1.out.next h2)
 have HL2 := hid (HML.out.next h2)
 have HR2 := hid ho2
 have HB2 := hid (below_next HB1.out h2)
 clear h2 ho2 HO1 HML HB1 HPA
 go_wp2
 go_loopw [5, 8] (fun o x wr => ∃ (i : Nat) (A3 : Option Addr) (c3 : Nat), i ≤ nl ∧ x = .int .i64 i ∧ o = .slice A3 (F i).length c3 ∧ Hid (Mine wr w.heap.size 9 1 A3 (F i).length c3 (strCells (F i))) ∧ Hid (Mine wr w.heap.size 3 1 AL nl cl (intCells L)) ∧ Hid (Own wr w1.heap.size 4 n (boolCells P)) ∧ Hid (Below w.heap.size w wr)) (fun _ x _ => nl - (intOf x).toNat)
 case atStart =>
  refine ⟨0, some ⟨w.heap.size, 0, none⟩, 0, Nat.zero_le _, rfl, ?_, ?_, HL2, HR2, HB2⟩
  all_goals rw [HF0.out]
  ·rfl
  ·exact HO2
 case round =>
  clear HO2 HL2 HR2 HB2
  obtain ⟨i, A3, c3, hi, rfl, rfl, HO, HL, HR, HB⟩ := hrel
  have hfl := HFL.out i
  by_cases hin : i < nl
  ·obtain ⟨v, hv⟩ : ∃ v, L[i]? = some v := ⟨_, gE (by rw [HNL.out]; exact hin)⟩
   obtain ⟨q, rfl, hq⟩ := HUM.out v (List.mem_of_getElem? hv)
   have HSi := hid (HFS.out i _ hv)
   obtain ⟨b7, off7, e7, hblt7, c7⟩ := int_at HL.out.rd hin hv
   subst e7
   obtain ⟨p, hp⟩ := HPS.out.get hq
   have HSp : Hid (F (i + 1) = if ((p.kind == 12) || P.getD q false) = true then addN (F i) p.text else F i) := (show F (i + 1) = if ((p.kind == 12) || P.getD q false) = true then addN (F i) p.text else F i by
    rw [HSi.out]; unfold letStep; rw [Int.toNat_natCast, hp])
   obtain ⟨b, off, A', c', e8, hblt0, y0, y1, _, _, _, _⟩ := HPS.out.atc hq hp
   subst e8
   have x0 := ((bcell HB.out).1 _ _ hblt0).trans y0
   have x1 := ((bcell HB.out).1 _ _ hblt0).trans y1
   have hbz := HB.out.size
   have hblt : b < wr.heap.size := by omega
   have c0 := bool_at HR.out (show q < P.length by rw [HPL.out]; exact hq)
   have cz := HR.out.lt
   have hi1 : (i : Int) < (nl : Int) := by omega
   have hq1 : (q : Int) < (n : Int) := by omega
   obtain ⟨xs, hxs⟩ : ∃ xs, F i = xs := ⟨_, rfl⟩
   have HXS := hid hxs
   rw [hxs] at HO hfl HSp ⊢
   have HAd := hid (l22Add_any A3 c3 w.heap.size xs p.text wr (by omega) hbz HO.out)
   clear hv hp HSi hxs y0 y1
   rcases bft (p.kind == 12) with g1 | g1
   ·rw [g1, Bool.true_or, if_pos rfl] at HSp
    go_wp2_with fail
    refine HAd.out.mono ?_
    rintro e w4 ⟨A4, c4, rfl, hm4, hk4, hb4⟩
    have HO4 := hid hm4
    have HL4 := hid (HL.out.kpx hk4 (by decide))
    have HR4 := hid (HR.out.kpx hk4 (by decide))
    have HB4 := hid (HB.out.trans hb4)
    clear hm4 hk4 hb4 HO HL HR HB HAd c0 cz c7 hblt7 x0 x1 hblt
    go_wp2
    go_roundw
    case rel => exact ⟨i + 1, A4, c4, by omega, by go_num, by rw [HSp.out], by rw [HSp.out]; exact HO4, HL4, HR4, HB4⟩
    case measure => simp [intOf]; omega
   ·rcases bft (P.getD q false) with g2 | g2
    ·rw [g1, g2, Bool.or_true, if_pos rfl] at HSp
     rw [g2] at c0
     go_wp2_with fail
     refine HAd.out.mono ?_
     rintro e w4 ⟨A4, c4, rfl, hm4, hk4, hb4⟩
     have HO4 := hid hm4
     have HL4 := hid (HL.out.kpx hk4 (by decide))
     have HR4 := hid (HR.out.kpx hk4 (by decide))
     have HB4 := hid (HB.out.trans hb4)
     clear hm4 hk4 hb4 HO HL HR HB HAd c0 cz c7 hblt7 x0 x1 hblt
     go_wp2
     go_roundw
     case rel => exact ⟨i + 1, A4, c4, by omega, by go_num, by rw [HSp.out], by rw [HSp.out]; exact HO4, HL4, HR4, HB4⟩
     case measure => simp [intOf]; omega
    ·rw [g1, g2, Bool.or_self, if_neg (by decide)] at HSp
     rw [g2] at c0
     go_wp2
     go_roundw
     case rel => exact ⟨i + 1, A3, c3, by omega, by go_num, by rw [HSp.out], by rw [HSp.out]; exact HO, HL, HR, HB⟩
     case measure => simp [intOf]; omega
  ·obtain rfl : i = nl := by omega
   go_wp2
   go_ret
   exact ⟨A3, c3, rfl, HO.out, HB.out⟩
theorem implLets_any (A : Option Addr) (n c : Nat) (ps : List PN) (k : Nat) (w : World) (hps : Nps w A n ps) (hb : Hid (PNs ps)) (htr : treeB ps = true) (hk : k < n) :
  Calls prog 62 #[.slice A n c, .int .i64 k] w (TextsM w (letsP ps k)) := by
 obtain ⟨m, hm, hm3, hg, hu⟩ := tree_one htr
 have hl := hps.len
 have hn : n ≤ 300 := by omega
 have HU := hid (fun (W : World) (hW : Below w.heap.size w W) => implUnder_any A n c ps k W (hps.next hW) hb htr hk)
 have hum := undL_mem (show k < ps.length by omega)
 rw [hl] at hum
 have hul := undL_len ps k
 have hPl := parP_len ps (undL ps k)
 rw [hl] at hPl
 obtain ⟨L, hL⟩ : ∃ L, undL ps k = L := ⟨_, rfl⟩
 have HPA := hid (fun (AL : Option Addr) (nl cl : Nat) (W : World) (hW : Below w.heap.size w W) (hr : Rd W 1 AL nl (intCells L)) (hll : Hid (L.length = nl)) => implBinders_any A n c ps AL nl cl L W (hps.next hW) hg (by omega) hr hll (by have := hll.out; rw [hL] at hul; omega) (bind_one htr) (by rw [← hL]; exact hum))
 unfold letsP
 rw [hL] at HU hum hul hPl ⊢
 obtain ⟨P, hP⟩ : ∃ P, parP ps L = P := ⟨_, rfl⟩
 rw [hP] at HPA hPl ⊢
 obtain ⟨F, hF⟩ : ∃ F, (fun i => (L.take i).foldl (letStep ps P) []) = F := ⟨_, rfl⟩
 obtain ⟨nl, hnl⟩ : ∃ nl, L.length = nl := ⟨_, rfl⟩
 have HE := hid (show L.foldl (letStep ps P) [] = F nl by rw [← hF]; dsimp only; rw [← hnl, List.take_length])
 have HF0 := hid (show F 0 = [] by rw [← hF]; rfl)
 have HFS := hid (show ∀ (i : Nat) (v : Int), L[i]? = some v → F (i + 1) = letStep ps P (F i) v from fun i v hv => by
  rw [← hF]
  dsimp only
  rw [List.take_add_one, hv, Option.toList_some, List.foldl_append]
  rfl)
 have HFL := hid (show ∀ i, (F i).length ≤ i from fun i => by
  rw [← hF]
  have key : ∀ (l : List Int) (o : List ByteArray), (l.foldl (letStep ps P) o).length ≤ o.length + l.length := by
   intro l
   induction l with
   | nil => intro o; simp
   | cons v l ih =>
    intro o
    have h1 := ih (letStep ps P o v)
    have h2 := letStep_len ps P o v
    simp only [List.foldl_cons, List.length_cons]
    omega
  have h1 := key (L.take i) []
  have h2 : (L.take i).length ≤ i := by rw [List.length_take]; omega
  simp only [List.length_nil] at h1
  dsimp only
  omega)
 rw [HE.out]
 unfold TextsM
 have HPS := hid hps
 have HUM := hum
 unfold IntsM at HU
 rw [hnl] at HU
 have HNL := hid hnl
 have HPL := hid hPl
 rw [hnl] at hul
 have hnl3 : nl ≤ 300 := by omega
 clear hm hm3 hg hu hl hps hb htr hL hP hF hnl HE hum hPl hul
 go_enter func62, ntmps62
 go_wp2_with fail
 refine (HU.out _ grow_).mono ?_
 rintro e w1 ⟨AL, cl, rfl, hml, h1⟩
 have HO1 := hid (show Mine w1 w.heap.size 9 1 none 0 0 [] from Mine.mk_nil _ _ _ _)
 have HML := hid hml
 have HB1 := hid h1
 clear hml h1 HU
 go_wp2_with fail
 refine (HPA.out AL nl cl w1 HB1.out HML.out.rd HNL).mono ?_
 rintro e w2 ⟨rfl, ho2, h2⟩
 rw [HPL.out] at ho2 ⊢
 have HO2 := hid (HO1.out.next h2)
 have HL2 := hid (HML.out.next h2)
 have HR2 := hid ho2
 have HB2 := hid (below_next HB1.out h2)
 clear h2 ho2 HO1 HML HB1 HPA
 go_wp2
 go_loopw [7, 18] (fun o x wr => ∃ (i : Nat) (A3 : Option Addr) (c3 : Nat), i ≤ nl ∧ x = .int .i64 i ∧ o = .slice A3 (F i).length c3 ∧ Hid (Mine wr w.heap.size 9 1 A3 (F i).length c3 (strCells (F i))) ∧ Hid (Mine wr w.heap.size 3 1 AL nl cl (intCells L)) ∧ Hid (Own wr w1.heap.size 4 n (boolCells P)) ∧ Hid (Below w.heap.size w wr)) (fun _ x _ => nl - (intOf x).toNat)
 case atStart =>
  refine ⟨0, none, 0, Nat.zero_le _, rfl, ?_, ?_, HL2, HR2, HB2⟩
  all_goals rw [HF0.out]
  ·rfl
  ·exact HO2
 case round =>
  clear HO2 HL2 HR2 HB2
  obtain ⟨i, A3, c3, hi, rfl, rfl, HO, HL, HR, HB⟩ := hrel
  have hfl := HFL.out i
  by_cases hin : i < nl
  ·obtain ⟨v, hv⟩ : ∃ v, L[i]? = some v := ⟨_, gE (by rw [HNL.out]; exact hin)⟩
   obtain ⟨q, rfl, hq⟩ := HUM.out v (List.mem_of_getElem? hv)
   have HSi := hid (HFS.out i _ hv)
   obtain ⟨b7, off7, e7, hblt7, c7⟩ := int_at HL.out.rd hin hv
   subst e7
   obtain ⟨p, hp⟩ := HPS.out.get hq
   have HSp : Hid (F (i + 1) = if ((p.kind == 12) || P.getD q false) = true then addN (F i) p.text else F i) := (show F (i + 1) = if ((p.kind == 12) || P.getD q false) = true then addN (F i) p.text else F i by
    rw [HSi.out]; unfold letStep; rw [Int.toNat_natCast, hp])
   obtain ⟨b, off, A', c', e8, hblt0, y0, y1, _, _, _, _⟩ := HPS.out.atc hq hp
   subst e8
   have x0 := ((bcell HB.out).1 _ _ hblt0).trans y0
   have x1 := ((bcell HB.out).1 _ _ hblt0).trans y1
   have hbz := HB.out.size
   have hblt : b < wr.heap.size := by omega
   have c0 := bool_at HR.out (show q < P.length by rw [HPL.out]; exact hq)
   have cz := HR.out.lt
   have hi1 : (i : Int) < (nl : Int) := by omega
   have hq1 : (q : Int) < (n : Int) := by omega
   obtain ⟨xs, hxs⟩ : ∃ xs, F i = xs := ⟨_, rfl⟩
   have HXS := hid hxs
   rw [hxs] at HO hfl HSp ⊢
   have HAd := hid (addOnce_any A3 c3 w.heap.size xs p.text wr (by omega) hbz HO.out)
   clear hv hp HSi hxs y0 y1
   rcases bft (p.kind == 12) with g1 | g1
   ·rw [g1, Bool.true_or, if_pos rfl] at HSp
    go_wp2_with fail
    refine HAd.out.mono ?_
    rintro e w4 ⟨A4, c4, rfl, hm4, hk4, hb4⟩
    have HO4 := hid hm4
    have HL4 := hid (HL.out.kpx hk4 (by decide))
    have HR4 := hid (HR.out.kpx hk4 (by decide))
    have HB4 := hid (HB.out.trans hb4)
    clear hm4 hk4 hb4 HO HL HR HB HAd c0 cz c7 hblt7 x0 x1 hblt
    go_wp2
    go_roundw
    case rel => exact ⟨i + 1, A4, c4, by omega, by go_num, by rw [HSp.out], by rw [HSp.out]; exact HO4, HL4, HR4, HB4⟩
    case measure => simp [intOf]; omega
   ·rcases bft (P.getD q false) with g2 | g2
    ·rw [g1, g2, Bool.or_true, if_pos rfl] at HSp
     rw [g2] at c0
     go_wp2_with fail
     refine HAd.out.mono ?_
     rintro e w4 ⟨A4, c4, rfl, hm4, hk4, hb4⟩
     have HO4 := hid hm4
     have HL4 := hid (HL.out.kpx hk4 (by decide))
     have HR4 := hid (HR.out.kpx hk4 (by decide))
     have HB4 := hid (HB.out.trans hb4)
     clear hm4 hk4 hb4 HO HL HR HB HAd c0 cz c7 hblt7 x0 x1 hblt
     go_wp2
     go_roundw
     case rel => exact ⟨i + 1, A4, c4, by omega, by go_num, by rw [HSp.out], by rw [HSp.out]; exact HO4, HL4, HR4, HB4⟩
     case measure => simp [intOf]; omega
    ·rw [g1, g2, Bool.or_self, if_neg (by decide)] at HSp
     rw [g2] at c0
     go_wp2
     go_roundw
     case rel => exact ⟨i + 1, A3, c3, by omega, by go_num, by rw [HSp.out], by rw [HSp.out]; exact HO, HL, HR, HB⟩
     case measure => simp [intOf]; omega
  ·obtain rfl : i = nl := by omega
   go_wp2
   go_ret
   exact ⟨A3, c3, rfl, HO.out, HB.out⟩
end Go.Proofs.YtgbikafalcbibaaGreatDoor

/-
  Put together by program (shake.py): FgF, FgB, FgE, FgD.
-/
import Derived.Test.YtgbikafalcbibaaGreatDoorMiV
import Derived.Test.YtgbikafalcbibaaGreatDoorMiK
set_option maxRecDepth 100000
set_option maxHeartbeats 25600000
set_option linter.unusedVariables false
set_option linter.unusedSimpArgs false
open Go.Lib (hid)
open Go.Proofs.Tryz
namespace Go.Proofs.YtgbikafalcbibaaGreatDoor
open Go.RowKit
def twice1 (t : ByteArray) (ps : List PN) (a : List FindingD × List ByteArray) (v : Int) : List FindingD × List ByteArray :=
 match ps[v.toNat]? with
 | none => a
 | some p => if (p.kind == 19) = true then a else (if Lib.containsS a.2 p.text = true then a.1 ++ [(5, lineN t (firstV ps v.toNat), p.text)] else a.1, a.2 ++ [p.text])
def twiceTo (t : ByteArray) (ps : List PN) (ks : List Int) (k : Nat) : List FindingD × List ByteArray := (ks.take k).foldl (twice1 t ps) ([], [])
def fileK (ps : List PN) : List Int := match ps[ps.length - 1]? with | none => [] | some p => p.kids
def findTwice (t : ByteArray) : List FindingD := match readP t with | none => [] | some ps => (twiceTo t ps (fileK ps) (fileK ps).length).1
section
variable {t : ByteArray} {ps : List PN} {ks : List Int} {k : Nat} {v : Nat} {p : PN}
theorem twiceTo_succ (hk : ks[k]? = some (v : Int)) (hp : ps[v]? = some p) : twiceTo t ps ks (k + 1) = if (p.kind == 19) = true then twiceTo t ps ks k else (if Lib.containsS (twiceTo t ps ks k).2 p.text = true then (twiceTo t ps ks k).1 ++ [(5, lineN t (firstV ps v), p.text)] else (twiceTo t ps ks k).1, (twiceTo t ps ks k).2 ++ [p.text]) := by
 unfold twiceTo
 rw [List.take_add_one, hk, Option.toList_some, List.foldl_append]
 show twice1 t ps _ (v : Int) = _
 unfold twice1
 rw [Int.toNat_natCast, hp]
theorem twice1_len (a : List FindingD × List ByteArray) (x : Int) : (twice1 t ps a x).1.length ≤ a.1.length + 1 ∧ (twice1 t ps a x).2.length ≤ a.2.length + 1 := by
 unfold twice1
 split
 ·omega
 ·split
  ·omega
  ·constructor
   ·dsimp only; split <;> simp
   ·simp
theorem twiceTo_len (k : Nat) : (twiceTo t ps ks k).1.length ≤ k ∧ (twiceTo t ps ks k).2.length ≤ k := by
 have h : ∀ (l : List Int) (a : List FindingD × List ByteArray), (l.foldl (twice1 t ps) a).1.length ≤ a.1.length + l.length ∧ (l.foldl (twice1 t ps) a).2.length ≤ a.2.length + l.length := by
  intro l
  induction l with
  | nil => intro a; simp
  | cons x l ih =>
   intro a
   have h1 := ih (twice1 t ps a x)
   have h2 := twice1_len (t := t) (ps := ps) a x
   simp only [List.foldl_cons, List.length_cons]
   omega
 have h1 := h (ks.take k) ([], [])
 have h2 : (ks.take k).length ≤ k := by rw [List.length_take]; omega
 unfold twiceTo
 simp at h1 ⊢
 omega
end
def TwS (t : ByteArray) (ps : List PN) (ks : List Int) (F : Nat → List FindingD × List ByteArray) : Prop :=
 F 0 = ([], []) ∧ (∀ k, (F k).1.length ≤ k ∧ (F k).2.length ≤ k) ∧ ∀ (k v : Nat) (p : PN), ks[k]? = some (v : Int) → ps[v]? = some p → F (k + 1) = if (p.kind == 19) = true then F k else (if Lib.containsS (F k).2 p.text = true then (F k).1 ++ [(5, lineN t (firstV ps v), p.text)] else (F k).1, (F k).2 ++ [p.text])
theorem twS (t : ByteArray) (ps : List PN) (ks : List Int) : Hid (TwS t ps ks (twiceTo t ps ks)) := ⟨rfl, fun k => twiceTo_len k, fun k v p h1 h2 => twiceTo_succ h1 h2⟩
theorem file_kids {t : ByteArray} {ps : List PN} (h : readP t = some ps) : ∃ m p, ps.length = m + 1 ∧ ps[m]? = some p ∧ fileK ps = p.kids ∧ p.kids.length ≤ 12 ∧ ∀ v ∈ p.kids, ∃ q : Nat, v = (q : Int) ∧ q < m := by
 obtain ⟨htr, h300, _⟩ := readP_some h
 have ht := htr
 unfold treeB at ht
 simp only [Bool.and_eq_true] at ht
 obtain ⟨h1, h2, h3, h4⟩ := ht
 have hg : Good ps := good_of (by intro e; rw [e] at h3; simp at h3)
 obtain ⟨m, hm⟩ : ∃ m, ps.length = m + 1 := by
  unfold inB at h1
  have := of_decide_eq_true h1
  exact ⟨ps.length - 1, by omega⟩
 obtain ⟨p, hp⟩ : ∃ p, ps[m]? = some p := ⟨_, gE (by omega)⟩
 obtain ⟨hk, hv⟩ := hg m p hp
 refine ⟨m, p, hm, hp, ?_, hk, fun v hvm => ?_⟩
 ·unfold fileK; rw [hm, Nat.add_sub_cancel, hp]
 ·obtain ⟨q, rfl⟩ := Int.eq_ofNat_of_zero_le (hv v hvm).1
  exact ⟨q, rfl, by have := (hv _ hvm).2; omega⟩
theorem findTwice_len (t : ByteArray) : (findTwice t).length ≤ 12 := by
 unfold findTwice
 split
 ·simp
 ·next ps h =>
  obtain ⟨m, p, _, _, e, h12, _⟩ := file_kids h
  rw [e]
  exact Nat.le_trans (twiceTo_len _).1 h12
theorem specFindTwice_no (t : ByteArray) (w : World) (ht : t.size ≤ 1048576) (h : readP t = none) : Calls prog 7 #[.string t] w (FindM w []) := by
 have HR := hid (fun W => specRead_any t W ht)
 unfold SRd at HR
 rw [h] at HR
 unfold FindM
 go_enter func7, ntmps7
 go_wp2_with fail
 refine (HR.out _).mono ?_
 rintro e w1 ⟨h1, g, p, rfl, hnps⟩
 have M0 := hid (show Mine w1 w.heap.size 41 3 (some ⟨w.heap.size, 0, none⟩) 0 0 [] from Mine.next (own_empty w 41 3) h1)
 have hb := below_next1 (Below.refl _ _) h1
 clear h1 hnps HR
 go_wp2
 go_ret
 exact ⟨_, _, rfl, M0.out, hb⟩
theorem specFindTwice_yes (t : ByteArray) (w : World) (ht : t.size ≤ 1048576) (ps : List PN) (h : readP t = some ps) : Calls prog 7 #[.string t] w (FindM w (twiceTo t ps (fileK ps) (fileK ps).length).1) := by
 obtain ⟨i0, hi, hz0, hz1, hz2⟩ := info_parts infoFindingI
 have HII := hid (And.intro hi (And.intro hz0 (And.intro hz1 hz2)))
 obtain ⟨j0, hj, hy0, hy1, hy2⟩ := info_parts infoStr
 have HJJ := hid (And.intro hj (And.intro hy0 (And.intro hy1 hy2)))
 have HR := hid (fun W => specRead_any t W ht)
 unfold SRd at HR
 rw [h] at HR
 have HLn := hid (fun (A : Option Addr) (n c : Nat) (k : Int) (W : World) h1 h2 h3 => specLine_any t A n c ps k W ht h1 h2 h3)
 have HPN := hid (readP_some h).2.2
 obtain ⟨m, p, hm, hp, hks, h12, hv⟩ := file_kids h
 rw [hks]
 have HV := hid hv
 obtain ⟨ks, hk⟩ : ∃ ks, p.kids = ks := ⟨_, rfl⟩
 rw [hk] at HV h12 ⊢
 have hm3 : m + 1 ≤ 300 := by have := (readP_some h).2.1; omega
 obtain ⟨F, hF⟩ : ∃ F, twiceTo t ps ks = F := ⟨_, rfl⟩
 have HT := twS t ps ks
 rw [hF] at HT ⊢
 have HS := hid HT.out.2.2
 have HLe := hid HT.out.2.1
 have HZ := hid HT.out.1
 clear HT
 obtain ⟨ml, hml⟩ : ∃ ml, ks.length = ml := ⟨_, rfl⟩
 rw [hml] at h12 ⊢
 have HML := hid hml
 dsimp only at HR
 rw [hm] at HR
 unfold FindM
 clear hi hz0 hz1 hz2 hj hy0 hy1 hy2 hF h hks hv hm hml
 go_enter func7, ntmps7
 go_wp2_with fail
 refine (HR.out _).mono ?_
 rintro e w1 ⟨h1, AN, cN, rfl, hnps⟩
 obtain ⟨b, off, A', c', rfl, hblt, x0, x1, x2, x3, hkm⟩ := hnps.kidM (Nat.lt_succ_self m) hp
 rw [hk] at x2 hkm
 have HF0 := hid (show SF w (some ⟨b, off, none⟩) (m + 1) cN ps A' c' ks none 0 [] (some ⟨w.heap.size, 0, none⟩) 0 [] w1 from ⟨hnps.more (by simp), hkm.more (by simp), Mine.mk_nil _ _ _ _, Mine.next (own_empty w 41 3) h1, below_next1 (Below.refl _ _) h1⟩)
 have em : ((m + 1 : Nat) : Int) - 1 = (m : Int) := by omega
 rw [HML.out] at x2
 clear hnps hkm h1 HR x0 x1 x3
 go_upto_region 7 with fail
 have HF1 := hid (show SF w (some ⟨b, off, none⟩) (m + 1) cN ps A' c' ks (some ⟨w1.heap.size, 0, none⟩) 0 [] (some ⟨w.heap.size, 0, none⟩) 0 [] (w1.alloc (.cells #[] 9)) from by
  have h := HF0.out.alloc (.cells #[] 9)
  exact ⟨h.1, h.2.1, Mine.more (own_empty w1 9 1) HF0.out.2.2.2.2.size, h.2.2.2.1, h.2.2.2.2⟩)
 clear x2 hblt HF0
 go_wp2
 go_loopw [3, 8, 9] (fun o s i wr => ∃ (k : Nat) (A : Option Addr) (c : Nat) (AS : Option Addr) (cS : Nat), k ≤ ml ∧ i = .int .i64 k ∧ o = .slice A (F k).1.length c ∧ s = .slice AS (F k).2.length cS ∧ Hid (SF w (some ⟨b, off, none⟩) (m + 1) cN ps A' c' ks AS cS (F k).2 A c (F k).1 wr)) (fun _ _ i _ => ml - (intOf i).toNat)
 case atStart =>
  refine ⟨0, some ⟨w.heap.size, 0, none⟩, 0, some ⟨w1.heap.size, 0, none⟩, 0, Nat.zero_le _, rfl, ?_, ?_, ?_⟩
  all_goals rw [HZ.out]
  ·rfl
  ·rfl
  ·exact HF1
 case round =>
  clear HF1
  obtain ⟨k, A, c, AS, cS, hk, rfl, rfl, rfl, HSF⟩ := hrel
  obtain ⟨hl1, hl2⟩ := HLe.out k
  obtain ⟨fs, hfs⟩ : ∃ fs, (F k).1 = fs := ⟨_, rfl⟩
  obtain ⟨ss, hss⟩ : ∃ ss, (F k).2 = ss := ⟨_, rfl⟩
  have HFk := hid (show F k = (fs, ss) by rw [← hfs, ← hss])
  rw [hfs, hss] at HSF
  rw [hfs] at hl1 ⊢
  rw [hss] at hl2 ⊢
  obtain ⟨n1, hn1⟩ : ∃ n1, fs.length = n1 := ⟨_, rfl⟩
  obtain ⟨n2, hn2⟩ : ∃ n2, ss.length = n2 := ⟨_, rfl⟩
  have Hn1 := hid hn1
  have Hn2 := hid hn2
  rw [hn1] at hl1 ⊢
  rw [hn2] at hl2 ⊢
  clear hn1 hn2 hfs hss
  by_cases hkn : k < ml
  ·obtain ⟨v, hvk⟩ : ∃ v, ks[k]? = some v := ⟨_, gE (by rw [HML.out]; exact hkn)⟩
   obtain ⟨q, rfl, hq⟩ := HV.out v (List.mem_of_getElem? hvk)
   obtain ⟨p1, hp1⟩ := HSF.out.1.nps.get (show q < m + 1 by omega)
   have HS1 := hid (HS.out k q p1 hvk hp1)
   obtain ⟨b7, off7, e7, hblt7, c7⟩ := int_at HSF.out.2.1.rd (by rw [HML.out]; exact hkn) hvk
   subst e7
   obtain ⟨b', off', A2, c2, e8, hblt', x0, x1, x2, x3, _, _⟩ := HSF.out.1.nps.atc (show q < m + 1 by omega) hp1
   injection e8 with e8
   injection e8 with e81 e82
   subst e81; subst e82
   have hi1 : (k : Int) < (ml : Int) := by omega
   have hq1 : (q : Int) < ((m + 1 : Nat) : Int) := by omega
   rw [HFk.out] at HS1
   dsimp only at HS1
   clear hp1
   rcases bft (p1.kind == 19) with g1 | g1
   ·rw [g1, if_pos rfl] at HS1
    go_wp2
    go_roundw
    case rel => exact ⟨k + 1, A, c, AS, cS, by omega, by go_num, by rw [HS1.out, Hn1.out], by rw [HS1.out, Hn2.out], by rw [HS1.out]; exact HSF.out.alloc _⟩
    case measure => simp [intOf]; omega
   ·rw [g1, if_neg (by decide)] at HS1
    have K := Blk.new wr 36 #[.int .i64 p1.kind, .string p1.text, .slice A2 p1.kids.length c2, .bool p1.blank]
    have H22 := hid (fun (W : World) (h : Below wr.heap.size wr W) => l22Has_any AS ss.length cS ss p1.text W (by rw [Hn2.out]; omega) (hid rfl) (HSF.out.next h).2.2.1.rd)
    rw [Hn2.out] at H22
    go_wp2_with fail
    refine (H22.out _ grow_).mono ?_
    rintro e w2 ⟨rfl, h2⟩
    have S2 := hid ((HSF.out.alloc _).next h2)
    have K2 := K.next h2
    have k1 := K2.q1
    have kz := K2.lt
    clear K x0 x1 x2 x3 hblt' hblt7 c7 HSF H22 h2
    rcases bft (Lib.containsS ss p1.text) with g2 | g2
    ·rw [g2, if_pos rfl] at HS1
     rw [g2]
     have M2 := hid S2.out.2.2.2.1
     rw [Hn1.out] at M2
     have hbz := S2.out.2.2.2.2.size
     have H8 := hid (fun (W : World) (h : Below w2.heap.size w2 W) => HLn.out (some ⟨b, off, none⟩) (m + 1) cN q W (by omega) (S2.out.next h).1.nps HPN)
     obtain ⟨D, hD⟩ : ∃ D, lineN t (firstV ps q) = D := ⟨_, rfl⟩
     rw [hD] at H8 HS1
     obtain ⟨b9, off9, e9, hblt9, c9⟩ := int_at S2.out.2.1.rd (by rw [HML.out]; exact hkn) hvk
     injection e9 with e9
     injection e9 with e91 e92
     subst e91; subst e92
     clear hD hvk
     go_upto_region 13 with fail
     go_region_law (first
      | (
        have _s := S4
        refine step_append_lies _ rfl (.tmp 49) (.tmp 60) 22 rfl w.heap.size 41 i0 (.agg #[.int .i64 0, .int .i64 0, .string ⟨#[]⟩]) 3 32 underlying22 HII.out.1 HII.out.2.1 HII.out.2.2.1 HII.out.2.2.2 rfl (by decide) (.slice A n1 c) n1 (fs.flatMap findingCells) (by first | (simp [Act.eval]; done) | (simp [Act.eval, Act.put]; done) | rfl) (by first | exact (Mine.alloc M4.out _).drew | exact Mine.alloc M4.out _) ⟨w4.heap.size, 0, none⟩ 1 1 [.int .i64 5, .int .i64 D, .string p1.text] (by first | (simp [Act.eval]; done) | (simp [Act.eval, Act.put]; done) | rfl) (by rfl) (World.news_of_block (cs := #[.int .i64 5, .int .i64 D, .string p1.text]) (t := 41) (fr := (0, 0)) (heap_alloc_new w4 _)) (fun x hx => by simp at hx; rcases hx with rfl | rfl | rfl <;> rfl) (by decide) (by unfold maxLen; omega) (by omega) (by simp; omega) (w4.heap.size + 1) (by simp) ?_
        intro v' cap w6 hown6 hgrow hat hlt6
        have hgrow2 : (w4.alloc (.cells #[.int .i64 5, .int .i64 D, .string p1.text] 41)).grownBy w6 (Value.slice A n1 c).ownBlock := (by first | exact hgrow | exact grown_undrewP hgrow))
      | (
        refine step_calls rfl 20 func20 (by kernel_rfl) (by kernel_rfl) _ _ rfl #[.string t, .slice (some ⟨b, off, none⟩) (m + 1) cN, .int .i64 q] (by first | (simp [Act.eval]; done) | (simp [Act.eval, Act.put]; done) | rfl) (H8.out _ (by first | exact Below.refl _ _ | exact (Below.refl _ _).drew)) ?_
        rintro e w4 ⟨rfl, h4⟩
        refine ⟨_, rfl, ?_⟩
        have h4' : Below w2.heap.size w2 w4 := (by first | exact h4 | exact (Below.refl _ w2).drew.trans h4)
        have S4 := hid (S2.out.next h4')
        have M4 := hid (M2.out.next h4')
        have K4 := K2.next h4'
        have k41 := ((bcell h4').1 _ 1 kz).trans k1
        have kz4 := Nat.lt_of_lt_of_le kz h4'.size
        have hbz4 := S4.out.2.2.2.2.size
        have c94 := ((bcell h4').1 _ _ hblt9).trans c9))
     all_goals
      rw [← Hn1.out] at hown6 hgrow2
      obtain ⟨A6, c6, ev, h6⟩ := SF.find (S4.out.alloc (.cells #[.int .i64 5, .int .i64 D, .string p1.text] 41)) hown6 hgrow2
      injection ev with ev1 ev2 ev3
      subst ev1; subst ev3
      have K6 := (K4.alloc (.cells #[.int .i64 5, .int .i64 D, .string p1.text] 41)).grown hgrow2 (fun e => by
       rw [ownBlk] at e
       obtain ⟨cs, hk⟩ := mine_blk' (Mine.alloc S4.out.2.2.2.1 (.cells #[.int .i64 5, .int .i64 D, .string p1.text] 41)) e.symm
       exact blk_ne (K4.alloc _) hk (by decide) rfl)
      have S6 := hid h6
      have M6 := hid h6.2.2.1
      rw [Hn2.out] at M6
      have k61 := K6.q1
      have kz6 := K6.lt
      have hbz6 := h6.2.2.2.2.size
      clear hown6 hgrow hgrow2 hat hlt6 h6 K4 K6 K2 S4 M4 M2 S2 k41 k1 H8 c94 c9
      go_wp2_with (at_builtin; (refine wpList_append_own _ rfl (.tmp 62) (.tmp 65) _ rfl w.heap.size 9 j0 (.string ⟨#[]⟩) 1 16 underlying37 HJJ.out.1 HJJ.out.2.1 HJJ.out.2.2.1 HJJ.out.2.2.2 rfl (by decide) _ _ _ rfl (Mine.alloc M6.out _) ⟨w6.heap.size, 0, none⟩ 1 1 [.string p1.text] rfl rfl (cell_one_new _ _ _) (fun x hx => by simp at hx; subst hx; rfl) (by unfold maxLen; omega) (by omega) (by simp; omega) ?_); intro v3 w3 hown3 hg3 hnil3)
      rw [← Hn2.out] at hown3 hg3
      obtain ⟨A3, c3, rfl, h3⟩ := SF.name (S6.out.alloc _) hown3 hg3
      have S3 := hid h3
      clear hown3 hg3 hnil3 h3 M6 S6
      go_wp2
      go_roundw
      case rel => exact ⟨k + 1, _, _, A3, c3, by omega, by go_num, by rw [HS1.out, lA, ← Hn1.out]; rfl, by rw [HS1.out, lA]; rfl, by rw [HS1.out]; exact S3⟩
      case measure => simp [intOf]; omega
    ·rw [g2, if_neg (by decide)] at HS1
     rw [g2]
     have M2 := hid S2.out.2.2.1
     rw [Hn2.out] at M2
     have hbz := S2.out.2.2.2.2.size
     go_wp2_with (at_builtin; (refine wpList_append_own _ rfl (.tmp 62) (.tmp 65) _ rfl w.heap.size 9 j0 (.string ⟨#[]⟩) 1 16 underlying37 HJJ.out.1 HJJ.out.2.1 HJJ.out.2.2.1 HJJ.out.2.2.2 rfl (by decide) _ _ _ rfl (Mine.alloc M2.out _) ⟨w2.heap.size, 0, none⟩ 1 1 [.string p1.text] rfl rfl (cell_one_new _ _ _) (fun x hx => by simp at hx; subst hx; rfl) (by unfold maxLen; omega) (by omega) (by simp; omega) ?_); intro v' w3 hown3 hg3 hnil3)
     rw [← Hn2.out] at hown3 hg3
     obtain ⟨A3, c3, rfl, h3⟩ := SF.name (S2.out.alloc _) hown3 hg3
     have S3 := hid h3
     clear hown3 hg3 hnil3 h3 M2 S2
     go_wp2
     go_roundw
     case rel => exact ⟨k + 1, A, c, A3, c3, by omega, by go_num, by rw [HS1.out, Hn1.out], by rw [HS1.out, lA]; rfl, by rw [HS1.out]; exact S3⟩
     case measure => simp [intOf]; omega
  ·obtain rfl : k = ml := by omega
   go_wp2
   go_ret
   rw [HFk.out]
   dsimp only
   rw [Hn1.out]
   exact ⟨A, c, rfl, by rw [← Hn1.out]; exact HSF.out.2.2.2.1, HSF.out.2.2.2.2⟩
theorem specFindTwice_any (t : ByteArray) (w : World) (ht : t.size ≤ 1048576) : Calls prog 7 #[.string t] w (FindM w (findTwice t)) := by
 unfold findTwice
 rcases hr : readP t with _ | ps
 ·exact specFindTwice_no t w ht hr
 ·exact specFindTwice_yes t w ht ps hr
theorem implFindTwice_any (t : ByteArray) (w : World) (ht : t.size ≤ 1048576) : Calls prog 8 #[.string t] w (FindM w (findTwice t)) := by
 have HR := hid (finderOf_src t w ht)
 obtain ⟨j0, hj, hy0, hy1, hy2⟩ := info_parts infoStr
 have HJJ := hid (And.intro hj (And.intro hy0 (And.intro hy1 hy2)))
 obtain ⟨fe, hfe⟩ : ∃ fe, findTwice t = fe := ⟨_, rfl⟩
 have HFE := hid hfe
 rw [hfe]
 unfold FindM
 clear hfe hj hy0 hy1 hy2
 go_enter func8, ntmps8
 go_wp2_with fail
 refine HR.out.mono ?_
 rintro e w1 ⟨T, A, n, c, ps, ls, rfl, hfi, hn3, hll, hla, hsrc⟩
 have HFi := hid hfi
 obtain ⟨AL, cL, AF, cF, hK, hN, hL, hF, hBT, hB⟩ := hfi
 have k0 := hK.q0
 have kf := hK.frozen
 have kz := hK.lt
 rcases hsrc with ⟨hr, rfl, rfl⟩ | ⟨hr, hn⟩
 ·have HX := hid (show fe = [] by rw [← HFE.out]; unfold findTwice; rw [hr])
  have HB := hid hB
  clear hK hN hL hF hla hr HR HFE HFi
  go_wp2
  go_ret
  rw [HX.out]
  exact ⟨none, 0, rfl, Mine.mk_nil _ _ _ _, HB.out⟩
 ·obtain ⟨m, p, hm, hp, hks, h12, hv⟩ := file_kids hr
  have HX := hid (show fe = (twiceTo t ps (fileK ps) (fileK ps).length).1 by rw [← HFE.out]; unfold findTwice; rw [hr])
  rw [hks] at HX
  obtain rfl : n = m + 1 := by omega
  obtain ⟨b, off, A', c', rfl, hblt, x0, x1, x2, x3, hkm⟩ := hN.kidM (Nat.lt_succ_self m) hp
  have HV := hid hv
  have HLA := hid hla
  obtain ⟨ks, hk⟩ : ∃ ks, p.kids = ks := ⟨_, rfl⟩
  rw [hk] at HV h12 x2 hkm HX
  have HKM := hid hkm
  have HK := hid hK
  obtain ⟨F, hF⟩ : ∃ F, twiceTo t ps ks = F := ⟨_, rfl⟩
  have HT := twS t ps ks
  rw [hF] at HT HX
  have HS := hid HT.out.2.2
  have HLe := hid HT.out.2.1
  have HZ := hid HT.out.1
  clear HT
  obtain ⟨ml, hml⟩ : ∃ ml, ks.length = ml := ⟨_, rfl⟩
  have em : ((m + 1 : Nat) : Int) - 1 = (m : Int) := by omega
  rw [hml] at h12 x2 HKM HX
  have hm1 : ((m : Int) + 1 == 0) = false := by rw [beq_eq_false_iff_ne]; omega
  have HML := hid hml
  have HLL := hid hll
  clear hK hN hL hF hla hr hks hk hv hkm HR HFE x0 x1 x3 hp hm hn hml hll hBT hB
  go_upto_region 5 with fail
  have we : IntKind.i64.wrap (((m + 1 : Nat) : Int) - 1) = (m : Int) := by rw [em]; exact IntWalk.i64_in _ (by omega)
  have we2 := we
  simp only [Int.natCast_add, Int.natCast_one] at we2
  have gm : (m : Int) < ((m + 1 : Nat) : Int) := by omega
  go_quiet (fail)
  have HP0 : Hid (FP w T (some ⟨b, off, none⟩) (m + 1) c ps ls A' c' ks none 0 [] [] (w1.drewN nq)) := (show FP w T (some ⟨b, off, none⟩) (m + 1) c ps ls A' c' ks none 0 [] [] w1 from ⟨HFi.out, by rw [HML.out]; exact HKM.out, Mine.mk_nil _ _ _ _⟩).next (below_drewN (Below.refl _ _) nq)
  generalize w1.drewN nq = W1 at HP0 ⊢
  clear k0 kf kz x2 hblt HFi HKM HK we we2 gm
  go_wp2
  go_loopw [4, 30] (fun s i wr => ∃ (k : Nat) (AS : Option Addr) (cS : Nat), k ≤ ml ∧ i = .int .i64 k ∧ s = .slice AS (F k).2.length cS ∧ Hid (FP w T (some ⟨b, off, none⟩) (m + 1) c ps ls A' c' ks AS cS (F k).2 (F k).1 wr)) (fun _ i _ => ml - (intOf i).toNat)
  case atStart =>
   refine ⟨0, none, 0, Nat.zero_le _, rfl, ?_, ?_⟩
   all_goals rw [HZ.out]
   ·rfl
   ·exact HP0
  case round =>
   clear HP0
   obtain ⟨k, AS, cS, hk, rfl, rfl, HP⟩ := hrel
   obtain ⟨hl1, hl2⟩ := HLe.out k
   obtain ⟨fs, hfs⟩ : ∃ fs, (F k).1 = fs := ⟨_, rfl⟩
   obtain ⟨ss, hss⟩ : ∃ ss, (F k).2 = ss := ⟨_, rfl⟩
   have HFk := hid (show F k = (fs, ss) by rw [← hfs, ← hss])
   rw [hfs, hss] at HP
   rw [hfs] at hl1
   rw [hss] at hl2 ⊢
   obtain ⟨n2, hn2⟩ : ∃ n2, ss.length = n2 := ⟨_, rfl⟩
   have Hn2 := hid hn2
   rw [hn2] at hl2 ⊢
   clear hn2 hfs hss
   obtain ⟨AL, cL, AF, cF, hK, hN, hL, hF, hBT, hB⟩ := id HP.out.1
   have k0 := hK.q0
   have k2 := hK.q2
   have kf := hK.frozen
   have kz := hK.lt
   by_cases hkn : k < ml
   ·obtain ⟨v, hvk⟩ : ∃ v, ks[k]? = some v := ⟨_, gE (by rw [HML.out]; exact hkn)⟩
    obtain ⟨q, rfl, hq⟩ := HV.out v (List.mem_of_getElem? hvk)
    obtain ⟨p1, hp1⟩ := hN.nps.get (show q < m + 1 by omega)
    have HS1 := hid (HS.out k q p1 hvk hp1)
    obtain ⟨b7, off7, e7, hblt7, c7⟩ := int_at HP.out.2.1.rd (by rw [HML.out]; exact hkn) hvk
    subst e7
    obtain ⟨b', off', A2, c2, e8, hblt', x0, x1, x2, x3, _, _⟩ := hN.nps.atc (show q < m + 1 by omega) hp1
    injection e8 with e8
    injection e8 with e81 e82
    subst e81; subst e82
    have hi1 : (k : Int) < (ml : Int) := by omega
    have hq1 : (q : Int) < ((m + 1 : Nat) : Int) := by omega
    rw [HFk.out] at HS1
    dsimp only at HS1
    have hlq := HLA.out q (by omega)
    clear hvk hp1 k2 hK hN hL hF hBT hB
    rcases bft (p1.kind == 19) with g1 | g1
    ·rw [g1, if_pos rfl] at HS1
     have HPN := hid (fun (W : World) (h : Below wr.heap.size wr W) => HP.out.next h)
     clear hlq
     go_wp2
     go_roundw
     case rel => exact ⟨k + 1, AS, cS, by omega, by go_num, by rw [HS1.out, Hn2.out], by rw [HS1.out]; exact HPN.out _ grow_⟩
     case measure => simp [intOf]; omega
    ·rw [g1, if_neg (by decide)] at HS1
     have K := Blk.new wr 36 #[.int .i64 p1.kind, .string p1.text, .slice A2 p1.kids.length c2, .bool p1.blank]
     have gT : wr.heap.size ≠ T := by omega
     have HC := hid (fun (W : World) (h : Below wr.heap.size wr W) => show Calls prog 22 #[.slice AS ss.length cS, .string p1.text] W fun e w' => e = .returned (.bool (Lib.containsS ss p1.text)) ∧ W = w' from (containsM p1.text (HP.out.next h).2.2).mono (fun e w' h => ⟨h.1, h.2.symm⟩))
     rw [Hn2.out] at HC
     go_wp2_with fail
     refine (HC.out _ grow_).mono ?_
     rintro e w2 ⟨rfl, rfl⟩
     clear x0 x1 x2 x3 hblt' hblt7 c7 HC
     have HPx := hid (HP.out.alloc (.cells #[.int .i64 p1.kind, .string p1.text, .slice A2 p1.kids.length c2, .bool p1.blank] 36))
     rcases bft (Lib.containsS ss p1.text) with g2 | g2
     ·rw [g2, if_pos rfl] at HS1
      rw [g2]
      have HFn := hid (find_any w T (some ⟨b, off, none⟩) (m + 1) c ps ls fs 5 q (lineN t (firstV ps q)) p1.text _ HPx.out.1 hlq (by omega) (by rw [HLL.out]; omega))
      obtain ⟨D, hD⟩ : ∃ D, lineN t (firstV ps q) = D := ⟨_, rfl⟩
      rw [hD] at HFn HS1
      clear hD hlq
      go_wp2_with fail
      refine HFn.out.mono ?_
      rintro e w2 ⟨rfl, h2, hk2⟩
      have HP2 := hid (HPx.out.found h2 hk2)
      have K2 := hk2 _ _ _ K gT (by decide)
      have k1 := K2.q1
      have kz2 := K2.lt
      have M2 := hid HP2.out.2.2
      rw [Hn2.out] at M2
      have hbz : w.heap.size ≤ w2.heap.size := by obtain ⟨_, _, _, _, _, _, _, _, _, hB⟩ := h2; exact hB.size
      clear h2 hk2 K K2 HPx HP HFn k0 kf
      go_wp2_with (at_builtin; (refine wpList_append_own _ rfl (.tmp 53) (.tmp 56) _ rfl w.heap.size 9 j0 (.string ⟨#[]⟩) 1 16 underlying37 HJJ.out.1 HJJ.out.2.1 HJJ.out.2.2.1 HJJ.out.2.2.2 rfl (by decide) _ _ _ rfl (Mine.alloc M2.out _) ⟨w2.heap.size, 0, none⟩ 1 1 [.string p1.text] rfl rfl (cell_one_new _ _ _) (fun x hx => by simp at hx; subst hx; rfl) (by unfold maxLen; omega) (by omega) (by simp; omega) ?_); intro v' w3 hown3 hg3 hnil3)
      rw [← Hn2.out] at hown3 hg3
      obtain ⟨A3, c3, rfl, h3⟩ := FP.name (HP2.out.alloc _) hown3 hg3
      have HP3 := hid h3
      clear hown3 hg3 hnil3 h3 M2 HP2
      go_wp2
      go_roundw
      case rel => exact ⟨k + 1, A3, c3, by omega, by go_num, by rw [HS1.out, lA]; rfl, by rw [HS1.out]; exact HP3⟩
      case measure => simp [intOf]; omega
     ·rw [g2, if_neg (by decide)] at HS1
      rw [g2]
      have M2 := hid HPx.out.2.2
      rw [Hn2.out] at M2
      have hbz : w.heap.size ≤ (wr.alloc (.cells #[.int .i64 p1.kind, .string p1.text, .slice A2 p1.kids.length c2, .bool p1.blank] 36)).heap.size := by obtain ⟨_, _, _, _, _, _, _, _, _, hB⟩ := HPx.out.1; exact hB.size
      have k1 := K.q1
      have kz2 := K.lt
      have HP2 := HPx
      clear HPx hlq K HP k0 kf
      generalize (wr.alloc (.cells #[.int .i64 p1.kind, .string p1.text, .slice A2 p1.kids.length c2, .bool p1.blank] 36)) = w2 at HP2 M2 k1 kz2 hbz ⊢
      go_wp2_with (at_builtin; (refine wpList_append_own _ rfl (.tmp 53) (.tmp 56) _ rfl w.heap.size 9 j0 (.string ⟨#[]⟩) 1 16 underlying37 HJJ.out.1 HJJ.out.2.1 HJJ.out.2.2.1 HJJ.out.2.2.2 rfl (by decide) _ _ _ rfl (Mine.alloc M2.out _) ⟨w2.heap.size, 0, none⟩ 1 1 [.string p1.text] rfl rfl (cell_one_new _ _ _) (fun x hx => by simp at hx; subst hx; rfl) (by unfold maxLen; omega) (by omega) (by simp; omega) ?_); intro v' w3 hown3 hg3 hnil3)
      rw [← Hn2.out] at hown3 hg3
      obtain ⟨A3, c3, rfl, h3⟩ := FP.name (HP2.out.alloc _) hown3 hg3
      have HP3 := hid h3
      clear hown3 hg3 hnil3 h3 M2 HP2
      go_wp2
      go_roundw
      case rel => exact ⟨k + 1, A3, c3, by omega, by go_num, by rw [HS1.out, lA]; rfl, by rw [HS1.out]; exact HP3⟩
      case measure => simp [intOf]; omega
   ·obtain rfl : k = ml := by omega
    have HX2 := hid (show fe = fs by rw [HX.out, HFk.out])
    have HM := hid hF
    have HB := hid hB
    clear hK hN hL hF hBT hB k0
    go_wp2
    go_ret
    rw [HX2.out]
    exact ⟨AF, cF, rfl, HM.out, HB.out⟩
theorem lawFindTwice (t : ByteArray) (w : World) (ht : t.size ≤ maxLen) : Calls prog 3 #[.string t] w fun e w' => e = .returned (.bool true) ∧ Below w.heap.size w w' := by
 have hb := Below.refl w.heap.size w
 unfold maxLen at ht
 by_cases h1 : 1048576 < t.size
 ·go_enter func3, ntmps3
  go_wp2
  go_ret
  exact ⟨rfl, grow_⟩
 ·have h2 : t.size ≤ 1048576 := by omega
  have hn6 : (findTwice t).length ≤ 300 := by have := findTwice_len t; omega
  have HI := hid (fun W => implFindTwice_any t W h2)
  have HP := hid (fun W => specFindTwice_any t W h2)
  obtain ⟨l, hr⟩ : ∃ r, findTwice t = r := ⟨_, rfl⟩
  rw [hr] at HI HP hn6
  clear hr ht h1
  go_enter func3, ntmps3
  go_wp2_with fail
  refine (HP.out _).mono ?_
  rintro e w2 ⟨A0, c0, rfl, m0, h2'⟩
  replace hb := below_next hb h2'
  clear h2'
  have q0 := hid (fun g (hg : A0.map (·.block) = some g) => (m0.blk hg).2)
  have z0 := hb.size
  go_wp2_with fail
  refine (HI.out _).mono ?_
  rintro e w3 ⟨A3, c3, rfl, m3, h2'⟩
  replace m0 := m0.next h2'
  replace hb := below_next hb h2'
  clear h2'
  obtain ⟨H3, hH3⟩ : ∃ H, H = w2.heap.size := ⟨_, rfl⟩
  rw [← hH3] at m3 q0 z0
  go_wp2_with fail
  refine (eqFindingS_same _ _ _ _ _ l _ (by omega) rfl m3.rd m0.rd).mono ?_
  rintro e w2 ⟨rfl, h2⟩
  replace m0 := by first | exact m0.next h2 | exact m0.next1 h2 | exact m0.next2 h2
  replace m3 := by first | exact m3.next h2 | exact m3.next1 h2 | exact m3.next2 h2
  replace hb := by first | exact below_next hb h2 | exact below_next1 hb h2 | exact below_next2 hb h2
  clear h2
  go_wp2_with fail
  refine (markFindingS_mine _ _ _ _ _ _ _ m3 (by omega) (by omega)).mono ?_
  rintro e w2 ⟨rfl, m4, hg⟩
  replace m0 := m0.grown hg (fun g e => .inr (fun h => by have := (m3.blk e).1; have := q0.out _ h; omega))
  replace hb := below_turned hb hg (fun g e => by have := (m3.blk e).1; omega)
  clear hg m3
  go_wp2_with fail
  refine (heldFindingS_any _ _ _ _ _ m4.rd (by omega) (by omega)).mono ?_
  rintro e w2 ⟨rfl, h2⟩
  replace m0 := by first | exact m0.next h2 | exact m0.next1 h2 | exact m0.next2 h2
  replace m4 := by first | exact m4.next h2 | exact m4.next1 h2 | exact m4.next2 h2
  replace hb := by first | exact below_next hb h2 | exact below_next1 hb h2 | exact below_next2 hb h2
  clear h2
  go_wp2_with fail
  refine (HI.out _).mono ?_
  rintro e w3 ⟨A5, c5, rfl, m5, h2'⟩
  replace m0 := m0.next h2'
  replace m4 := m4.next h2'
  replace hb := below_next hb h2'
  clear h2'
  go_wp2_with fail
  refine (eqFindingS_same _ _ _ _ _ l _ (by omega) rfl m5.rd m0.rd).mono ?_
  rintro e w2 ⟨rfl, h2⟩
  replace m4 := by first | exact m4.next h2 | exact m4.next1 h2 | exact m4.next2 h2
  replace hb := by first | exact below_next hb h2 | exact below_next1 hb h2 | exact below_next2 hb h2
  clear h2
  go_wp2_with fail
  refine (heldFindingS_any _ _ _ _ _ m4.rd (by omega) (by omega)).mono ?_
  rintro e w2 ⟨rfl, h2⟩
  replace hb := by first | exact below_next hb h2 | exact below_next1 hb h2 | exact below_next2 hb h2
  clear h2
  go_wp2
  go_ret
  exact ⟨rfl, grow_⟩
end Go.Proofs.YtgbikafalcbibaaGreatDoor

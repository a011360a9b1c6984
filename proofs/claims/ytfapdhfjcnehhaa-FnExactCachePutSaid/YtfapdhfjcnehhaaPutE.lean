
/-
  Contracts: a result kept, the reference's way (spec.CachePut).
-/
import Derived.Test.YtfapdhfjcnehhaaPutD
import Derived.Deep.RegionHeld3
import Derived.StillTailTactics
import Derived.Deep.DeepCutAuto
namespace Go.Proofs.Ytfapdhfjcnehhaa
open Go.RowKit
set_option linter.unusedVariables false
set_option linter.unusedSimpArgs false

theorem outE_step {p : EntryD → Bool} {l : List EntryD} {k : Nat} {d : EntryD} (h : l[k]? = some d) : outE p (l.take (k + 1)) = if p d then outE p (l.take k) else outE p (l.take k) ++ [d] := by
  rw [List.take_add_one, h]
  unfold outE
  rw [List.filter_append]
  cases hp : p d <;> simp [hp]
theorem outE_len (p : EntryD → Bool) (l : List EntryD) (k : Nat) : (outE p (l.take k)).length ≤ k := Nat.le_trans (List.length_filter_le _ _) (by rw [List.length_take]; omega)

theorem start_blks (w : World) (C E Z C' : Array Value) (tc te : TypeId) :
    Own (((((w.alloc (.cells C tc)).alloc (.cells E te)).alloc (.cells Z tc)).alloc (.cells C' tc)).alloc (.cells #[] te)) (w.heap.size + 1 + 1 + 1 + 1) te 0 [] ∧
    Blk (((((w.alloc (.cells C tc)).alloc (.cells E te)).alloc (.cells Z tc)).alloc (.cells C' tc)).alloc (.cells #[] te)) w.heap.size tc C ∧
    Blk (((((w.alloc (.cells C tc)).alloc (.cells E te)).alloc (.cells Z tc)).alloc (.cells C' tc)).alloc (.cells #[] te)) (w.heap.size + 1) te E ∧
    Blk (((((w.alloc (.cells C tc)).alloc (.cells E te)).alloc (.cells Z tc)).alloc (.cells C' tc)).alloc (.cells #[] te)) (w.heap.size + 1 + 1) tc Z ∧
    Blk (((((w.alloc (.cells C tc)).alloc (.cells E te)).alloc (.cells Z tc)).alloc (.cells C' tc)).alloc (.cells #[] te)) (w.heap.size + 1 + 1 + 1) tc C' := by
  refine ⟨?_, ?_, ?_, ?_, ?_⟩
  · have h : Own ((((((w.alloc (.cells C tc)).alloc (.cells E te)).alloc (.cells Z tc)).alloc (.cells C' tc)).alloc (.cells #[] te))) _ te 0 [] := Own.made rfl
    simp only [World.size_alloc] at h
    exact h
  · exact ((((Blk.new w tc C).alloc _).alloc _).alloc _).alloc _
  · have h := ((((Blk.new (w.alloc (.cells C tc)) te E).alloc (.cells Z tc)).alloc (.cells C' tc)).alloc (.cells #[] te))
    simp only [World.size_alloc] at h
    exact h
  · have h := (((Blk.new ((w.alloc (.cells C tc)).alloc (.cells E te)) tc Z).alloc (.cells C' tc)).alloc (.cells #[] te))
    simp only [World.size_alloc] at h
    exact h
  · have h := ((Blk.new (((w.alloc (.cells C tc)).alloc (.cells E te)).alloc (.cells Z tc)) tc C').alloc (.cells #[] te))
    simp only [World.size_alloc] at h
    exact h
theorem own_ne {w : World} {g g' cap : Nat} {e t : TypeId} {xs : List Value} {cs : Array Value} (h : Own w g e cap xs) (h' : Blk w g' t cs) (hne : e ≠ t) : g ≠ g' := by
  rintro rfl
  obtain ⟨rest, hb, _⟩ := h
  have := hb.symm.trans h'
  injection this with this
  injection this with _ this
  exact hne this
theorem blk_put {w : World} {g i : Nat} {t : TypeId} {cs cs' : Array Value} {u : Value} (h : Blk w g t cs) (he : cs.setIfInBounds i u = cs') : Blk (w.setCell ⟨g, i, none⟩ u) g t cs' := by
  rw [← he]; exact h.set_ i u
set_option maxRecDepth 100000 in
set_option maxHeartbeats 3200000 in
theorem specCachePut_any (m h q : Int) (A : Option Addr) (n c : Nat) (l : List EntryD) (t x3 : ByteArray) (a b x4 : Int) (w : World) (hn : n ≤ 1048576) (hl : Hid (l.length = n)) (hr : Rd w 5 A n (l.flatMap entryCells)) :
    Calls Try.prog 20 #[.agg #[.int .i64 m, .slice A n c, .int .i64 h, .int .i64 q], .agg #[.string t, .int .i64 a, .int .i64 b, .string x3, .int .i64 x4]] w (CacheR m h q (putL m l (t, a, b, x3, x4)) w) := by
  obtain ⟨i0, hi, hz0, hz1, hz2⟩ := info_parts infoEntryI
  have HI := Lib.hid (And.intro hi (And.intro hz0 (And.intro hz1 hz2)))
  have HR := Lib.hid hr
  clear hi hz0 hz1 hz2 hr
  go_enter Try.func20, Try.ntmps20
  go_wp2
  go_loopw [6] (fun i wr => ∃ (k : Nat) (out : List EntryD) (g6 c6 : Nat), k ≤ n ∧ i = .int .i64 k ∧ Hid (outE (sameE t a b) (l.take k) = out) ∧ w.heap.size + 4 ≤ g6 ∧ out.length ≤ c6 ∧ c6 ≤ maxLen ∧ Hid (Own wr g6 47 (c6 * 5) (out.flatMap entryCells)) ∧ Hid (Blk wr w.heap.size 44 #[.int .i64 m, .slice A n c, .int .i64 h, .int .i64 q]) ∧ Hid (Blk wr (w.heap.size + 1) 47 #[.string t, .int .i64 a, .int .i64 b, .string x3, .int .i64 x4]) ∧ Hid (Blk wr (w.heap.size + 1 + 1) 44 #[.int .i64 0, .slice none 0 0, .int .i64 0, .int .i64 0]) ∧ Hid (Blk wr (w.heap.size + 1 + 1 + 1) 44 #[.int .i64 m, .slice (some ⟨g6, 0, none⟩) out.length c6, .int .i64 h, .int .i64 q]) ∧ Below w.heap.size w wr ∧ g6 < wr.heap.size) (fun i _ => n - (intOf i).toNat)
  case atStart =>
    obtain ⟨s1, s2, s3, s4, s5⟩ := start_blks w #[.int .i64 m, .slice A n c, .int .i64 h, .int .i64 q] #[.string t, .int .i64 a, .int .i64 b, .string x3, .int .i64 x4] #[.int .i64 0, .slice none 0 0, .int .i64 0, .int .i64 0] #[.int .i64 m, .slice (some ⟨w.heap.size + 1 + 1 + 1 + 1, 0, none⟩) 0 0, .int .i64 h, .int .i64 q] 44 47
    exact ⟨0, [], w.heap.size + 1 + 1 + 1 + 1, 0, Nat.zero_le _, rfl, rfl, by omega, Nat.le_refl _, Nat.zero_le _, s1, s2, s3, s4, s5, (by repeat' (first | (with_reducible exact Below.refl _ _) | (with_reducible assumption) | (with_reducible refine below_drewN ?_ _) | (with_reducible refine Below.drew ?_) | (with_reducible refine Below.alloc ?_ ?_ _) | (with_reducible refine Below.setCell ?_ ?_ _) | go_size)), by simp [World.setCell]⟩
  case round =>
    obtain ⟨k, out, g6, c6, hk, rfl, HOut, hg6, hoc, hcm, HO, K0, K1, K2, K5, hb, hlt⟩ := hrel
    by_cases hkn : k < n
    · obtain ⟨⟨y0, y1, y2, y3, y4⟩, hd⟩ : ∃ d, l[k]? = some d := ⟨_, List.getElem?_eq_getElem (by have := hl.out; omega)⟩
      obtain ⟨b', off, rfl, hblt, c0, c1, c2, c3, c4⟩ := entry_at (HR.out.below hb) hkn hd
      have HD := Lib.hid hd
      have k01 : wr.cell? ⟨w.heap.size, 1, none⟩ = some (.slice (some ⟨b', off, none⟩) n c) := K0.out.cell 1
      have e0 : wr.cell? ⟨w.heap.size + 1, 0, none⟩ = some (.string t) := K1.out.cell 0
      have e1 : wr.cell? ⟨w.heap.size + 1, 1, none⟩ = some (.int .i64 a) := K1.out.cell 1
      have e2 : wr.cell? ⟨w.heap.size + 1, 2, none⟩ = some (.int .i64 b) := K1.out.cell 2
      clear hd
      have hik : (k : Int) < n := by omega
      have hbw : b' < w.heap.size := HR.out.lt (by omega) b' off rfl
      have HSame := Lib.hid (fun s (hs : sameE t a b (y0, y1, y2, y3, y4) = s) (W : World) => show Calls Try.prog 42 #[.agg #[.string y0, .int .i64 y1, .int .i64 y2, .string y3, .int .i64 y4], .string t, .int .i64 a, .int .i64 b] W fun e w' => e = .returned (.bool s) ∧ Below W.heap.size W w' by
        have h := l29Same_any t y0 y3 a b y1 y2 y4 W
        rwa [hs] at h)
      have hos := Lib.hid (outE_step (p := sameE t a b) HD.out)
      cases hs : sameE t a b (y0, y1, y2, y3, y4) with
      | true =>
        have HS := Lib.hid (HSame.out _ hs)
        have hst := Lib.hid (show outE (sameE t a b) (l.take (k + 1)) = out by have := hos.out; rw [hs] at this; rw [this, if_pos rfl]; exact HOut.out)
        clear hs HSame hos
        go_wp2_with fail
        go_still_tail 11, (by kernel_rfl)
        change wpList _ _ _ _ _ wr.drew
        go_wp2_with fail
        refine (HS.out _).mono ?_
        rintro e w3 ⟨rfl, h3⟩
        have O3 := Lib.hid (HO.out.drew.next h3)
        have K03 := Lib.hid (K0.out.drew.next h3)
        have K13 := Lib.hid (K1.out.drew.next h3)
        have K23 := Lib.hid (K2.out.drew.next h3)
        have K53 := Lib.hid (K5.out.drew.next h3)
        have hb3 := below_next hb (show Below wr.heap.size wr w3 from (Below.refl _ _).drew.trans h3)
        have hlt3 : g6 < w3.heap.size := Nat.lt_of_lt_of_le hlt h3.size
        clear c0 c1 c2 c3 c4 k01 e0 e1 e2 hblt h3 HO K0 K1 K2 K5 hb hlt
        go_wp2
        go_roundw
        case rel => exact ⟨k + 1, out, g6, c6, by omega, by go_num, hst, hg6, hoc, hcm, O3, K03, K13, K23, K53, hb3, hlt3⟩
        case measure => simp [intOf]; omega
      | false =>
        have HS := Lib.hid (HSame.out _ hs)
        have hst := Lib.hid (show outE (sameE t a b) (l.take (k + 1)) = out ++ [(y0, y1, y2, y3, y4)] by have := hos.out; rw [hs] at this; rw [this, if_neg Bool.false_ne_true, HOut.out])
        have hlo : out.length ≤ k := by rw [← HOut.out]; exact outE_len _ _ _
        clear hs HSame hos
        go_wp2_with fail
        go_still_tail 11, (by kernel_rfl)
        change wpList _ _ _ _ _ wr.drew
        go_wp2_with fail
        refine (HS.out _).mono ?_
        rintro e w3 ⟨rfl, h3⟩
        have O3 := Lib.hid (HO.out.drew.next h3)
        have K03 := Lib.hid (K0.out.drew.next h3)
        have K13 := Lib.hid (K1.out.drew.next h3)
        have K23 := Lib.hid (K2.out.drew.next h3)
        have K53 := Lib.hid (K5.out.drew.next h3)
        have h3' : Below wr.heap.size wr w3 := (Below.refl _ _).drew.trans h3
        have hb3 := below_next hb h3'
        have hlt3 : g6 < w3.heap.size := Nat.lt_of_lt_of_le hlt h3.size
        have hblt3 := Nat.lt_of_lt_of_le hblt h3.size
        obtain ⟨b2, o2, e, _, d0, d1, d2, d3, d4⟩ := entry_at (HR.out.below hb3) hkn HD.out
        injection e with e; injection e with eb eo; subst eb; subst eo
        have k01 : w3.cell? ⟨w.heap.size, 1, none⟩ = some (.slice (some ⟨b', off, none⟩) n c) := K03.out.cell 1
        have k51 : w3.cell? ⟨w.heap.size + 1 + 1 + 1, 1, none⟩ = some (.slice (some ⟨g6, 0, none⟩) out.length c6) := K53.out.cell 1
        have kf5 := K53.out.frozen
        have hz3 := K53.out.lt
        obtain ⟨n3, hn3⟩ : ∃ n3, out.length = n3 := ⟨_, rfl⟩
        have HN3 := Lib.hid hn3
        rw [hn3] at k51 hoc hlo
        have HK53 := Lib.hid (show Blk w3 (w.heap.size + 1 + 1 + 1) 44 #[.int .i64 m, .slice (some ⟨g6, 0, none⟩) n3 c6, .int .i64 h, .int .i64 q] by have := K53.out; rw [hn3] at this; exact this)
        clear c0 c1 c2 c3 c4 e0 e1 e2 hblt h3 h3' HO K0 K1 K2 K5 hb hlt K53 hn3
        have a01 : (w3.alloc (.cells #[.string y0, .int .i64 y1, .int .i64 y2, .string y3, .int .i64 y4] 47)).cell? ⟨w.heap.size, 1, none⟩ = some (.slice (some ⟨b', off, none⟩) n c) := (K03.out.alloc _).cell 1
        have a51 : (w3.alloc (.cells #[.string y0, .int .i64 y1, .int .i64 y2, .string y3, .int .i64 y4] 47)).cell? ⟨w.heap.size + 1 + 1 + 1, 1, none⟩ = some (.slice (some ⟨g6, 0, none⟩) n3 c6) := (HK53.out.alloc _).cell 1
        have af5 : (w3.alloc (.cells #[.string y0, .int .i64 y1, .int .i64 y2, .string y3, .int .i64 y4] 47)).frozen? ⟨w.heap.size + 1 + 1 + 1, 1, none⟩ = false := (HK53.out.alloc _).frozen 1
        obtain ⟨b3, o3, e, _, ad0, ad1, ad2, ad3, ad4⟩ := entry_at (HR.out.below (hb3.alloc hb3.size (.cells #[.string y0, .int .i64 y1, .int .i64 y2, .string y3, .int .i64 y4] 47))) hkn HD.out
        injection e with e; injection e with eb eo; subst eb; subst eo
        have FIN := Lib.hid (fun (gg cap : Nat) (w5 : World) (hown5 : w5.ownsRow g6 47 5 (.slice (some ⟨gg, 0, none⟩) (n3 + 1) cap) (n3 + 1) (out.flatMap entryCells ++ entryCells (y0, y1, y2, y3, y4))) (hgrow2 : (w3.alloc (.cells (entryCells (y0, y1, y2, y3, y4)).toArray 47)).grownBy w5 (some g6)) (hat : g6 = gg ∨ gg = w3.heap.size + 1) (hlt5 : gg < w5.heap.size) =>
          show w.heap.size + 4 ≤ gg ∧ (out ++ [(y0, y1, y2, y3, y4)]).length ≤ cap ∧ cap ≤ maxLen ∧ Hid (Own (w5.setCell ⟨w.heap.size + 1 + 1 + 1, 1, none⟩ (.slice (some ⟨gg, 0, none⟩) (n3 + 1) cap)) gg 47 (cap * 5) ((out ++ [(y0, y1, y2, y3, y4)]).flatMap entryCells)) ∧ Hid (Blk (w5.setCell ⟨w.heap.size + 1 + 1 + 1, 1, none⟩ (.slice (some ⟨gg, 0, none⟩) (n3 + 1) cap)) w.heap.size 44 #[.int .i64 m, .slice (some ⟨b', off, none⟩) n c, .int .i64 h, .int .i64 q]) ∧ Hid (Blk (w5.setCell ⟨w.heap.size + 1 + 1 + 1, 1, none⟩ (.slice (some ⟨gg, 0, none⟩) (n3 + 1) cap)) (w.heap.size + 1) 47 #[.string t, .int .i64 a, .int .i64 b, .string x3, .int .i64 x4]) ∧ Hid (Blk (w5.setCell ⟨w.heap.size + 1 + 1 + 1, 1, none⟩ (.slice (some ⟨gg, 0, none⟩) (n3 + 1) cap)) (w.heap.size + 1 + 1) 44 #[.int .i64 0, .slice none 0 0, .int .i64 0, .int .i64 0]) ∧ Hid (Blk (w5.setCell ⟨w.heap.size + 1 + 1 + 1, 1, none⟩ (.slice (some ⟨gg, 0, none⟩) (n3 + 1) cap)) (w.heap.size + 1 + 1 + 1) 44 #[.int .i64 m, .slice (some ⟨gg, 0, none⟩) (out ++ [(y0, y1, y2, y3, y4)]).length cap, .int .i64 h, .int .i64 q]) ∧ Below w.heap.size w (w5.setCell ⟨w.heap.size + 1 + 1 + 1, 1, none⟩ (.slice (some ⟨gg, 0, none⟩) (n3 + 1) cap)) ∧ gg < (w5.setCell ⟨w.heap.size + 1 + 1 + 1, 1, none⟩ (.slice (some ⟨gg, 0, none⟩) (n3 + 1) cap)).heap.size by
            have hgg : w.heap.size + 4 ≤ gg := by rcases hat with hq | hq <;> omega
            obtain ⟨g7, c7, e7, ho7, hB7, hnc7, hcm7⟩ := own_some hown5 (by intro e; cases e)
            injection e7 with e7 _ e8
            injection e7 with e7
            injection e7 with e7
            subst e7; subst e8
            have hle : (out ++ [(y0, y1, y2, y3, y4)]).length = n3 + 1 := by rw [List.length_append, HN3.out]; rfl
            have hO : Own w5 gg 47 (cap * 5) ((out ++ [(y0, y1, y2, y3, y4)]).flatMap entryCells) := by
              rw [List.flatMap_append]
              simpa using ho7
            rw [hle]
            exact ⟨hgg, hnc7, hcm7, hO.far (by dsimp only; omega) _, ((K03.out.alloc _).turned hgrow2 (fun q e => by injection e with e; omega)).far (by dsimp only; omega) _, ((K13.out.alloc _).turned hgrow2 (fun q e => by injection e with e; omega)).far (by dsimp only; omega) _, ((K23.out.alloc _).turned hgrow2 (fun q e => by injection e with e; omega)).far (by dsimp only; omega) _, blk_put ((HK53.out.alloc _).turned hgrow2 (fun q e => by injection e with e; omega)) rfl, (below_turned (hb3.alloc hb3.size _) hgrow2 (fun q e => by injection e with e; omega)).setCell (by dsimp only; omega) _, by simpa [World.setCell] using hlt5⟩)
        go_wp2_with fail
        go_region_law
          (refine step_append_lies _ rfl (.tmp 31) (.tmp 37) 42 rfl g6 47 i0 (.agg #[.string ⟨#[]⟩, .int .i64 0, .int .i64 0, .string ⟨#[]⟩, .int .i64 0]) 5 56 Try.underlying42 HI.out.1 HI.out.2.1 HI.out.2.2.1 HI.out.2.2.2 rfl (by decide) (.slice (some ⟨g6, 0, none⟩) n3 c6) n3 (out.flatMap entryCells) (by simp [Act.eval, Act.put]) (own_lies ((O3.out.alloc _).drew) HN3.out (by omega) hcm) ⟨w3.heap.size, 0, none⟩ 1 1 (entryCells (y0, y1, y2, y3, y4)) (by simp [Act.eval, Act.put]) (by rfl) (World.news_of_block (cs := (entryCells (y0, y1, y2, y3, y4)).toArray) (t := 47) (fr := (0, 0)) (heap_alloc_new w3 _)) (fun x hx => by simp [entryCells] at hx; rcases hx with rfl | rfl | rfl | rfl | rfl <;> rfl) (by decide) (by unfold maxLen; omega) (by omega) (by simp; omega) (w3.heap.size + 1) (by simp) ?_
           intro gg cap w5 hown5 hgrow hat hlt5
           have hgrow2 : (w3.alloc (.cells (entryCells (y0, y1, y2, y3, y4)).toArray 47)).grownBy w5 (some g6) := ⟨hgrow.os, hgrow.tape, hgrow.output, hgrow.size, hgrow.block⟩
           have K55 := (HK53.out.alloc _).turned hgrow2 (fun q e => by injection e with e; omega)
           have k51 : w5.cell? ⟨w.heap.size + 1 + 1 + 1, 1, none⟩ = some (.slice (some ⟨g6, 0, none⟩) n3 c6) := K55.cell 1
           have kf5 := K55.frozen
           have hat2 : g6 = gg ∨ gg = w3.heap.size + 1 := by
             rcases hat with hq | hq
             · exact .inl (by injection hq)
             · exact .inr hq
           have F5 := FIN.out gg cap w5 hown5 hgrow2 hat2 hlt5
           have HF5 := Lib.hid F5
           clear F5 hown5 hgrow hat hlt5 hat2 hgrow2)
        all_goals
          go_wp2
          go_roundw
          case rel => exact ⟨k + 1, out ++ [(y0, y1, y2, y3, y4)], _, _, by omega, by go_num, hst, HF5.out⟩
          case measure => simp [intOf]; omega
    · obtain rfl : k = n := by omega
      have hall : l.take k = l := List.take_of_length_le (by rw [hl.out]; exact Nat.le_refl _)
      rw [hall] at HOut
      have hlo : out.length ≤ k := by rw [← HOut.out, ← hl.out]; exact List.length_filter_le _ _
      obtain ⟨n3, hn3⟩ : ∃ n3, out.length = n3 := ⟨_, rfl⟩
      have HN3 := Lib.hid hn3
      have HP : Hid (putL m l (t, a, b, x3, x4) = if m < ((n3 + 1 : Nat) : Int) then (out ++ [(t, a, b, x3, x4)]).tail else out ++ [(t, a, b, x3, x4)]) := by
        show putL m l (t, a, b, x3, x4) = _
        unfold putL
        simp only [List.length_append, List.length_cons, List.length_nil]
        rw [HOut.out, hn3]
      have HK5 := Lib.hid (show Blk wr (w.heap.size + 1 + 1 + 1) 44 #[.int .i64 m, .slice (some ⟨g6, 0, none⟩) n3 c6, .int .i64 h, .int .i64 q] by have := K5.out; rw [hn3] at this; exact this)
      rw [hn3] at hoc hlo
      have e0 : wr.cell? ⟨w.heap.size + 1, 0, none⟩ = some (.string t) := K1.out.cell 0
      have e1 : wr.cell? ⟨w.heap.size + 1, 1, none⟩ = some (.int .i64 a) := K1.out.cell 1
      have e2 : wr.cell? ⟨w.heap.size + 1, 2, none⟩ = some (.int .i64 b) := K1.out.cell 2
      have e3 : wr.cell? ⟨w.heap.size + 1, 3, none⟩ = some (.string x3) := K1.out.cell 3
      have e4 : wr.cell? ⟨w.heap.size + 1, 4, none⟩ = some (.int .i64 x4) := K1.out.cell 4
      have k01 : wr.cell? ⟨w.heap.size, 1, none⟩ = some (.slice A k c) := K0.out.cell 1
      have k1 : wr.cell? ⟨w.heap.size + 1 + 1 + 1, 1, none⟩ = some (.slice (some ⟨g6, 0, none⟩) n3 c6) := HK5.out.cell 1
      have hz := HK5.out.lt
      clear K5 hn3 hall HOut hkn
      by_cases hmm : m < ((n3 + 1 : Nat) : Int)
      · have HP2 := Lib.hid (show putL m l (t, a, b, x3, x4) = (out ++ [(t, a, b, x3, x4)]).tail by have := HP.out; rwa [if_pos hmm] at this)
        have hmm2 : m < (n3 : Int) + 1 := by omega
        clear hmm HP
        go_upto_region 10 with (at_builtin; (refine wpList_append_lies _ rfl (.tmp 41) (.tmp 43) _ rfl g6 47 i0 (.agg #[.string ⟨#[]⟩, .int .i64 0, .int .i64 0, .string ⟨#[]⟩, .int .i64 0]) 5 56 Try.underlying42 HI.out.1 HI.out.2.1 HI.out.2.2.1 HI.out.2.2.2 rfl (by decide) (.slice (some ⟨g6, 0, none⟩) n3 c6) n3 (out.flatMap entryCells) rfl (own_lies (HO.out.alloc _) HN3.out (by omega) hcm) ⟨wr.heap.size, 0, none⟩ 1 1 (entryCells (t, a, b, x3, x4)) rfl rfl (World.news_of_block (Blk.new wr 47 (entryCells (t, a, b, x3, x4)).toArray)) (fun x hx => by simp [entryCells] at hx; rcases hx with rfl | rfl | rfl | rfl | rfl <;> rfl) (by decide) (by unfold maxLen; omega) (by omega) (by simp; omega) _ rfl ?_); intro g7 c7 w5 hown5 hg5 hcase5 hlt5
                                rw [show (Value.slice (some ⟨g6, 0, none⟩) n3 c6).ownBlock = some g6 from rfl] at hg5 hcase5
                                have hz5 : wr.heap.size + 1 ≤ w5.heap.size := by have := hg5.size; simp at this; omega
                                have hne7 : w.heap.size + 4 ≤ g7 := by
                                  rcases hcase5 with hq | hq
                                  · have : g6 = g7 := by injection hq
                                    omega
                                  · simp at hq; omega
                                have K55 := (HK5.out.alloc (.cells (entryCells (t, a, b, x3, x4)).toArray 47)).turned hg5 (fun q e => by injection e with e; omega)
                                have K25 := (K2.out.alloc (.cells (entryCells (t, a, b, x3, x4)).toArray 47)).turned hg5 (fun q e => by injection e with e; omega)
                                have K05 := (K0.out.alloc (.cells (entryCells (t, a, b, x3, x4)).toArray 47)).turned hg5 (fun q e => by injection e with e; omega)
                                have hb5 := below_turned (hb.alloc hb.size (.cells (entryCells (t, a, b, x3, x4)).toArray 47)) hg5 (fun q e => by injection e with e; omega)
                                have k0 : w5.cell? ⟨w.heap.size + 1 + 1 + 1, 0, none⟩ = some (.int .i64 m) := K55.cell 0
                                have k1 : w5.cell? ⟨w.heap.size + 1 + 1 + 1, 1, none⟩ = some (.slice (some ⟨g6, 0, none⟩) n3 c6) := K55.cell 1
                                have k2 : w5.cell? ⟨w.heap.size + 1 + 1 + 1, 2, none⟩ = some (.int .i64 h) := K55.cell 2
                                have k3 : w5.cell? ⟨w.heap.size + 1 + 1 + 1, 3, none⟩ = some (.int .i64 q) := K55.cell 3
                                have kf := K55.frozen
                                have kz := K55.lt
                                have m0 : w5.cell? ⟨w.heap.size, 0, none⟩ = some (.int .i64 m) := K05.cell 0
                                have z0 : w5.cell? ⟨w.heap.size + 1 + 1, 0, none⟩ = some (.int .i64 0) := K25.cell 0
                                have z1 : w5.cell? ⟨w.heap.size + 1 + 1, 1, none⟩ = some (.slice none 0 0) := K25.cell 1
                                have z2 : w5.cell? ⟨w.heap.size + 1 + 1, 2, none⟩ = some (.int .i64 0) := K25.cell 2
                                have z3 : w5.cell? ⟨w.heap.size + 1 + 1, 3, none⟩ = some (.int .i64 0) := K25.cell 3
                                have zf := K25.frozen
                                have HU := Lib.hid hown5
                                clear hown5 hg5 hcase5 e0 e1 e2 e3 e4)
        obtain ⟨g8, c8, e7, ho7, hB7, hnc7, hcm7⟩ := own_some HU.out (by intro e; cases e)
        injection e7 with e7 _ e8
        injection e7 with e7
        injection e7 with e7
        subst e7; subst e8
        have HO7 : Hid (Own w5 g7 47 (c7 * 5) ((out ++ [(t, a, b, x3, x4)]).flatMap entryCells)) := by
          show Own _ _ _ _ _
          rw [List.flatMap_append]
          simpa using ho7
        have HN7 := Lib.hid (show (out ++ [(t, a, b, x3, x4)]).length = n3 + 1 by rw [List.length_append, HN3.out]; rfl)
        clear ho7 hB7 HU HO HN3
        revert HP2 HO7 HN7
        generalize out ++ [(t, a, b, x3, x4)] = L2
        intro HP2 HO7 HN7
        obtain ⟨w6, hw6⟩ : ∃ w6, w6 = w5.setCell ⟨w.heap.size + 1 + 1 + 1, 1, none⟩ (.slice (some ⟨g7, 0, none⟩) (n3 + 1) c7) := ⟨_, rfl⟩
        have O6 : Hid (Own w6 g7 47 (c7 * 5) (L2.flatMap entryCells)) := by rw [hw6]; exact HO7.out.far (by dsimp only; omega) _
        have K56 : Hid (Blk w6 (w.heap.size + 1 + 1 + 1) 44 #[.int .i64 m, .slice (some ⟨g7, 0, none⟩) (n3 + 1) c7, .int .i64 h, .int .i64 q]) := by rw [hw6]; exact K55.set_ 1 _
        have K26 : Hid (Blk w6 (w.heap.size + 1 + 1) 44 #[.int .i64 0, .slice none 0 0, .int .i64 0, .int .i64 0]) := by rw [hw6]; exact K25.far (by dsimp only; omega) _
        have hb6 : Below w.heap.size w w6 := by rw [hw6]; exact hb5.setCell (by dsimp only; omega) _
        rw [← hw6]
        obtain ⟨A', hA, hsrc⟩ : ∃ A' : Addr, (if c7 = 1 then some (⟨g7, 0, none⟩ : Addr) else some ⟨g7, 5, none⟩) = some A' ∧ Hid (∀ (W : World), Below w6.heap.size w6 W → ∀ j u, (L2.tail.flatMap entryCells)[j]? = some u → W.cell? (A'.add j) = some u) := by
          have hlt : (L2.tail.flatMap entryCells).length = n3 * 5 := by rw [flat_len entryCells entryCells_len, List.length_tail, HN7.out]; rfl
          by_cases h1 : c7 = 1
          · refine ⟨⟨g7, 0, none⟩, by simp [h1], fun W hW j u hu => ?_⟩
            have := (List.getElem?_eq_some_iff.1 hu).1
            rw [hlt] at this
            omega
          · refine ⟨⟨g7, 5, none⟩, by simp [h1], fun W hW j u hu => ?_⟩
            obtain ⟨d, l', rfl⟩ : ∃ d l', L2 = d :: l' := by
              cases L2 with
              | nil => have := HN7.out; simp at this
              | cons d l' => exact ⟨d, l', rfl⟩
            have hr : Rd w6 5 (some ⟨g7, 0, none⟩) (n3 + 1) ((d :: l').flatMap entryCells) := O6.out.rd (by rw [flat_len entryCells entryCells_len, HN7.out])
            obtain ⟨b', off, e, hbl, hcell⟩ := hr.2 (by omega)
            injection e with e; injection e with e1 e2; subst e1; subst e2
            have := ((bcell hW).1 _ _ hbl).trans (hcell (5 + j) u (by rw [List.flatMap_cons, List.getElem?_append_right (by rw [entryCells_len]; omega), entryCells_len, show 5 + j - 5 = j by omega]; exact hu))
            rw [Addr.add_lit]
            rwa [Nat.zero_add] at this
        have hk1 : (1 : Int) ≤ (n3 : Int) + 1 := by omega
        have hk2 : 1 ≤ n3 + 1 := by omega
        have hk3 : 1 ≤ c7 := by omega
        have hmc : c7 ≤ 9223372036854775807 := by unfold maxLen at hcm7; omega
        have kz6 := K56.out.lt
        clear hw6 k0 k1 k2 k3 kf m0 z0 z1 z2 z3 zf K55 K25 K05 hb5 HO7
        have k1 : w6.cell? ⟨w.heap.size + 1 + 1 + 1, 1, none⟩ = some (.slice (some ⟨g7, 0, none⟩) (n3 + 1) c7) := K56.out.cell 1
        go_wp2_with (at_builtin; (refine wpList_append_own _ rfl (.tmp 52) (.tmp 55) _ rfl w.heap.size 47 i0 (.agg #[.string ⟨#[]⟩, .int .i64 0, .int .i64 0, .string ⟨#[]⟩, .int .i64 0]) 5 56 Try.underlying42 HI.out.1 HI.out.2.1 HI.out.2.2.1 HI.out.2.2.2 rfl (by decide) (.slice (some ⟨w6.heap.size, 0, none⟩) 0 0) 0 [] rfl (Mine.more (own_empty w6 _ 5) hb6.size) A' n3 (c7 - 1) (L2.tail.flatMap entryCells) rfl (by rw [flat_len entryCells entryCells_len, List.length_tail, HN7.out]; rfl) (hsrc.out _ ((Below.refl _ w6).alloc (Nat.le_refl _) _)) (fun x hx => entry_one hx) (by unfold maxLen; omega) (by omega) (by simp; have := hb6.size; omega) ?_)
                     intro v' w7 hown7 hg7 hnil7
                     obtain ⟨g8, c8, rfl, ho8, hB8, hnc8, hcm8⟩ := own_some hown7 (fun e => by have := (hnil7.1 e).1; cases this)
                     rw [show (Value.slice (some ⟨w6.heap.size, 0, none⟩) 0 0).ownBlock = some w6.heap.size from rfl] at hg7
                     have K57 := (K56.out.alloc (.cells #[] 47)).turned hg7 (fun q e => by injection e with e; omega)
                     have K27 := (K26.out.alloc (.cells #[] 47)).turned hg7 (fun q e => by injection e with e; omega)
                     have hb7 := below_turned (hb6.alloc hb6.size (.cells #[] 47)) hg7 (fun q e => by injection e with e; have := hb6.size; omega)
                     have hz7 : w.heap.size + 1 + 1 + 1 < w7.heap.size := K57.lt
                     have hn5 : g8 ≠ w.heap.size + 1 + 1 + 1 := own_ne ho8 K57 (by decide)
                     have hn2 : g8 ≠ w.heap.size + 1 + 1 := own_ne ho8 K27 (by decide)
                     have k0 : w7.cell? ⟨w.heap.size + 1 + 1 + 1, 0, none⟩ = some (.int .i64 m) := K57.cell 0
                     have k1 : w7.cell? ⟨w.heap.size + 1 + 1 + 1, 1, none⟩ = some (.slice (some ⟨g7, 0, none⟩) (n3 + 1) c7) := K57.cell 1
                     have k2 : w7.cell? ⟨w.heap.size + 1 + 1 + 1, 2, none⟩ = some (.int .i64 h) := K57.cell 2
                     have k3 : w7.cell? ⟨w.heap.size + 1 + 1 + 1, 3, none⟩ = some (.int .i64 q) := K57.cell 3
                     have kf := K57.frozen
                     have z0 : w7.cell? ⟨w.heap.size + 1 + 1, 0, none⟩ = some (.int .i64 0) := K27.cell 0
                     have z1 : w7.cell? ⟨w.heap.size + 1 + 1, 1, none⟩ = some (.slice none 0 0) := K27.cell 1
                     have z2 : w7.cell? ⟨w.heap.size + 1 + 1, 2, none⟩ = some (.int .i64 0) := K27.cell 2
                     have z3 : w7.cell? ⟨w.heap.size + 1 + 1, 3, none⟩ = some (.int .i64 0) := K27.cell 3
                     have zf := K27.frozen
                     have HO8 : Hid (Own w7 g8 47 (c8 * 5) (L2.tail.flatMap entryCells)) := (by show Own _ _ _ _ _; simpa using ho8)
                     clear hown7 hg7 hnil7 ho8)
        refine bodyPost_ret (by simp [results, Try.results20, go_sem, z0, z1, z2, z3]; try rfl) rfl ?_
        rw [HP2.out]
        have hle : L2.tail.length = n3 := by rw [List.length_tail, HN7.out]; rfl
        refine ⟨g8, c8, (by rw [hle]), ?_, by omega, by rw [hle]; omega, hcm8, (by repeat' (first | (with_reducible exact Below.refl _ _) | (with_reducible assumption) | (with_reducible refine below_drewN ?_ _) | (with_reducible refine Below.drew ?_) | (with_reducible refine Below.alloc ?_ ?_ _) | (with_reducible refine Below.setCell ?_ ?_ _) | go_size))⟩
        repeat (first | (with_reducible exact HO8.out) | (with_reducible refine Own.far ?_ (by dsimp only; omega) _))
      · have HP2 := Lib.hid (show putL m l (t, a, b, x3, x4) = out ++ [(t, a, b, x3, x4)] by have := HP.out; rwa [if_neg hmm] at this)
        have hmm2 : ¬ m < (n3 : Int) + 1 := by omega
        clear hmm HP
        go_wp2_with (at_builtin; (refine wpList_append_lies _ rfl (.tmp 41) (.tmp 43) _ rfl g6 47 i0 (.agg #[.string ⟨#[]⟩, .int .i64 0, .int .i64 0, .string ⟨#[]⟩, .int .i64 0]) 5 56 Try.underlying42 HI.out.1 HI.out.2.1 HI.out.2.2.1 HI.out.2.2.2 rfl (by decide) (.slice (some ⟨g6, 0, none⟩) n3 c6) n3 (out.flatMap entryCells) rfl (own_lies (HO.out.alloc _) HN3.out (by omega) hcm) ⟨wr.heap.size, 0, none⟩ 1 1 (entryCells (t, a, b, x3, x4)) rfl rfl (World.news_of_block (Blk.new wr 47 (entryCells (t, a, b, x3, x4)).toArray)) (fun x hx => by simp [entryCells] at hx; rcases hx with rfl | rfl | rfl | rfl | rfl <;> rfl) (by decide) (by unfold maxLen; omega) (by omega) (by simp; omega) _ rfl ?_); intro g7 c7 w5 hown5 hg5 hcase5 hlt5
                     rw [show (Value.slice (some ⟨g6, 0, none⟩) n3 c6).ownBlock = some g6 from rfl] at hg5 hcase5
                     have hz5 : wr.heap.size + 1 ≤ w5.heap.size := by have := hg5.size; simp at this; omega
                     have hne7 : w.heap.size + 4 ≤ g7 := by
                       rcases hcase5 with hq | hq
                       · have : g6 = g7 := by injection hq
                         omega
                       · simp at hq; omega
                     have K55 := (HK5.out.alloc (.cells (entryCells (t, a, b, x3, x4)).toArray 47)).turned hg5 (fun q e => by injection e with e; omega)
                     have K25 := (K2.out.alloc (.cells (entryCells (t, a, b, x3, x4)).toArray 47)).turned hg5 (fun q e => by injection e with e; omega)
                     have K05 := (K0.out.alloc (.cells (entryCells (t, a, b, x3, x4)).toArray 47)).turned hg5 (fun q e => by injection e with e; omega)
                     have hb5 := below_turned (hb.alloc hb.size (.cells (entryCells (t, a, b, x3, x4)).toArray 47)) hg5 (fun q e => by injection e with e; omega)
                     have k0 : w5.cell? ⟨w.heap.size + 1 + 1 + 1, 0, none⟩ = some (.int .i64 m) := K55.cell 0
                     have k1 : w5.cell? ⟨w.heap.size + 1 + 1 + 1, 1, none⟩ = some (.slice (some ⟨g6, 0, none⟩) n3 c6) := K55.cell 1
                     have k2 : w5.cell? ⟨w.heap.size + 1 + 1 + 1, 2, none⟩ = some (.int .i64 h) := K55.cell 2
                     have k3 : w5.cell? ⟨w.heap.size + 1 + 1 + 1, 3, none⟩ = some (.int .i64 q) := K55.cell 3
                     have kf := K55.frozen
                     have kz := K55.lt
                     have m0 : w5.cell? ⟨w.heap.size, 0, none⟩ = some (.int .i64 m) := K05.cell 0
                     have z0 : w5.cell? ⟨w.heap.size + 1 + 1, 0, none⟩ = some (.int .i64 0) := K25.cell 0
                     have z1 : w5.cell? ⟨w.heap.size + 1 + 1, 1, none⟩ = some (.slice none 0 0) := K25.cell 1
                     have z2 : w5.cell? ⟨w.heap.size + 1 + 1, 2, none⟩ = some (.int .i64 0) := K25.cell 2
                     have z3 : w5.cell? ⟨w.heap.size + 1 + 1, 3, none⟩ = some (.int .i64 0) := K25.cell 3
                     have zf := K25.frozen
                     have HU := Lib.hid hown5
                     clear hown5 hg5 hcase5 e0 e1 e2 e3 e4)
        obtain ⟨g8, c8, e7, ho7, hB7, hnc7, hcm7⟩ := own_some HU.out (by intro e; cases e)
        injection e7 with e7 _ e8
        injection e7 with e7
        injection e7 with e7
        subst e7; subst e8
        have HO7 : Hid (Own w5 g7 47 (c7 * 5) ((out ++ [(t, a, b, x3, x4)]).flatMap entryCells)) := by
          show Own _ _ _ _ _
          rw [List.flatMap_append]
          simpa using ho7
        have HN7 := Lib.hid (show (out ++ [(t, a, b, x3, x4)]).length = n3 + 1 by rw [List.length_append, HN3.out]; rfl)
        clear ho7 hB7 HU HO HN3
        revert HP2 HO7 HN7
        generalize out ++ [(t, a, b, x3, x4)] = L2
        intro HP2 HO7 HN7
        refine bodyPost_ret (by simp [results, Try.results20, go_sem, z0, z1, z2, z3]; try rfl) rfl ?_
        rw [HP2.out]
        refine ⟨g7, c7, (by rw [HN7.out]), ?_, by omega, by rw [HN7.out]; exact hnc7, hcm7, (by repeat' (first | (with_reducible exact Below.refl _ _) | (with_reducible assumption) | (with_reducible refine below_drewN ?_ _) | (with_reducible refine Below.drew ?_) | (with_reducible refine Below.alloc ?_ ?_ _) | (with_reducible refine Below.setCell ?_ ?_ _) | go_size))⟩
        repeat (first | (with_reducible exact HO7.out) | (with_reducible refine Own.far ?_ (by dsimp only; omega) _))
end Go.Proofs.Ytfapdhfjcnehhaa

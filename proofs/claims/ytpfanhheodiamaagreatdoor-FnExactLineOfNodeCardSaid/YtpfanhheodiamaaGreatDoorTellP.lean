
/-
  Contracts: nodes told by one sign put in place (impl.value: numbers, texts; impl.other: notes). Written by program (gen_tellp.py).
-/
import Derived.Test.YtpfanhheodiamaaGreatDoorTellL
import Derived.Deep.RegionLaw
import Derived.Deep.AppendLies
import Derived.Deep.Draws
namespace Go.Proofs.YtpfanhheodiamaaGreatDoor
open Go.RowKit
set_option linter.unusedVariables false
set_option linter.unusedSimpArgs false

theorem grown_undrew' {w w' : World} {row : Option Nat} (h : w.drew.grownBy w' row) : w.grownBy w' row := ⟨h.os, h.tape, h.output, h.size, h.block⟩
set_option maxRecDepth 100000 in
set_option maxHeartbeats 6400000 in
theorem iv_2 (T Sb : Nat) (A : Option Addr) (n c : Nat) (w0 w : World) (ps : List PN) (f : Nat) (text : ByteArray) (A' : Option Addr) (m c' : Nat) (z : Bool) (s fin : TS) (h : TL 52 T Sb A n c w0 s w) (hL : LeftE (tellF ps f) s [Ev.sg 2 text] fin) :
    Calls Tryz.prog 77 #[.pointer (some ⟨T, 0, none⟩), .agg #[.int .i64 2, .string text, .slice A' m c', .bool z]] w (Puts 52 T Sb A n c w0 w fin) := by
  have hs := run1_len (tellF_mono ps f) (show (runE (tellF ps f) s [Ev.sg 2 text]).1.length ≤ 1000000 by rw [hL.2.1]; exact hL.2.2)
  have hfin : fin = (s.1 ++ [((2 : Int), text)], s.2) := hL.2.1.symm
  subst hfin
  have gT : w.heap.size ≠ T := by have := h.blkT; omega
  have gS : w.heap.size ≠ Sb := by have := h.blkS; omega
  obtain ⟨AS, cS, hb, hm, ho, hl, hTS, hT, hS, hne, hbw⟩ := h.alloc (.cells #[.int .i64 2, .string text, .slice A' m c', .bool z] 48)
  have K := Blk.new w 48 #[.int .i64 2, .string text, .slice A' m c', .bool z]
  have P : Kp T Sb w (w.alloc (.cells #[.int .i64 2, .string text, .slice A' m c', .bool z] 48)) := (Kp.refl T Sb w).alloc _
  obtain ⟨i0, hi, hz0, hz1, hz2⟩ := info_parts infoSign
  have HI := Lib.hid (And.intro hi (And.intro hz0 (And.intro hz1 hz2)))
  have HM := Lib.hid hm
  have HP := Lib.hid (fun (o : Obj) (v' : Value) (w3 : World) => TL.push (ty := 52) (s := s) (o := o) (v' := v') (w3 := w3) (by decide) hb hm ho hl hTS hT hS hbw (2, text))
  have HB := Lib.hid (fun (o : Obj) (w3 : World) => tl_blk (o := o) (w3 := w3) hb (by decide) hm)
  have k1 : (w.alloc (.cells #[.int .i64 2, .string text, .slice A' m c', .bool z] 48)).cell? ⟨T, 1, none⟩ = some (.slice AS s.1.length cS) := hb.cell 1
  have a1 : ∀ o, ((w.alloc (.cells #[.int .i64 2, .string text, .slice A' m c', .bool z] 48)).alloc o).cell? ⟨T, 1, none⟩ = some (.slice AS s.1.length cS) := fun o => (hb.alloc o).cell 1
  have kx : (w.alloc (.cells #[.int .i64 2, .string text, .slice A' m c', .bool z] 48)).cell? ⟨w.heap.size, 1, none⟩ = some (.string text) := K.cell 1
  have ax : ∀ o, ((w.alloc (.cells #[.int .i64 2, .string text, .slice A' m c', .bool z] 48)).alloc o).cell? ⟨w.heap.size, 1, none⟩ = some (.string text) := fun o => (K.alloc o).cell 1
  have kf := hb.frozen
  have kz := hb.lt
  have hnb : ((w.alloc (.cells #[.int .i64 2, .string text, .slice A' m c', .bool z] 48)).alloc (.cells #[.int .i64 2, .string text, .int .i64 0, .bool false] 73)).heap[w.heap.size + 1]? = some (.cells #[.int .i64 2, .string text, .int .i64 0, .bool false] 73 (0, 0)) := by
    have := heap_alloc_new (w.alloc (.cells #[.int .i64 2, .string text, .slice A' m c', .bool z] 48)) (.cells #[.int .i64 2, .string text, .int .i64 0, .bool false] 73)
    rwa [World.size_alloc] at this
  have hszw := hbw.size
  clear hi hz0 hz1 hz2 hm ho hne hL
  unfold Puts
  go_enter Tryz.func77, Tryz.ntmps77
  go_upto_region 6 with fail
  go_region_law
    (refine step_append_lies _ rfl (.tmp 23) (.tmp 27) 44 rfl w0.heap.size 73 i0 (.agg #[.int .i64 0, .string ⟨#[]⟩, .int .i64 0, .bool false]) 4 40 Tryz.underlying44 HI.out.1 HI.out.2.1 HI.out.2.2.1 HI.out.2.2.2 rfl (by decide) (.slice AS s.1.length cS) s.1.length (s.1.flatMap signCells) (by first | (simp [Act.eval]; done) | (simp [Act.eval, Act.put]; done) | rfl) (by first | exact (HM.out.alloc _).drew | exact HM.out.alloc _) ⟨w.heap.size + 1, 0, none⟩ 1 1 (signCells (2, text)) (by first | (simp [Act.eval]; done) | (simp [Act.eval, Act.put]; done) | rfl) (by rfl) (World.news_of_block (cs := #[.int .i64 2, .string text, .int .i64 0, .bool false]) (t := 73) (fr := (0, 0)) hnb) (sign_one _) (by decide) (by unfold maxLen; omega) (by omega) (by simp at hszw ⊢; omega) (w.heap.size + 1 + 1) (by simp) ?_
     intro q cap w6 hown6 hgrow hat hlt6
     have hgrow2 : ((w.alloc (.cells #[.int .i64 2, .string text, .slice A' m c', .bool z] 48)).alloc (.cells #[.int .i64 2, .string text, .int .i64 0, .bool false] 73)).grownBy w6 (Value.slice AS s.1.length cS).ownBlock := (by first | exact hgrow | exact grown_undrew' hgrow)
     have hb6 := HB.out _ _ hgrow2
     have fz : w6.cell? ⟨T, 1, none⟩ = some (.slice AS s.1.length cS) := hb6.cell 1
     have fzf := hb6.frozen
     have fzl := hb6.lt
     have hfin := Lib.hid (HP.out _ _ _ hown6 hgrow2)
     clear hown6 hgrow hat hgrow2 hb6)
  all_goals
    go_wp2
    go_end0
    exact ⟨rfl, hfin.out.1, P.trans hfin.out.2⟩
set_option maxRecDepth 100000 in
set_option maxHeartbeats 6400000 in
theorem iv_3 (T Sb : Nat) (A : Option Addr) (n c : Nat) (w0 w : World) (ps : List PN) (f : Nat) (text : ByteArray) (A' : Option Addr) (m c' : Nat) (z : Bool) (s fin : TS) (h : TL 52 T Sb A n c w0 s w) (hL : LeftE (tellF ps f) s [Ev.sg 3 text] fin) :
    Calls Tryz.prog 77 #[.pointer (some ⟨T, 0, none⟩), .agg #[.int .i64 3, .string text, .slice A' m c', .bool z]] w (Puts 52 T Sb A n c w0 w fin) := by
  have hs := run1_len (tellF_mono ps f) (show (runE (tellF ps f) s [Ev.sg 3 text]).1.length ≤ 1000000 by rw [hL.2.1]; exact hL.2.2)
  have hfin : fin = (s.1 ++ [((3 : Int), text)], s.2) := hL.2.1.symm
  subst hfin
  have gT : w.heap.size ≠ T := by have := h.blkT; omega
  have gS : w.heap.size ≠ Sb := by have := h.blkS; omega
  obtain ⟨AS, cS, hb, hm, ho, hl, hTS, hT, hS, hne, hbw⟩ := h.alloc (.cells #[.int .i64 3, .string text, .slice A' m c', .bool z] 48)
  have K := Blk.new w 48 #[.int .i64 3, .string text, .slice A' m c', .bool z]
  have P : Kp T Sb w (w.alloc (.cells #[.int .i64 3, .string text, .slice A' m c', .bool z] 48)) := (Kp.refl T Sb w).alloc _
  obtain ⟨i0, hi, hz0, hz1, hz2⟩ := info_parts infoSign
  have HI := Lib.hid (And.intro hi (And.intro hz0 (And.intro hz1 hz2)))
  have HM := Lib.hid hm
  have HP := Lib.hid (fun (o : Obj) (v' : Value) (w3 : World) => TL.push (ty := 52) (s := s) (o := o) (v' := v') (w3 := w3) (by decide) hb hm ho hl hTS hT hS hbw (3, text))
  have HB := Lib.hid (fun (o : Obj) (w3 : World) => tl_blk (o := o) (w3 := w3) hb (by decide) hm)
  have k1 : (w.alloc (.cells #[.int .i64 3, .string text, .slice A' m c', .bool z] 48)).cell? ⟨T, 1, none⟩ = some (.slice AS s.1.length cS) := hb.cell 1
  have a1 : ∀ o, ((w.alloc (.cells #[.int .i64 3, .string text, .slice A' m c', .bool z] 48)).alloc o).cell? ⟨T, 1, none⟩ = some (.slice AS s.1.length cS) := fun o => (hb.alloc o).cell 1
  have kx : (w.alloc (.cells #[.int .i64 3, .string text, .slice A' m c', .bool z] 48)).cell? ⟨w.heap.size, 1, none⟩ = some (.string text) := K.cell 1
  have ax : ∀ o, ((w.alloc (.cells #[.int .i64 3, .string text, .slice A' m c', .bool z] 48)).alloc o).cell? ⟨w.heap.size, 1, none⟩ = some (.string text) := fun o => (K.alloc o).cell 1
  have kf := hb.frozen
  have kz := hb.lt
  have hnb : ((w.alloc (.cells #[.int .i64 3, .string text, .slice A' m c', .bool z] 48)).alloc (.cells #[.int .i64 3, .string text, .int .i64 0, .bool false] 73)).heap[w.heap.size + 1]? = some (.cells #[.int .i64 3, .string text, .int .i64 0, .bool false] 73 (0, 0)) := by
    have := heap_alloc_new (w.alloc (.cells #[.int .i64 3, .string text, .slice A' m c', .bool z] 48)) (.cells #[.int .i64 3, .string text, .int .i64 0, .bool false] 73)
    rwa [World.size_alloc] at this
  have hszw := hbw.size
  clear hi hz0 hz1 hz2 hm ho hne hL
  unfold Puts
  go_enter Tryz.func77, Tryz.ntmps77
  go_upto_region 8 with fail
  go_region_law
    (refine step_append_lies _ rfl (.tmp 37) (.tmp 41) 44 rfl w0.heap.size 73 i0 (.agg #[.int .i64 0, .string ⟨#[]⟩, .int .i64 0, .bool false]) 4 40 Tryz.underlying44 HI.out.1 HI.out.2.1 HI.out.2.2.1 HI.out.2.2.2 rfl (by decide) (.slice AS s.1.length cS) s.1.length (s.1.flatMap signCells) (by first | (simp [Act.eval]; done) | (simp [Act.eval, Act.put]; done) | rfl) (by first | exact (HM.out.alloc _).drew | exact HM.out.alloc _) ⟨w.heap.size + 1, 0, none⟩ 1 1 (signCells (3, text)) (by first | (simp [Act.eval]; done) | (simp [Act.eval, Act.put]; done) | rfl) (by rfl) (World.news_of_block (cs := #[.int .i64 3, .string text, .int .i64 0, .bool false]) (t := 73) (fr := (0, 0)) hnb) (sign_one _) (by decide) (by unfold maxLen; omega) (by omega) (by simp at hszw ⊢; omega) (w.heap.size + 1 + 1) (by simp) ?_
     intro q cap w6 hown6 hgrow hat hlt6
     have hgrow2 : ((w.alloc (.cells #[.int .i64 3, .string text, .slice A' m c', .bool z] 48)).alloc (.cells #[.int .i64 3, .string text, .int .i64 0, .bool false] 73)).grownBy w6 (Value.slice AS s.1.length cS).ownBlock := (by first | exact hgrow | exact grown_undrew' hgrow)
     have hb6 := HB.out _ _ hgrow2
     have fz : w6.cell? ⟨T, 1, none⟩ = some (.slice AS s.1.length cS) := hb6.cell 1
     have fzf := hb6.frozen
     have fzl := hb6.lt
     have hfin := Lib.hid (HP.out _ _ _ hown6 hgrow2)
     clear hown6 hgrow hat hgrow2 hb6)
  all_goals
    go_wp2
    go_end0
    exact ⟨rfl, hfin.out.1, P.trans hfin.out.2⟩
set_option maxRecDepth 100000 in
set_option maxHeartbeats 6400000 in
theorem io_19 (T Sb : Nat) (A : Option Addr) (n c : Nat) (w0 w : World) (ps : List PN) (f : Nat) (text : ByteArray) (A' : Option Addr) (m c' : Nat) (z : Bool) (s fin : TS) (h : TL 52 T Sb A n c w0 s w) (hL : LeftE (tellF ps f) s [Ev.sg 5 text] fin) :
    Calls Tryz.prog 78 #[.pointer (some ⟨T, 0, none⟩), .agg #[.int .i64 19, .string text, .slice A' m c', .bool z]] w (Puts 52 T Sb A n c w0 w fin) := by
  have hs := run1_len (tellF_mono ps f) (show (runE (tellF ps f) s [Ev.sg 5 text]).1.length ≤ 1000000 by rw [hL.2.1]; exact hL.2.2)
  have hfin : fin = (s.1 ++ [((5 : Int), text)], s.2) := hL.2.1.symm
  subst hfin
  have gT : w.heap.size ≠ T := by have := h.blkT; omega
  have gS : w.heap.size ≠ Sb := by have := h.blkS; omega
  obtain ⟨AS, cS, hb, hm, ho, hl, hTS, hT, hS, hne, hbw⟩ := h.alloc (.cells #[.int .i64 19, .string text, .slice A' m c', .bool z] 48)
  have K := Blk.new w 48 #[.int .i64 19, .string text, .slice A' m c', .bool z]
  have P : Kp T Sb w (w.alloc (.cells #[.int .i64 19, .string text, .slice A' m c', .bool z] 48)) := (Kp.refl T Sb w).alloc _
  obtain ⟨i0, hi, hz0, hz1, hz2⟩ := info_parts infoSign
  have HI := Lib.hid (And.intro hi (And.intro hz0 (And.intro hz1 hz2)))
  have HM := Lib.hid hm
  have HP := Lib.hid (fun (o : Obj) (v' : Value) (w3 : World) => TL.push (ty := 52) (s := s) (o := o) (v' := v') (w3 := w3) (by decide) hb hm ho hl hTS hT hS hbw (5, text))
  have HB := Lib.hid (fun (o : Obj) (w3 : World) => tl_blk (o := o) (w3 := w3) hb (by decide) hm)
  have k1 : (w.alloc (.cells #[.int .i64 19, .string text, .slice A' m c', .bool z] 48)).cell? ⟨T, 1, none⟩ = some (.slice AS s.1.length cS) := hb.cell 1
  have a1 : ∀ o, ((w.alloc (.cells #[.int .i64 19, .string text, .slice A' m c', .bool z] 48)).alloc o).cell? ⟨T, 1, none⟩ = some (.slice AS s.1.length cS) := fun o => (hb.alloc o).cell 1
  have kx : (w.alloc (.cells #[.int .i64 19, .string text, .slice A' m c', .bool z] 48)).cell? ⟨w.heap.size, 1, none⟩ = some (.string text) := K.cell 1
  have ax : ∀ o, ((w.alloc (.cells #[.int .i64 19, .string text, .slice A' m c', .bool z] 48)).alloc o).cell? ⟨w.heap.size, 1, none⟩ = some (.string text) := fun o => (K.alloc o).cell 1
  have kf := hb.frozen
  have kz := hb.lt
  have hnb : ((w.alloc (.cells #[.int .i64 19, .string text, .slice A' m c', .bool z] 48)).alloc (.cells #[.int .i64 5, .string text, .int .i64 0, .bool false] 73)).heap[w.heap.size + 1]? = some (.cells #[.int .i64 5, .string text, .int .i64 0, .bool false] 73 (0, 0)) := by
    have := heap_alloc_new (w.alloc (.cells #[.int .i64 19, .string text, .slice A' m c', .bool z] 48)) (.cells #[.int .i64 5, .string text, .int .i64 0, .bool false] 73)
    rwa [World.size_alloc] at this
  have hszw := hbw.size
  clear hi hz0 hz1 hz2 hm ho hne hL
  unfold Puts
  go_enter Tryz.func78, Tryz.ntmps78
  go_upto_region 35 with fail
  go_region_law
    (refine step_append_lies _ rfl (.tmp 110) (.tmp 114) 44 rfl w0.heap.size 73 i0 (.agg #[.int .i64 0, .string ⟨#[]⟩, .int .i64 0, .bool false]) 4 40 Tryz.underlying44 HI.out.1 HI.out.2.1 HI.out.2.2.1 HI.out.2.2.2 rfl (by decide) (.slice AS s.1.length cS) s.1.length (s.1.flatMap signCells) (by first | (simp [Act.eval]; done) | (simp [Act.eval, Act.put]; done) | rfl) (by first | exact (HM.out.alloc _).drew | exact HM.out.alloc _) ⟨w.heap.size + 1, 0, none⟩ 1 1 (signCells (5, text)) (by first | (simp [Act.eval]; done) | (simp [Act.eval, Act.put]; done) | rfl) (by rfl) (World.news_of_block (cs := #[.int .i64 5, .string text, .int .i64 0, .bool false]) (t := 73) (fr := (0, 0)) hnb) (sign_one _) (by decide) (by unfold maxLen; omega) (by omega) (by simp at hszw ⊢; omega) (w.heap.size + 1 + 1) (by simp) ?_
     intro q cap w6 hown6 hgrow hat hlt6
     have hgrow2 : ((w.alloc (.cells #[.int .i64 19, .string text, .slice A' m c', .bool z] 48)).alloc (.cells #[.int .i64 5, .string text, .int .i64 0, .bool false] 73)).grownBy w6 (Value.slice AS s.1.length cS).ownBlock := (by first | exact hgrow | exact grown_undrew' hgrow)
     have hb6 := HB.out _ _ hgrow2
     have fz : w6.cell? ⟨T, 1, none⟩ = some (.slice AS s.1.length cS) := hb6.cell 1
     have fzf := hb6.frozen
     have fzl := hb6.lt
     have hfin := Lib.hid (HP.out _ _ _ hown6 hgrow2)
     clear hown6 hgrow hat hgrow2 hb6)
  all_goals
    go_wp2
    go_end0
    exact ⟨rfl, hfin.out.1, P.trans hfin.out.2⟩
end Go.Proofs.YtpfanhheodiamaaGreatDoor

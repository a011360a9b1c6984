
/-
  Contracts: a teller's word and mark, of both. Written by program (gen_tellb.py).
-/
import Derived.Test.YtpfanhheodiamaaGreatDoorTellA
namespace Go.Proofs.YtpfanhheodiamaaGreatDoor
open Go.RowKit
set_option linter.unusedVariables false
set_option linter.unusedSimpArgs false

def putS (s : TS) (d : SgD) : TS := (s.1 ++ [d], s.2)
set_option maxHeartbeats 800000 in
theorem specWord_any (T Sb : Nat) (A : Option Addr) (n c : Nat) (w0 w : World) (s : TS) (t : ByteArray) (h : TL 46 T Sb A n c w0 s w) (hs : s.1.length ≤ 1000000) :
    Calls Tryz.prog 45 #[.pointer (some ⟨T, 0, none⟩), .string t] w (Puts 46 T Sb A n c w0 w (putS s (1, t))) := by
  have H := Lib.hid (specPut_any T Sb A n c w0 w s 1 t h hs)
  unfold Puts putS
  clear h
  go_enter Tryz.func45, Tryz.ntmps45
  go_wp2_with fail
  refine (H.out).mono ?_
  rintro e w2 ⟨rfl, h1, h2⟩
  go_wp2
  go_end0
  exact ⟨rfl, h1, h2⟩
set_option maxHeartbeats 800000 in
theorem specMark_any (T Sb : Nat) (A : Option Addr) (n c : Nat) (w0 w : World) (s : TS) (t : ByteArray) (h : TL 46 T Sb A n c w0 s w) (hs : s.1.length ≤ 1000000) :
    Calls Tryz.prog 46 #[.pointer (some ⟨T, 0, none⟩), .string t] w (Puts 46 T Sb A n c w0 w (putS s (4, t))) := by
  have H := Lib.hid (specPut_any T Sb A n c w0 w s 4 t h hs)
  unfold Puts putS
  clear h
  go_enter Tryz.func46, Tryz.ntmps46
  go_wp2_with fail
  refine (H.out).mono ?_
  rintro e w2 ⟨rfl, h1, h2⟩
  go_wp2
  go_end0
  exact ⟨rfl, h1, h2⟩
set_option maxRecDepth 100000 in
set_option maxHeartbeats 1600000 in
theorem implWord_any (T Sb : Nat) (A : Option Addr) (n c : Nat) (w0 w : World) (SS : TS) (t : ByteArray) (h : TL 52 T Sb A n c w0 SS w) (hs : SS.1.length ≤ 1000000) :
    Calls Tryz.prog 111 #[.pointer (some ⟨T, 0, none⟩), .string t] w (Puts 52 T Sb A n c w0 w (putS SS (1, t))) := by
  obtain ⟨AS, cS, hb, hm, ho, hl, hTS, hT, hS, hne, hbw⟩ := h
  obtain ⟨i0, hi, hz0, hz1, hz2⟩ := info_parts infoSign
  have HI := Lib.hid (And.intro hi (And.intro hz0 (And.intro hz1 hz2)))
  have HM := Lib.hid hm
  have HP := Lib.hid (fun (o : Obj) (v' : Value) (w3 : World) => TL.push (ty := 52) (s := SS) (o := o) (v' := v') (w3 := w3) (by decide) hb hm ho hl hTS hT hS hbw (1, t))
  have HB := Lib.hid (fun (o : Obj) (w3 : World) => tl_blk (o := o) (w3 := w3) hb (by decide) hm)
  have k1 := hb.cell 1
  simp only [List.getElem?_toArray, List.getElem?_cons_zero, List.getElem?_cons_succ] at k1
  have kf := hb.frozen
  have kz := hb.lt
  clear hi hz0 hz1 hz2 hm ho hne
  unfold Puts putS
  go_enter Tryz.func111, Tryz.ntmps111
  go_wp2_with (at_builtin; (refine wpList_append_own _ rfl (.tmp 8) (.tmp 11) _ rfl w0.heap.size 73 i0 (.agg #[.int .i64 0, .string ⟨#[]⟩, .int .i64 0, .bool false]) 4 40 Tryz.underlying44 HI.out.1 HI.out.2.1 HI.out.2.2.1 HI.out.2.2.2 rfl (by decide) _ _ _ rfl (Mine.alloc HM.out _) ⟨w.heap.size, 0, none⟩ 1 1 (signCells (1, t)) rfl rfl (cell4_new _ (1, t) _) (sign_one _) (by unfold maxLen; omega) (by omega) (by have := hbw.size; simp; omega) ?_); intro v' w3 hown3 hg3 hnil3; (obtain ⟨A3, c3, rfl, m3⟩ := Mine.of hown3); (have hb3 := HB.out _ _ hg3); (have k31 := hb3.cell 1); (have f3 := hb3.frozen); (have z3 := hb3.lt); simp only [List.getElem?_toArray, List.getElem?_cons_zero, List.getElem?_cons_succ] at k31)
  have hfin := HP.out _ _ _ hown3 hg3
  go_wp2
  go_end0
  exact ⟨rfl, hfin⟩
def marksS (s : TS) (ts : List ByteArray) : TS := (s.1 ++ ts.map (fun t => ((4 : Int), t)), s.2)
theorem marksS_step {s : TS} {ts : List ByteArray} {k : Nat} {t : ByteArray} (h : ts[k]? = some t) : marksS s (ts.take (k + 1)) = putS (marksS s (ts.take k)) (4, t) := by
  unfold marksS putS; rw [List.take_add_one, h]; simp
set_option maxRecDepth 100000 in
set_option maxHeartbeats 1600000 in
theorem implMark_many (T Sb : Nat) (A : Option Addr) (n c : Nat) (w0 w : World) (s : TS) (ts : List ByteArray) (g : Nat) (h : TL 52 T Sb A n c w0 s w) (hs : s.1.length + ts.length ≤ 1000000) (hg : Blk w g 9 (ts.map Value.string).toArray) (hgT : g ≠ T) (hgS : g ≠ Sb) :
    Calls Tryz.prog 112 #[.pointer (some ⟨T, 0, none⟩), .slice (some ⟨g, 0, none⟩) ts.length ts.length] w (Puts 52 T Sb A n c w0 w (marksS s ts)) := by
  unfold Puts
  have HTL := Lib.hid h
  have HG := Lib.hid hg
  clear h hg
  go_enter Tryz.func112, Tryz.ntmps112
  go_wp2
  go_loopw [8] (fun i wr => ∃ k : Nat, k ≤ ts.length ∧ i = .int .i64 k ∧ TL 52 T Sb A n c w0 (marksS s (ts.take k)) wr ∧ Kp T Sb w wr) (fun i _ => ts.length - (intOf i).toNat)
  case atStart => exact ⟨0, Nat.zero_le _, rfl, by simpa [marksS] using HTL.out, Kp.refl _ _ _⟩
  case round =>
    obtain ⟨k, hk, rfl, htl, hkp⟩ := hrel
    by_cases hlt : k < ts.length
    · obtain ⟨t, hd⟩ : ∃ d, ts[k]? = some d := ⟨_, List.getElem?_eq_getElem hlt⟩
      have hG := HG.out.kp hkp hgT hgS (by decide)
      have gk : wr.cell? ⟨g, k, none⟩ = some (.string t) := by rw [hG.cell]; simp [hd]
      have gz := hG.lt
      have gk2 : (k : Int) < ts.length := by omega
      have hst := Lib.hid (marksS_step (s := s) hd)
      have hlen : (marksS s (ts.take k)).1.length ≤ 1000000 := by unfold marksS; simp; omega
      generalize marksS s (ts.take k) = SS at htl hst hlen
      have hKP := Lib.hid hkp
      obtain ⟨AS, cS, hb, hm, ho, hl, hTS, hT, hS, hne, hbw⟩ := htl
      obtain ⟨i0, hi, hz0, hz1, hz2⟩ := info_parts infoSign
      have HI := Lib.hid (And.intro hi (And.intro hz0 (And.intro hz1 hz2)))
      have HM := Lib.hid hm
      have HP := Lib.hid (fun (o : Obj) (v' : Value) (w3 : World) => TL.push (ty := 52) (s := SS) (o := o) (v' := v') (w3 := w3) (by decide) hb hm ho hl hTS hT hS hbw (4, t))
      have HB := Lib.hid (fun (o : Obj) (w3 : World) => tl_blk (o := o) (w3 := w3) hb (by decide) hm)
      have k1 := hb.cell 1
      simp only [List.getElem?_toArray, List.getElem?_cons_zero, List.getElem?_cons_succ] at k1
      have kf := hb.frozen
      have kz := hb.lt
      clear hi hz0 hz1 hz2 hm ho hne
      clear hkp hd hG
      go_wp2_with (at_builtin; (refine wpList_append_own _ rfl (.tmp 16) (.tmp 19) _ rfl w0.heap.size 73 i0 (.agg #[.int .i64 0, .string ⟨#[]⟩, .int .i64 0, .bool false]) 4 40 Tryz.underlying44 HI.out.1 HI.out.2.1 HI.out.2.2.1 HI.out.2.2.2 rfl (by decide) _ _ _ rfl (Mine.alloc HM.out _) ⟨wr.heap.size, 0, none⟩ 1 1 (signCells (4, t)) rfl rfl (cell4_new _ (4, t) _) (sign_one _) (by unfold maxLen; omega) (by omega) (by have := hbw.size; simp; omega) ?_); intro v' w3 hown3 hg3 hnil3; (obtain ⟨A3, c3, rfl, m3⟩ := Mine.of hown3); (have hb3 := HB.out _ _ hg3); (have k31 := hb3.cell 1); (have f3 := hb3.frozen); (have z3 := hb3.lt); simp only [List.getElem?_toArray, List.getElem?_cons_zero, List.getElem?_cons_succ] at k31)
      have hfin := HP.out _ _ _ hown3 hg3
      go_wp2
      go_roundw
      case rel => exact ⟨k + 1, by omega, by go_num, by rw [hst.out]; exact hfin.1, hKP.out.trans hfin.2⟩
      case measure => simp [intOf]; omega
    · obtain rfl : k = ts.length := by omega
      rw [List.take_length] at htl
      go_wp2
      go_end0
      exact ⟨rfl, htl, hkp⟩
end Go.Proofs.YtpfanhheodiamaaGreatDoor

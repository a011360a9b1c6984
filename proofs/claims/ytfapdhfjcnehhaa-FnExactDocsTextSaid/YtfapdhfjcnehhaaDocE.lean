
/-
  Contracts: the names of files that are not among others, the reference's way.
-/
import Derived.Test.YtfapdhfjcnehhaaDocD
import Derived.Deep.DeepCutAuto
import Derived.Deep.CutBlock
namespace Go.Proofs.Ytfapdhfjcnehhaa
open Go.RowKit
set_option linter.unusedVariables false

def anyTo (b : List DocD) (d : DocD) (k : Nat) : Bool := (b.take k).any (sameD d)
theorem anyTo_zero (b : List DocD) (d : DocD) : anyTo b d 0 = false := by simp [anyTo]
theorem anyTo_step {b : List DocD} {d e : DocD} {k : Nat} (h : b[k]? = some e) : anyTo b d (k + 1) = (anyTo b d k || sameD d e) := by
  unfold anyTo
  rw [List.take_add_one, h]
  simp
theorem firstIx_any {α : Type} (p : α → Bool) (l : List α) : ∀ i : Int, 0 ≤ i → decide (0 ≤ firstIx p l i) = l.any p := by
  induction l with
  | nil => intro i hi; simp [firstIx]
  | cons x l ih =>
    intro i hi
    rw [firstIx, List.any_cons]
    by_cases h : p x = true
    · rw [if_pos h, h]; simp [hi]
    · rw [if_neg h, ih (i + 1) (by omega)]
      simp [h]
theorem anyTo_all {b : List DocD} {d : DocD} {k : Nat} (h : b.length ≤ k) : anyTo b d k = memD b d := by
  unfold anyTo memD
  rw [List.take_of_length_le h, firstIx_any _ _ _ (by omega)]

theorem drewN_own {w : World} {B : Nat} {e : TypeId} {v : Value} {n : Nat} {xs : List Value} (h : Hid (w.ownsRow B e 1 v n xs)) (q : Nat) : Hid ((w.drewN q).ownsRow B e 1 v n xs) := h
set_option maxRecDepth 100000 in
set_option maxHeartbeats 1600000 in
theorem specChangedDocs_any (A B : Option Addr) (n c n' c' : Nat) (a b : List DocD) (w : World) (hn : n ≤ 1048576) (hn' : n' ≤ 1048576) (hl : Hid (a.length = n)) (hl' : Hid (b.length = n')) (ha : Rd w 2 A n (a.flatMap docCells)) (hb : Rd w 2 B n' (b.flatMap docCells)) :
    Calls Try.prog 8 #[.slice A n c, .slice B n' c'] w (StrsP w (chgTo a b n)) := by
  obtain ⟨i0, hi, hz0, hz1, hz2⟩ := info_parts infoStr
  have HI := Lib.hid (And.intro hi (And.intro hz0 (And.intro hz1 hz2)))
  have HA := Lib.hid ha
  have HB := Lib.hid hb
  clear hi hz0 hz1 hz2 ha hb
  go_enter Try.func8, Try.ntmps8
  go_wp2
  go_loopw [5, 6] (fun o i wr => ∃ k : Nat, k ≤ n ∧ i = .int .i64 k ∧ Hid (wr.ownsRow w.heap.size 9 1 o (chgTo a b k).length (strCells (chgTo a b k))) ∧ Below w.heap.size w wr) (fun _ i _ => n - (intOf i).toNat)
  case atStart =>
    refine ⟨0, Nat.zero_le _, rfl, ⟨by simp [chgTo_zero, strCells], .inr ⟨w.heap.size, 0, #[], ?_, Nat.le_refl _, heap_alloc_new w _, by simp [chgTo_zero], by simp [maxLen], by simp, by simp [chgTo_zero, strCells]⟩⟩, (by repeat' (first | (with_reducible exact Below.refl _ _) | (with_reducible assumption) | (with_reducible refine below_drewN ?_ _) | (with_reducible refine Below.drew ?_) | (with_reducible refine Below.alloc ?_ ?_ _) | (with_reducible refine Below.setCell ?_ ?_ _) | go_size))⟩
    simp [chgTo_zero]
  case round =>
    obtain ⟨k, hk, rfl, HO, hbw⟩ := hrel
    by_cases hkn : k < n
    · obtain ⟨⟨x0, x1⟩, hd⟩ : ∃ d, a[k]? = some d := ⟨_, List.getElem?_eq_getElem (by have := hl.out; omega)⟩
      obtain ⟨b', off, rfl, hblt, c0, c1⟩ := doc_at (HA.out.below hbw) hkn hd
      have HD := Lib.hid hd
      have hbk := Lib.hid hblt
      clear hd hblt
      go_upto_block 2 with fail
      go_cut [7] (fun s wx => s = .bool (memD b (x0, x1)) ∧ Hid (wx.ownsRow w.heap.size 9 1 u5 (chgTo a b k).length (strCells (chgTo a b k))) ∧ Below wr.heap.size wr wx)
      case first =>
        go_wp2_with fail
        obtain ⟨wo, rfl⟩ : ∃ wo : World, wo = wr := ⟨_, rfl⟩
        go_loopw [7, 8] (fun s i wr => ∃ j : Nat, j ≤ n' ∧ i = .int .i64 j ∧ s = .bool (anyTo b (x0, x1) j) ∧ Hid (wr.ownsRow w.heap.size 9 1 u5 (chgTo a b k).length (strCells (chgTo a b k))) ∧ Below wo.heap.size wo wr) (fun _ i _ => n' - (intOf i).toNat)
        case atStart => exact ⟨0, Nat.zero_le _, rfl, by rw [anyTo_zero], HO, Below.refl _ _⟩
        case round =>
          obtain ⟨j, hj, rfl, rfl, HO2, hb2⟩ := hrel
          by_cases hjn : j < n'
          · obtain ⟨⟨z0, z1⟩, hd2⟩ : ∃ d, b[j]? = some d := ⟨_, List.getElem?_eq_getElem (by have := hl'.out; omega)⟩
            replace hd2 := Lib.hid hd2
            obtain ⟨b2, off2, rfl, hblt2, p0, p1⟩ := doc_at ((HB.out.below hbw).below hb2) hjn hd2.out
            have q0 := ((bcell hb2).1 _ _ hbk.out).trans c0
            have q1 := ((bcell hb2).1 _ _ hbk.out).trans c1
            clear hblt2
            by_cases e0 : x0 = z0
            · subst e0
              by_cases e1 : x1 = z1
              · subst e1
                have hst := Lib.hid (anyTo_step (d := (x0, x1)) hd2.out)
                have hsm := Lib.hid (show sameD (x0, x1) (x0, x1) = true by simp [sameD])
                cases hfl : anyTo b (x0, x1) j with
                | true =>
                  have HF := Lib.hid hfl
                  clear hfl
                  go_wp2
                  go_quiet (fail)
                  go_wp2
                  go_roundw
                  case rel => exact ⟨j + 1, by omega, by go_num, by rw [hst.out, HF.out]; rfl, drewN_own HO2 _, (by repeat' (first | (with_reducible exact Below.refl _ _) | (with_reducible assumption) | (with_reducible refine below_drewN ?_ _) | (with_reducible refine Below.drew ?_) | (with_reducible refine Below.alloc ?_ ?_ _) | (with_reducible refine Below.setCell ?_ ?_ _) | go_size))⟩
                  case measure => simp [intOf]; omega
                | false =>
                  have HF := Lib.hid hfl
                  clear hfl
                  go_wp2
                  go_quiet (fail)
                  go_wp2
                  go_roundw
                  case rel => exact ⟨j + 1, by omega, by go_num, by rw [hst.out, HF.out, hsm.out]; rfl, drewN_own HO2 _, (by repeat' (first | (with_reducible exact Below.refl _ _) | (with_reducible assumption) | (with_reducible refine below_drewN ?_ _) | (with_reducible refine Below.drew ?_) | (with_reducible refine Below.alloc ?_ ?_ _) | (with_reducible refine Below.setCell ?_ ?_ _) | go_size))⟩
                  case measure => simp [intOf]; omega
              · have hst := Lib.hid (anyTo_step (d := (x0, x1)) hd2.out)
                have hsm := Lib.hid (show sameD (x0, x1) (x0, z1) = false by simp [sameD, e1])
                have e1' := toList_ne e1
                clear e1
                cases hfl : anyTo b (x0, x1) j with
                | true =>
                  have HF := Lib.hid hfl
                  clear hfl
                  go_wp2
                  go_quiet (fail)
                  go_wp2
                  go_roundw
                  case rel => exact ⟨j + 1, by omega, by go_num, by rw [hst.out, HF.out]; rfl, drewN_own HO2 _, (by repeat' (first | (with_reducible exact Below.refl _ _) | (with_reducible assumption) | (with_reducible refine below_drewN ?_ _) | (with_reducible refine Below.drew ?_) | (with_reducible refine Below.alloc ?_ ?_ _) | (with_reducible refine Below.setCell ?_ ?_ _) | go_size))⟩
                  case measure => simp [intOf]; omega
                | false =>
                  have HF := Lib.hid hfl
                  clear hfl
                  go_wp2
                  go_quiet (fail)
                  go_wp2
                  go_roundw
                  case rel => exact ⟨j + 1, by omega, by go_num, by rw [hst.out, HF.out, hsm.out]; rfl, drewN_own HO2 _, (by repeat' (first | (with_reducible exact Below.refl _ _) | (with_reducible assumption) | (with_reducible refine below_drewN ?_ _) | (with_reducible refine Below.drew ?_) | (with_reducible refine Below.alloc ?_ ?_ _) | (with_reducible refine Below.setCell ?_ ?_ _) | go_size))⟩
                  case measure => simp [intOf]; omega
            · have hst := Lib.hid (anyTo_step (d := (x0, x1)) hd2.out)
              have hsm := Lib.hid (show sameD (x0, x1) (z0, z1) = false by simp [sameD, e0])
              have e0' := toList_ne e0
              clear e0
              cases hfl : anyTo b (x0, x1) j with
              | true =>
                have HF := Lib.hid hfl
                clear hfl
                go_wp2
                go_quiet (fail)
                go_wp2
                go_roundw
                case rel => exact ⟨j + 1, by omega, by go_num, by rw [hst.out, HF.out]; rfl, drewN_own HO2 _, (by repeat' (first | (with_reducible exact Below.refl _ _) | (with_reducible assumption) | (with_reducible refine below_drewN ?_ _) | (with_reducible refine Below.drew ?_) | (with_reducible refine Below.alloc ?_ ?_ _) | (with_reducible refine Below.setCell ?_ ?_ _) | go_size))⟩
                case measure => simp [intOf]; omega
              | false =>
                have HF := Lib.hid hfl
                clear hfl
                go_wp2
                go_quiet (fail)
                go_wp2
                go_roundw
                case rel => exact ⟨j + 1, by omega, by go_num, by rw [hst.out, HF.out, hsm.out]; rfl, drewN_own HO2 _, (by repeat' (first | (with_reducible exact Below.refl _ _) | (with_reducible assumption) | (with_reducible refine below_drewN ?_ _) | (with_reducible refine Below.drew ?_) | (with_reducible refine Below.alloc ?_ ?_ _) | (with_reducible refine Below.setCell ?_ ?_ _) | go_size))⟩
                case measure => simp [intOf]; omega
          · have hst := Lib.hid (anyTo_all (b := b) (d := (x0, x1)) (k := j) (by have := hl'.out; omega))
            go_wp2
            go_meet
            case rel => exact ⟨by rw [hst.out], HO2, hb2⟩
      case rest =>
        obtain ⟨rfl, HO2, hb2⟩ := hcut
        have q0 := ((bcell hb2).1 _ _ hbk.out).trans c0
        have hbw2 := hbw.trans (hb2.mono hbw.size)
        clear c0 c1 hb2 HO
        cases hs : memD b (x0, x1) with
        | true =>
          have hst := Lib.hid (chgTo_no HD.out hs)
          clear hs
          go_wp2
          go_roundw
          case rel => exact ⟨k + 1, by omega, by go_num, ownsRow_congr HO2.out (by rw [hst.out]) (by rw [hst.out]), hbw2⟩
          case measure => simp [intOf]; omega
        | false =>
          have hst := Lib.hid (chgTo_yes HD.out hs)
          have hlen := Lib.hid (chgTo_len a b k)
          clear hs
          go_wp2_with (at_builtin; (refine wpList_append_own _ rfl (.tmp 36) (.tmp 42) _ rfl w.heap.size 9 i0 (.string ⟨#[]⟩) 1 16 Try.underlying24 HI.out.1 HI.out.2.1 HI.out.2.2.1 HI.out.2.2.2 rfl (by decide) _ _ _ rfl (HO2.out.alloc _) ⟨wc.heap.size, 0, none⟩ 1 1 [.string x0] rfl rfl (cell_one_new _ _ _) (fun x hx => by simp at hx; subst hx; rfl) (by have := hlen.out; unfold maxLen; omega) (by have := hlen.out; omega) (by have := hbw2.size; simp; omega) ?_); intro v' w3 hown3 hg3 hnil3)
          have hb3 := hbw2.alloc hbw2.size (.cells #[.string x0] 9)
          have hb4 : Below w.heap.size w w3 := hb3.grown hg3 hb3.size (fun g hg => block_of_own HO2.out hg)
          go_wp2
          go_roundw
          case rel => exact ⟨k + 1, by omega, by go_num, ownsRow_congr hown3 (by rw [hst.out]; simp) (by rw [hst.out]; simp [strCells]), hb4⟩
          case measure => simp [intOf]; omega
    · obtain rfl : k = n := by omega
      go_wp2
      go_ret
      exact ⟨_, rfl, HO.out, hbw⟩
end Go.Proofs.Ytfapdhfjcnehhaa

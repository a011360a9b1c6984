
/-
  Contracts: how deep nodes are, of the reference (spec.l05Deeps, DeepOf). Written by program (gen_deepb.py).
-/
import Derived.Test.YtpfanhheodiamaaGreatDoorDeepA
namespace Go.Proofs.YtpfanhheodiamaaGreatDoor
open Go.RowKit
set_option linter.unusedVariables false
set_option linter.unusedSimpArgs false

/-- The reference's depths of the first m nodes. -/
def SpL (ps : List PN) (m : Nat) (out : List Int) : Prop := out.length = m ∧ (∀ x ∈ out, 0 ≤ x ∧ x ≤ 14) ∧ (deepsO ps m = some out ∨ (deepsO ps m = none ∧ 0 < m ∧ out[m - 1]? = some 0))
theorem spl_zero (ps : List PN) : SpL ps 0 [] := ⟨rfl, (fun x hx => by cases hx), .inl rfl⟩
theorem spl_bad {ps : List PN} {m : Nat} {out : List Int} (h : SpL ps m out) (hd : deepsO ps (m + 1) = none) : SpL ps (m + 1) (out ++ [0]) := by
  refine ⟨by simp [h.1], fun x hx => ?_, .inr ⟨hd, by omega, ?_⟩⟩
  · rcases List.mem_append.1 hx with hx | hx
    · exact h.2.1 x hx
    · obtain rfl := List.mem_singleton.1 hx; omega
  · rw [Nat.add_sub_cancel, List.getElem?_append_right (by rw [h.1]; exact Nat.le_refl _), h.1, Nat.sub_self]; rfl
theorem spl_good {ps : List PN} {m : Nat} {out : List Int} {d : Int} (hd : deepsO ps (m + 1) = some (out ++ [d])) : SpL ps (m + 1) (out ++ [d]) := by
  obtain ⟨h1, h2⟩ := deepsO_ok hd
  exact ⟨h1, fun x hx => by have := h2 x hx; omega, .inl hd⟩
def goodI (ps : List PN) (m : Nat) : Bool := nodeB ps m && (deepsO ps m).isSome
theorem deepsO_notgood {ps : List PN} {m : Nat} (h : goodI ps m = false) : deepsO ps (m + 1) = none := by
  unfold goodI at h
  cases hn : nodeB ps m with
  | false => exact deepsO_bad hn
  | true =>
    rw [hn, Bool.true_and] at h
    cases hd : deepsO ps m with
    | none => exact deepsO_none hd (by omega)
    | some l => rw [hd] at h; cases h
theorem spec_max {M d : Int} : (if M + 1 < d + 1 then d + 1 else M + 1) = max M d + 1 := by
  split <;> omega
set_option maxRecDepth 100000 in
set_option maxHeartbeats 6400000 in
theorem l05Deeps_any (A : Option Addr) (n c : Nat) (ps : List PN) (k : Nat) (w : World) (hn : n ≤ 1048576) (hps : Nps w A n ps) (hb : Hid (PNs ps)) (hk : k < n) :
    Calls Tryz.prog 74 #[.slice A n c, .int .i64 k] w fun e w' => ∃ A' c' out, e = .returned (.slice A' (k + 1) c') ∧ Rd w' 1 A' (k + 1) (intCells out) ∧ Hid (SpL ps (k + 1) out) ∧ Below w.heap.size w w' := by
  have HP := Lib.hid hps
  have HL := Lib.hid hps.len
  obtain ⟨i0, hi, hz0, hz1, hz2⟩ := info_parts infoInt
  have HI := Lib.hid (And.intro hi (And.intro hz0 (And.intro hz1 hz2)))
  have hO0 : Mine (w.alloc (.cells #[] 3)) w.heap.size 3 1 (some ⟨w.heap.size, 0, none⟩) 0 0 (intCells []) := own_empty w 3 1
  clear hi hz0 hz1 hz2 hps
  go_enter Tryz.func74, Tryz.ntmps74
  go_wp2
  go_loopw [5, 6] (fun s i wr => ∃ (m : Nat) (out : List Int) (A5 : Option Addr) (c5 : Nat), m ≤ k + 1 ∧ s = .slice A5 m c5 ∧ i = .int .i64 m ∧ Mine wr w.heap.size 3 1 A5 m c5 (intCells out) ∧ SpL ps m out ∧ Below w.heap.size w wr) (fun _ i _ => k + 1 - (intOf i).toNat)
  case atStart => exact ⟨0, [], _, _, Nat.zero_le _, rfl, rfl, hO0, spl_zero ps, (by repeat' (first | (with_reducible exact Below.refl _ _) | (with_reducible assumption) | (with_reducible refine below_drewN ?_ _) | (with_reducible refine Below.drew ?_) | (with_reducible refine Below.alloc ?_ ?_ _) | (with_reducible refine Below.setCell ?_ ?_ _) | go_size))⟩
  case round =>
    clear hO0
    obtain ⟨m, out, A5, c5, hm, rfl, rfl, hM, hS, hbw⟩ := hrel
    have HM0 := Lib.hid hM
    have HS := Lib.hid hS
    clear hM hS
    by_cases hlt : m < k + 1
    · have hlt2 : (m : Int) ≤ k := by omega
      have hmn : m < n := by omega
      have hmn2 : (m : Int) < n := by omega
      have HB := Lib.hid (fun (u : Bool) (h : nodeB ps m = u) => show Calls Tryz.prog 104 #[.slice A n c, .int .i64 m] wr fun e w' => e = .returned (.bool u) ∧ Below wr.heap.size wr w' by rw [← h, ← nodes_agree]; exact specNodeOk_in A n c ps m wr hn (HP.out.below hbw) hb hmn)
      go_upto_region 6 with fail
      go_cut [36] (fun s wx => s = .bool (!goodI ps m) ∧ Mine wx w.heap.size 3 1 A5 m c5 (intCells out) ∧ Below w.heap.size w wx)
      case first =>
        clear hlt2 hmn2
        cases hnb : nodeB ps m with
        | false =>
          have HB2 := Lib.hid (HB.out _ hnb)
          have hgd : goodI ps m = false := by unfold goodI; rw [hnb]; rfl
          clear HB hnb
          go_wp2_with fail
          refine HB2.out.mono ?_
          rintro e w2 ⟨rfl, h2⟩
          go_wp2
          go_meet
          case rel => exact ⟨by rw [hgd]; rfl, HM0.out.next h2, below_next hbw h2⟩
        | true =>
          have HB2 := Lib.hid (HB.out _ hnb)
          by_cases hm0 : m = 0
          · subst hm0
            have hgd : goodI ps 0 = true := by unfold goodI; rw [hnb]; rfl
            clear HB hnb
            go_wp2_with fail
            refine HB2.out.mono ?_
            rintro e w2 ⟨rfl, h2⟩
            go_wp2
            go_meet
            case rel => exact ⟨by rw [hgd]; rfl, HM0.out.next h2, below_next hbw h2⟩
          · obtain ⟨m1, rfl⟩ : ∃ m1, m = m1 + 1 := ⟨m - 1, by omega⟩
            have g0 : (0 : Int) < ((m1 + 1 : Nat) : Int) := by omega
            have g1 : ((m1 + 1 : Nat) : Int) - 1 = (m1 : Int) := by omega
            have g2 : (m1 : Int) < ((m1 + 1 : Nat) : Int) := by omega
            obtain ⟨d, hq⟩ : ∃ d, out[m1]? = some d := ⟨_, List.getElem?_eq_getElem (by have := HS.out.1; omega)⟩
            by_cases hd0 : d = 0
            · have hgd : goodI ps (m1 + 1) = false := by
                unfold goodI
                rcases HS.out.2.2 with h | ⟨h, _⟩
                · have := (deepsO_ok h).2 d (List.mem_of_getElem? hq); omega
                · rw [h, hnb]; rfl
              subst hd0
              clear HB hnb
              go_wp2_with fail
              refine HB2.out.mono ?_
              rintro e w2 ⟨rfl, h2⟩
              have hM2 := HM0.out.next h2
              obtain ⟨b6, off6, rfl, hblt6, cq⟩ := int_at hM2.rd (by omega) hq
              go_wp2
              go_meet
              case rel => exact ⟨by rw [hgd]; rfl, hM2, below_next hbw h2⟩
            · have hgd : goodI ps (m1 + 1) = true := by
                unfold goodI
                rcases HS.out.2.2 with h | ⟨h, _, h3⟩
                · rw [h, hnb]; rfl
                · rw [Nat.add_sub_cancel, hq] at h3; exact absurd (Option.some.inj h3) hd0
              have hd1 : (d == 0) = false := by rw [beq_eq_false_iff_ne]; exact hd0
              clear HB hnb
              go_wp2_with fail
              refine HB2.out.mono ?_
              rintro e w2 ⟨rfl, h2⟩
              have hM2 := HM0.out.next h2
              obtain ⟨b6, off6, rfl, hblt6, cq⟩ := int_at hM2.rd (by omega) hq
              go_wp2
              go_meet
              case rel => exact ⟨by rw [hgd]; rfl, hM2, below_next hbw h2⟩
      case rest =>
        clear HM0 hbw HB
        obtain ⟨rfl, hM, hb2⟩ := hcut
        have HM := Lib.hid hM
        clear hM
        obtain ⟨x, hx⟩ := HP.out.get hmn
        obtain ⟨b, off, A2, c2, rfl, hblt, x0, x1, x2, x3, hxr⟩ := (HP.out.below hb2).at_ hmn hx
        have hxb := (hb.out x (List.mem_of_getElem? hx)).2
        have HX := Lib.hid hx
        have HXR := Lib.hid hxr
        clear hx hxr x0 x1 x3

        cases hgd : goodI ps m with
        | false =>
          have hsp := Lib.hid (spl_bad HS.out (deepsO_notgood hgd))
          simp only [Bool.not_false]
          clear HS hgd
          go_wp2
          go_loop [7, 8] (fun s i => s = .int .i64 0 ∧ i = .int .i64 0) (fun _ i => 0)
          case atStart => exact ⟨rfl, rfl⟩
          case round =>
            obtain ⟨rfl, rfl⟩ := hrel
            go_wp2_with (at_builtin; (refine wpList_append_own _ rfl (.tmp 79) (.tmp 81) _ rfl w.heap.size 3 i0 (.int .i64 0) 1 8 Tryz.underlying38 HI.out.1 HI.out.2.1 HI.out.2.2.1 HI.out.2.2.2 rfl (by decide) _ _ _ rfl (Mine.alloc HM.out _) ⟨wc.heap.size, 0, none⟩ 1 1 [.int .i64 0] rfl rfl (cell1_new _ _ _) (fun x hx => by simp at hx; subst hx; rfl) (by unfold maxLen; omega) (by omega) (by have := hb2.size; simp; omega) ?_); intro v' w3 hown3 hg3 hnil3)
            have hb3 := hb2.alloc hb2.size (.cells #[.int .i64 0] 3)
            have hb4 : Below w.heap.size w w3 := hb3.grown hg3 hb3.size (fun g hg => own_blk HM.out hg)
            obtain ⟨A7, c7, rfl, m3⟩ := Mine.of hown3
            have HM3 := Lib.hid m3
            clear hown3 hg3 hnil3 hb3 m3
            go_wp2
            go_roundw
            case rel => exact ⟨m + 1, out ++ [0], A7, c7, by omega, rfl, by go_num, by simpa [intCells] using HM3.out, hsp.out, hb4⟩
            case measure => simp [intOf]; omega
        | true =>
          have hnb : nodeB ps m = true := by unfold goodI at hgd; rw [Bool.and_eq_true] at hgd; exact hgd.1
          have hds : deepsO ps m = some out := by
            rcases HS.out.2.2 with h | ⟨h, _⟩
            · exact h
            · unfold goodI at hgd; rw [h] at hgd; simp at hgd
          have HNB := Lib.hid hnb
          have HD := Lib.hid hds
          have hlen := (deepsO_ok hds).1
          have HR := Lib.hid (deepsO_ok hds).2
          simp only [Bool.not_true]
          clear hgd hnb hds
          go_wp2
          go_loop [7, 8] (fun s i => ∃ t : Nat, t ≤ x.kids.length ∧ s = .int .i64 (mxK out x.kids t + 1) ∧ i = .int .i64 t) (fun _ i => x.kids.length - (intOf i).toNat)
          case atStart => exact ⟨0, Nat.zero_le _, by rw [mxK_zero]; rfl, rfl⟩
          case round =>
            obtain ⟨t, ht, rfl, rfl⟩ := hrel
            have hbd := mxK_bound (kids := x.kids) HR.out t
            by_cases hlt3 : t < x.kids.length
            · obtain ⟨v, hd⟩ : ∃ d, x.kids[t]? = some d := ⟨_, List.getElem?_eq_getElem hlt3⟩
              have hv := nodeB_kid HNB.out HX.out (List.mem_of_getElem? hd)
              obtain ⟨q, rfl⟩ := Int.eq_ofNat_of_zero_le hv.1
              have hqm : q < m := by omega
              have g0 : (0 : Int) ≤ (q : Int) := by omega
              have g1 : (q : Int) < (m : Int) := by omega
              have gt : (t : Int) < x.kids.length := by omega
              obtain ⟨b5, off5, rfl, hblt5, cv⟩ := int_at HXR.out hlt3 hd
              obtain ⟨d, hq⟩ : ∃ d, out[q]? = some d := ⟨_, List.getElem?_eq_getElem (by omega)⟩
              obtain ⟨b6, off6, rfl, hblt6, cq⟩ := int_at HM.out.rd hqm hq
              have hst := Lib.hid (mxK_step hd hq)
              have hdb := HR.out d (List.mem_of_getElem? hq)
              clear hv hd hq
              generalize mxK out x.kids t = M at hst hbd ⊢
              have hpos : (0 : Int) < M + 1 := by omega
              by_cases hgt : M + 1 < d + 1
              · have hmx := Lib.hid (show max M d = d by omega)
                go_wp2
                go_round
                case rel => exact ⟨t + 1, by omega, by rw [hst.out, hmx.out], by go_num⟩
                case measure => simp [intOf]; omega
              · have hmx := Lib.hid (show max M d = M by omega)
                go_wp2
                go_round
                case rel => exact ⟨t + 1, by omega, by rw [hst.out, hmx.out], by go_num⟩
                case measure => simp [intOf]; omega
            · obtain rfl : t = x.kids.length := by omega
              by_cases h14 : mxK out x.kids x.kids.length < 14
              · have hnx := Lib.hid (spl_good (deepsO_more HD.out HX.out HNB.out h14))
                clear HS HD HR HNB
                generalize mxK out x.kids x.kids.length = M at hnx hbd h14 ⊢
                have h14' : ¬ (14 : Int) < M + 1 := by omega
                have hpos : (0 : Int) < M + 1 := by omega
                go_wp2_with (at_builtin; (refine wpList_append_own _ rfl (.tmp 79) (.tmp 81) _ rfl w.heap.size 3 i0 (.int .i64 0) 1 8 Tryz.underlying38 HI.out.1 HI.out.2.1 HI.out.2.2.1 HI.out.2.2.2 rfl (by decide) _ _ _ rfl (Mine.alloc HM.out _) ⟨wc.heap.size, 0, none⟩ 1 1 [.int .i64 (M + 1)] rfl rfl (cell1_new _ _ _) (fun x hx => by simp at hx; subst hx; rfl) (by unfold maxLen; omega) (by omega) (by have := hb2.size; simp; omega) ?_); intro v' w3 hown3 hg3 hnil3)
                have hb3 := hb2.alloc hb2.size (.cells #[.int .i64 (M + 1)] 3)
                have hb4 : Below w.heap.size w w3 := hb3.grown hg3 hb3.size (fun g hg => own_blk HM.out hg)
                obtain ⟨A7, c7, rfl, m3⟩ := Mine.of hown3
                have HM3 := Lib.hid m3
                clear hown3 hg3 hnil3 hb3 m3
                go_wp2
                go_roundw
                case rel => exact ⟨m + 1, out ++ [(M + 1)], A7, c7, by omega, rfl, by go_num, by simpa [intCells] using HM3.out, hnx.out, hb4⟩
                case measure => simp [intOf]; omega
              · have hnx := Lib.hid (spl_bad HS.out (deepsO_high HD.out HX.out h14))
                clear HS HD HR HNB
                generalize mxK out x.kids x.kids.length = M at hbd h14 ⊢
                have h14' : (14 : Int) < M + 1 := by omega
                have hpos : (0 : Int) < M + 1 := by omega
                go_wp2_with (at_builtin; (refine wpList_append_own _ rfl (.tmp 79) (.tmp 81) _ rfl w.heap.size 3 i0 (.int .i64 0) 1 8 Tryz.underlying38 HI.out.1 HI.out.2.1 HI.out.2.2.1 HI.out.2.2.2 rfl (by decide) _ _ _ rfl (Mine.alloc HM.out _) ⟨wc.heap.size, 0, none⟩ 1 1 [.int .i64 0] rfl rfl (cell1_new _ _ _) (fun x hx => by simp at hx; subst hx; rfl) (by unfold maxLen; omega) (by omega) (by have := hb2.size; simp; omega) ?_); intro v' w3 hown3 hg3 hnil3)
                have hb3 := hb2.alloc hb2.size (.cells #[.int .i64 0] 3)
                have hb4 : Below w.heap.size w w3 := hb3.grown hg3 hb3.size (fun g hg => own_blk HM.out hg)
                obtain ⟨A7, c7, rfl, m3⟩ := Mine.of hown3
                have HM3 := Lib.hid m3
                clear hown3 hg3 hnil3 hb3 m3
                go_wp2
                go_roundw
                case rel => exact ⟨m + 1, out ++ [0], A7, c7, by omega, rfl, by go_num, by simpa [intCells] using HM3.out, hnx.out, hb4⟩
                case measure => simp [intOf]; omega
    · obtain rfl : m = k + 1 := by omega
      have g3 : ¬ (((k + 1 : Nat) : Int) ≤ (k : Int)) := by omega
      go_wp2
      go_ret
      have hfin := HM0.out.rd
      exact ⟨A5, ⟨c5, rfl⟩, out, hfin, HS, hbw⟩
theorem spl_at {ps : List PN} {k : Nat} {out : List Int} (h : SpL ps (k + 1) out) : out[k]? = some (deepV ps k) := by
  obtain ⟨h1, h2, h3⟩ := h
  rcases h3 with h | ⟨h, _, h4⟩
  · obtain ⟨d, hd⟩ : ∃ d, out[k]? = some d := ⟨_, List.getElem?_eq_getElem (by omega)⟩
    rw [deepV_some h hd, hd]
  · rw [deepV_none h (Nat.le_refl _)]; exact h4
set_option maxHeartbeats 800000 in
theorem specDeepOf_any (A : Option Addr) (n c : Nat) (ps : List PN) (k : Int) (w : World) (hn : n ≤ 1048576) (hps : Nps w A n ps) (hb : Hid (PNs ps)) :
    Calls Tryz.prog 44 #[.slice A n c, .int .i64 k] w fun e w' => e = .returned (.int .i64 (deepZ ps k)) ∧ Below w.heap.size w w' := by
  have hl := hps.len
  by_cases hk : 0 ≤ k ∧ k < (n : Int)
  · obtain ⟨q, rfl⟩ := Int.eq_ofNat_of_zero_le hk.1
    have hz : deepZ ps (q : Int) = deepV ps q := by unfold deepZ; rw [if_pos (by rw [hl]; exact hk), Int.toNat_natCast]
    rw [hz]
    have HN := Lib.hid (fun W => l01In_is' (show inB (q : Int) 0 ((n : Int) - 1) = true from decide_eq_true (by omega)) W)
    have HD := Lib.hid (fun c => l05Deeps_any A n c ps q w hn hps hb (by omega))
    clear hps
    go_enter Tryz.func44, Tryz.ntmps44
    go_wp2_with fail
    refine (HN.out _).mono ?_
    rintro e w1 ⟨rfl, rfl⟩
    go_wp2_with fail
    refine (HD.out _).mono ?_
    rintro e w2 ⟨A', c', out, rfl, hr, hs, h2⟩
    obtain ⟨b, off, rfl, hblt, cq⟩ := int_at hr (by omega : q < q + 1) (spl_at hs.out)
    have g0 : (0 : Int) ≤ (q : Int) := by omega
    have g1 : (q : Int) < ((q + 1 : Nat) : Int) := by omega
    clear hr hs HD
    go_wp2
    go_ret
    exact ⟨rfl, h2⟩
  · have hz : deepZ ps k = 0 := by unfold deepZ; rw [if_neg (by rw [hl]; exact hk)]
    rw [hz]
    have HN := Lib.hid (fun W => l01In_is' (show inB k 0 ((n : Int) - 1) = false from decide_eq_false (by omega)) W)
    go_enter Tryz.func44, Tryz.ntmps44
    go_wp2_with fail
    refine (HN.out _).mono ?_
    rintro e w1 ⟨rfl, rfl⟩
    go_wp2
    go_ret
    exact ⟨rfl, (by repeat' (first | (with_reducible exact Below.refl _ _) | (with_reducible assumption) | (with_reducible refine below_drewN ?_ _) | (with_reducible refine Below.drew ?_) | (with_reducible refine Below.alloc ?_ ?_ _) | (with_reducible refine Below.setCell ?_ ?_ _) | go_size))⟩
end Go.Proofs.YtpfanhheodiamaaGreatDoor

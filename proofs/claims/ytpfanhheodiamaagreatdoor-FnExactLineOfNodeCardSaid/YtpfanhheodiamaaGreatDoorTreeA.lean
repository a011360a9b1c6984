
/-
  Contracts: are nodes a tree (impl.TreeOk).
-/
import Derived.Test.YtpfanhheodiamaaGreatDoorDeepB
namespace Go.Proofs.YtpfanhheodiamaaGreatDoor
open Go.RowKit
set_option linter.unusedVariables false
set_option linter.unusedSimpArgs false

/-- How often each of the first n numbers stands in a list. -/
def useL (F : List Int) (n : Nat) : List Int := (List.range n).map (fun (j : Nat) => ((F.count (j : Int) : Nat) : Int))
theorem useL_len (F : List Int) (n : Nat) : (useL F n).length = n := by simp [useL]
theorem useL_nil (n : Nat) : useL [] n = List.replicate n 0 := by
  unfold useL
  apply List.ext_getElem
  · simp
  · intro i h1 h2; simp
theorem useL_get {F : List Int} {n q : Nat} (h : q < n) : (useL F n)[q]? = some ((F.count (q : Int) : Nat) : Int) := by
  unfold useL
  rw [List.getElem?_map, List.getElem?_range h]; rfl
theorem useL_push {F : List Int} {n q : Nat} (h : q < n) : (intCells (useL F n)).set q (.int .i64 ((F.count (q : Int) : Nat) + 1 : Int)) = intCells (useL (F ++ [(q : Int)]) n) := by
  unfold intCells
  apply List.ext_getElem?
  intro i
  rw [List.getElem?_set, List.getElem?_map, List.getElem?_map]
  by_cases hi : i < n
  · rw [useL_get hi, useL_get hi]
    by_cases hq : q = i
    · subst hq
      rw [if_pos rfl, if_pos (by simp [useL_len]; exact h)]
      simp
    · rw [if_neg hq]
      have : List.count (i : Int) [(q : Int)] = 0 := by
        rw [List.count_singleton]; simp; omega
      simp [List.count_append, this]
  · have e1 : (useL F n)[i]? = none := List.getElem?_eq_none (by rw [useL_len]; omega)
    have e2 : (useL (F ++ [(q : Int)]) n)[i]? = none := List.getElem?_eq_none (by rw [useL_len]; omega)
    rw [e1, e2, if_neg (by omega)]
/-- The kids of the first m nodes, one behind the other. -/
def kidsTo (ps : List PN) (m : Nat) : List Int := (ps.take m).flatMap PN.kids
theorem kidsTo_zero (ps : List PN) : kidsTo ps 0 = [] := rfl
theorem kidsTo_step {ps : List PN} {m : Nat} {x : PN} (h : ps[m]? = some x) : kidsTo ps (m + 1) = kidsTo ps m ++ x.kids := by
  unfold kidsTo; rw [List.take_add_one, h]; simp
theorem kidsTo_len {ps : List PN} (h : ∀ p ∈ ps, p.kids.length ≤ 12) (m : Nat) : (kidsTo ps m).length ≤ 12 * m := by
  induction m with
  | zero => simp [kidsTo]
  | succ m ih =>
    cases hx : ps[m]? with
    | none =>
      have : kidsTo ps (m + 1) = kidsTo ps m := by unfold kidsTo; rw [List.take_add_one, hx]; simp
      rw [this]; omega
    | some x =>
      rw [kidsTo_step hx, List.length_append]
      have := h x (List.mem_of_getElem? hx)
      omega
/-- Does each node but the last one stand once among the kids? -/
def usedTo (ps : List PN) (n j : Nat) : Prop := ∀ (i : Nat), i < j → ((kidsTo ps n).count (i : Int)) = 1
def usedB (ps : List PN) (n : Nat) : Bool := (List.range (n - 1)).all (fun (j : Nat) => (kidsTo ps n).count (j : Int) == 1)
theorem usedB_yes {ps : List PN} {n : Nat} (h : usedTo ps n (n - 1)) : usedB ps n = true := by
  unfold usedB; rw [List.all_eq_true]
  intro j hj
  rw [List.mem_range] at hj
  rw [beq_iff_eq]; exact h j hj
theorem usedB_no {ps : List PN} {n j : Nat} (hj : j < n - 1) (h : ¬ (kidsTo ps n).count (j : Int) = 1) : usedB ps n = false := by
  unfold usedB; rw [List.all_eq_false]
  exact ⟨j, List.mem_range.2 hj, by simp; exact h⟩
/-- Are nodes a tree? -/
def treeB (ps : List PN) : Bool := inB (ps.length : Int) 1 300 && ((kindAt ps ((ps.length : Int) - 1) == 22) && (!(deepV ps (ps.length - 1) == 0) && usedB ps ps.length))
theorem deepsO_all {ps : List PN} : ∀ {m : Nat} {l : List Int}, deepsO ps m = some l → ∀ i, i < m → nodeB ps i = true := by
  intro m
  induction m with
  | zero => intro l h i hi; omega
  | succ m ih =>
    intro l h i hi
    cases hd : deepsO ps m with
    | none => rw [deepsO_none hd (Nat.le_succ m)] at h; cases h
    | some l0 =>
      by_cases hm : i = m
      · subst hm
        cases hn : nodeB ps i with
        | true => rfl
        | false => rw [deepsO_bad hn] at h; cases h
      · exact ih hd i (by omega)
theorem deep_all {ps : List PN} {k : Nat} (h : ¬ deepV ps k = 0) : ∀ i, i ≤ k → nodeB ps i = true := by
  unfold deepV at h
  cases hd : deepsO ps (k + 1) with
  | none => rw [hd] at h; exact absurd rfl h
  | some l => exact fun i hi => deepsO_all hd i (by omega)
theorem nodeB_many12 {ps : List PN} {m : Nat} {x : PN} (hb : nodeB ps m = true) (hx : ps[m]? = some x) : x.kids.length ≤ 12 := by
  by_cases h : x.kids.length ≤ 12
  · exact h
  · rw [nodeB_many hx h] at hb; cases hb
/-- What is known of the nodes of a tree. -/
def Good (ps : List PN) : Prop := ∀ (m : Nat) (x : PN), ps[m]? = some x → x.kids.length ≤ 12 ∧ ∀ v ∈ x.kids, 0 ≤ v ∧ v < (m : Int)
theorem good_of {ps : List PN} (h : ¬ deepV ps (ps.length - 1) = 0) : Good ps := fun m x hx => by
  have hl := (List.getElem?_eq_some_iff.1 hx).1
  have hb := deep_all h m (by omega)
  exact ⟨nodeB_many12 hb hx, fun v hv => nodeB_kid hb hx hv⟩
theorem Good.len {ps : List PN} (h : Good ps) : ∀ p ∈ ps, p.kids.length ≤ 12 := fun p hp => by
  obtain ⟨j, hj⟩ := List.mem_iff_getElem?.1 hp
  exact (h j p hj).1
theorem count_le' (F : List Int) (v : Int) : F.count v ≤ F.length := List.count_le_length
set_option maxRecDepth 100000 in
set_option maxHeartbeats 6400000 in
theorem implTreeOk_any (A : Option Addr) (n c : Nat) (ps : List PN) (w : World) (hn : n ≤ 1048576) (hps : Nps w A n ps) (hb : Hid (PNs ps)) :
    Calls Tryz.prog 24 #[.slice A n c] w fun e w' => e = .returned (.bool (treeB ps)) ∧ Below w.heap.size w w' := by
  have HP := Lib.hid hps
  have HL := Lib.hid hps.len
  have HTB : Hid (treeB ps = (inB (n : Int) 1 300 && ((kindAt ps ((n : Int) - 1) == 22) && (!(deepV ps (n - 1) == 0) && usedB ps n)))) := (show _ = _ by unfold treeB; rw [HL.out])
  generalize treeB ps = T at HTB ⊢
  clear hps
  by_cases hin : 1 ≤ n ∧ n ≤ 300
  · have HI1 := Lib.hid (fun W => inRange_is (show inB (n : Int) 1 300 = true from decide_eq_true (by omega)) W)
    obtain ⟨m0, rfl⟩ : ∃ m0, n = m0 + 1 := ⟨n - 1, by omega⟩
    have e1 : ((m0 + 1 : Nat) : Int) - 1 = (m0 : Int) := by omega
    obtain ⟨x, hx⟩ := HP.out.get (show m0 < m0 + 1 by omega)
    obtain ⟨b, off, A2, c2, rfl, hblt, x0, x1, x2, x3, hxr⟩ := HP.out.at_ (show m0 < m0 + 1 by omega) hx
    have hka := kindAt_some hx
    replace HTB : Hid (T = ((x.kind == 22) && (!(deepV ps m0 == 0) && usedB ps (m0 + 1)))) := (show _ = _ by
      rw [HTB.out, show inB ((m0 + 1 : Nat) : Int) 1 300 = true from decide_eq_true (by omega), e1, hka, Nat.add_sub_cancel, Bool.true_and])
    have g1 : (m0 : Int) < ((m0 + 1 : Nat) : Int) := by omega
    have g0 : (0 : Int) ≤ (m0 : Int) := by omega
    clear hka hxr x1 x2 x3
    cases h22 : (x.kind == 22) with
    | false =>
      have hT : T = false := by rw [HTB.out, h22]; rfl
      subst hT
      have h22' : (x.kind != 22) = true := by unfold bne; rw [h22]; rfl
      clear HTB h22
      go_enter Tryz.func24, Tryz.ntmps24
      go_wp2_with fail
      refine (HI1.out _).mono ?_
      rintro e w1 ⟨rfl, rfl⟩
      go_wp2
      go_ret
      exact ⟨rfl, (by repeat' (first | (with_reducible exact Below.refl _ _) | (with_reducible assumption) | (with_reducible refine below_drewN ?_ _) | (with_reducible refine Below.drew ?_) | (with_reducible refine Below.alloc ?_ ?_ _) | (with_reducible refine Below.setCell ?_ ?_ _) | go_size))⟩
    | true =>
      have h22' : (x.kind != 22) = false := by unfold bne; rw [h22]; rfl
      replace HTB : Hid (T = (!(deepV ps m0 == 0) && usedB ps (m0 + 1))) := (show _ = _ by rw [HTB.out, h22, Bool.true_and])
      have hdz : deepZ ps (m0 : Int) = deepV ps m0 := by unfold deepZ; rw [if_pos (by rw [HL.out]; omega), Int.toNat_natCast]
      have HDP := Lib.hid (fun W (hW : Below w.heap.size w W) => show Calls Tryz.prog 53 #[.slice (some ⟨b, off, none⟩) (m0 + 1) c, .int .i64 m0] W fun e w' => e = .returned (.int .i64 (deepV ps m0)) ∧ Below W.heap.size W w' by rw [← hdz]; exact implDeepOf_any _ (m0 + 1) c ps m0 W hn (HP.out.below hW) hb)
      clear h22 hdz
      by_cases hd0 : deepV ps m0 = 0
      · have hT : T = false := by rw [HTB.out, hd0]; rfl
        subst hT
        rw [hd0] at HDP
        clear HTB hd0
        go_enter Tryz.func24, Tryz.ntmps24
        go_wp2_with fail
        refine (HI1.out _).mono ?_
        rintro e w1 ⟨rfl, rfl⟩
        go_wp2_with fail
        refine (HDP.out _ (Below.refl _ _)).mono ?_
        rintro e w2 ⟨rfl, h2⟩
        go_wp2
        go_ret
        exact ⟨rfl, h2⟩
      · have hdb : (deepV ps m0 == 0) = false := by rw [beq_eq_false_iff_ne]; exact hd0
        have HG := Lib.hid (good_of (ps := ps) (by rw [HL.out, Nat.add_sub_cancel]; exact hd0))
        replace HTB : Hid (T = usedB ps (m0 + 1)) := (show _ = _ by rw [HTB.out, hdb]; rfl)
        generalize deepV ps m0 = D at HDP hdb hd0
        obtain ⟨i0, hi, hz0, hz1, hz2⟩ := info_parts infoInt
        have hmk := fun W => run_make_rowN (P := Tryz.prog) 38 3 i0 _ Tryz.underlying38 hi hz0 .i64 .i64 (m0 + 1) (m0 + 1) (Nat.le_refl _) (by rw [hz2]; omega) (by omega) W
        rw [hz1, Nat.mul_one] at hmk
        simp only [Value.cells] at hmk
        have e9 : ((m0 + 1 : Nat) : Int) = (m0 : Int) + 1 := by omega
        rw [e9] at hmk
        have HKL := Lib.hid (kidsTo_len HG.out.len)
        clear hi hz0 hz1 hz2 hd0
        go_enter Tryz.func24, Tryz.ntmps24
        go_wp2_with fail
        refine (HI1.out _).mono ?_
        rintro e w1 ⟨rfl, rfl⟩
        go_wp2_with fail
        refine (HDP.out _ (Below.refl _ _)).mono ?_
        rintro e w2 ⟨rfl, h2⟩
        clear HDP HI1 hblt x0
        go_wp2
        clear hmk
        have hsz2 := h2.size
        have hZ := Own.zeros (w := w2) (e := 3) (m0 + 1)
        go_loopw [36] (fun i wr => ∃ m : Nat, m ≤ m0 + 1 ∧ i = .int .i64 m ∧ Own wr w2.heap.size 3 (m0 + 1) (intCells (useL (kidsTo ps m) (m0 + 1))) ∧ Below w.heap.size w wr) (fun i _ => m0 + 1 - (intOf i).toNat)
        case atStart => exact ⟨0, Nat.zero_le _, rfl, by rw [kidsTo_zero, useL_nil]; exact hZ, (by repeat' (first | (with_reducible exact Below.refl _ _) | (with_reducible assumption) | (with_reducible refine below_drewN ?_ _) | (with_reducible refine Below.drew ?_) | (with_reducible refine Below.alloc ?_ ?_ _) | (with_reducible refine Below.setCell ?_ ?_ _) | go_size))⟩
        case round =>
          clear hZ
          obtain ⟨m, hm, rfl, how, hbw⟩ := hrel
          have hg0 := h2.size
          by_cases hlt : m < m0 + 1
          · have hlt2 : (m : Int) < ((m0 + 1 : Nat) : Int) := by omega
            obtain ⟨y, hy⟩ := HP.out.get hlt
            obtain ⟨b3, off3, A3, c3, e3, hblt3, y0, y1, y2, y3, hyr⟩ := HP.out.at_ hlt hy
            injection e3 with e3
            injection e3 with e31 e32
            subst e31; subst e32
            obtain ⟨hcb, hfb⟩ := bcell hbw
            have hyg := HG.out m y hy
            have HY := Lib.hid hy
            have HYR := Lib.hid hyr
            have hYL := Lib.hid (kidsTo_step hy)
            have how2 := how.alloc (.cells #[.int .i64 y.kind, .string y.text, .slice A3 y.kids.length c3, .bool y.blank] 48)
            have hszr := hbw.size
            have hbw2 : Below w.heap.size w (wr.alloc (.cells #[.int .i64 y.kind, .string y.text, .slice A3 y.kids.length c3, .bool y.blank] 48)) := (by repeat' (first | (with_reducible exact Below.refl _ _) | (with_reducible assumption) | (with_reducible refine below_drewN ?_ _) | (with_reducible refine Below.drew ?_) | (with_reducible refine Below.alloc ?_ ?_ _) | (with_reducible refine Below.setCell ?_ ?_ _) | go_size))
            have hkm := HKL.out m
            obtain ⟨hy12, hyv⟩ := hyg
            have HYV := Lib.hid hyv
            clear how hy hyr hyv
            go_wp2
            clear hcb hfb y0 y1 y2 y3 hblt3 hbw
            go_loopw [43] (fun i w3 => ∃ t : Nat, t ≤ y.kids.length ∧ i = .int .i64 t ∧ Own w3 w2.heap.size 3 (m0 + 1) (intCells (useL (kidsTo ps m ++ y.kids.take t) (m0 + 1))) ∧ Below w.heap.size w w3) (fun i _ => y.kids.length - (intOf i).toNat)
            case atStart => exact ⟨0, Nat.zero_le _, rfl, by simpa using how2, hbw2⟩
            case round =>
              clear how2 hbw2
              obtain ⟨t, ht, rfl, how, hbw⟩ := hrel
              by_cases hlt3 : t < y.kids.length
              · obtain ⟨v, hd⟩ : ∃ d, y.kids[t]? = some d := ⟨_, List.getElem?_eq_getElem hlt3⟩
                have hv := HYV.out v (List.mem_of_getElem? hd)
                obtain ⟨q, rfl⟩ := Int.eq_ofNat_of_zero_le hv.1
                have hqm : q < m0 + 1 := by omega
                have k0 : (0 : Int) ≤ (q : Int) := by omega
                have k1 : (q : Int) < ((m0 + 1 : Nat) : Int) := by omega
                have gt : (t : Int) < y.kids.length := by omega
                obtain ⟨b5, off5, rfl, hblt5, cv⟩ := int_at (HYR.out.below hbw) hlt3 hd
                have hqc := (how.rd (size := 1) (n := m0 + 1) (by simp [intCells, useL_len]))
                obtain ⟨b6, off6, e6, hblt6, cq⟩ := int_at hqc hqm (useL_get hqm)
                injection e6 with e6
                injection e6 with e61 e62
                subst e61; subst e62
                simp only [Nat.zero_add] at cq
                have hpush := Lib.hid (useL_push (F := kidsTo ps m ++ y.kids.take t) hqm)
                have hput := Lib.hid (how.put (i := q) (by simp [intCells, useL_len]; exact hqm) (.int .i64 (((kidsTo ps m ++ y.kids.take t).count (q : Int) : Nat) + 1 : Int)))
                have hcl := count_le' (kidsTo ps m ++ y.kids.take t) (q : Int)
                have hll : (kidsTo ps m ++ y.kids.take t).length ≤ 12 * m + 12 := by rw [List.length_append, List.length_take]; omega
                have htk := Lib.hid (show y.kids.take (t + 1) = y.kids.take t ++ [(q : Int)] by rw [List.take_add_one, hd]; rfl)
                have hgg := how.lt
                have hfz := how.frozen
                clear hv hd hqc how
                generalize hN : (kidsTo ps m ++ y.kids.take t).count (q : Int) = N at *
                clear hN
                have hN2 : N ≤ 3624 := by omega
                go_wp2
                go_roundw
                case rel => exact ⟨t + 1, by omega, by go_num, by rw [htk.out, ← List.append_assoc, ← hpush.out]; exact hput.out, (by repeat' (first | (with_reducible exact Below.refl _ _) | (with_reducible assumption) | (with_reducible refine below_drewN ?_ _) | (with_reducible refine Below.drew ?_) | (with_reducible refine Below.alloc ?_ ?_ _) | (with_reducible refine Below.setCell ?_ ?_ _) | go_size))⟩
                case measure => simp [intOf]; omega
              · obtain rfl : t = y.kids.length := by omega
                rw [List.take_length, ← hYL.out] at how
                have HO := Lib.hid how
                clear how
                go_wp2
                go_roundw
                case rel => exact ⟨m + 1, by omega, by go_num, HO.out, hbw⟩
                case measure => simp [intOf]; omega
          · obtain rfl : m = m0 + 1 := by omega
            have hgg := how.lt
            have hqc := Lib.hid (how.rd (size := 1) (n := m0 + 1) (by simp [intCells, useL_len]))
            clear how
            have e5 : ((m0 + 1 : Nat) : Int) - 1 = (m0 : Int) := by omega
            go_wp2
            go_loop [60] (fun i => ∃ j : Nat, j ≤ m0 ∧ i = .int .i64 j ∧ Hid (usedTo ps (m0 + 1) j)) (fun i => m0 - (intOf i).toNat)
            case atStart => exact ⟨0, Nat.zero_le _, rfl, (show ∀ i, _ from fun i hi => absurd hi (by omega))⟩
            case round =>
              obtain ⟨j, hj, rfl, HU⟩ := hrel
              by_cases hjl : j < m0
              · obtain ⟨b6, off6, e6, hblt6, cq⟩ := int_at hqc.out (show j < m0 + 1 by omega) (useL_get (show j < m0 + 1 by omega))
                injection e6 with e6
                injection e6 with e61 e62
                subst e61; subst e62
                simp only [Nat.zero_add] at cq
                have gj : (j : Int) < m0 := by omega
                by_cases h1 : (kidsTo ps (m0 + 1)).count (j : Int) = 1
                · have hU2 : Hid (usedTo ps (m0 + 1) (j + 1)) := (show ∀ i, _ from fun i hi => by
                    by_cases e : i = j
                    · subst e; exact h1
                    · exact HU.out i (by omega))
                  rw [h1] at cq
                  clear HTB HU h1
                  go_wp2
                  go_round
                  case rel => exact ⟨j + 1, by omega, by go_num, hU2⟩
                  case measure => simp [intOf]; omega
                · have hT : T = false := by rw [HTB.out]; exact usedB_no (by omega) h1
                  subst hT
                  have hne : ((((kidsTo ps (m0 + 1)).count (j : Int) : Nat) : Int) != 1) = true := by rw [bne_iff_ne]; omega
                  have hne2 : ((((kidsTo ps (m0 + 1)).count (j : Int) : Nat) : Int) == 1) = false := by rw [beq_eq_false_iff_ne]; omega
                  clear HTB HU
                  generalize (kidsTo ps (m0 + 1)).count (j : Int) = N at *
                  go_wp2
                  go_ret
                  exact ⟨rfl, hbw⟩
              · obtain rfl : j = m0 := by omega
                have hT : T = true := by rw [HTB.out]; exact usedB_yes (by simpa using HU.out)
                subst hT
                clear HTB HU
                go_wp2
                go_ret
                exact ⟨rfl, hbw⟩
  · have HI1 := Lib.hid (fun W => inRange_is (show inB (n : Int) 1 300 = false from decide_eq_false (by omega)) W)
    have hT : T = false := by rw [HTB.out, show inB (n : Int) 1 300 = false from decide_eq_false (by omega)]; rfl
    subst hT
    clear HTB
    go_enter Tryz.func24, Tryz.ntmps24
    go_wp2_with fail
    refine (HI1.out _).mono ?_
    rintro e w1 ⟨rfl, rfl⟩
    go_wp2
    go_ret
    exact ⟨rfl, (by repeat' (first | (with_reducible exact Below.refl _ _) | (with_reducible assumption) | (with_reducible refine below_drewN ?_ _) | (with_reducible refine Below.drew ?_) | (with_reducible refine Below.alloc ?_ ?_ _) | (with_reducible refine Below.setCell ?_ ?_ _) | go_size))⟩
end Go.Proofs.YtpfanhheodiamaaGreatDoor


/-
  Contracts: how deep a node is (impl.DeepOf).
-/
import Derived.Test.YtpfanhheodiamaaGreatDoorShapeJ
namespace Go.Proofs.YtpfanhheodiamaaGreatDoor
open Go.RowKit
set_option linter.unusedVariables false
set_option linter.unusedSimpArgs false

theorem Own.put {w : World} {g : Nat} {t : TypeId} {cap : Nat} {xs : List Value} (h : Own w g t cap xs) {i : Nat} (hi : i < xs.length) (u : Value) : Own (w.setCell ⟨g, i, none⟩ u) g t cap (xs.set i u) := by
  obtain ⟨rest, hb, hs⟩ := h
  refine ⟨rest, ?_, by simpa using hs⟩
  have h2 := hb.set_ i u
  have e : ((xs ++ rest).toArray).setIfInBounds i u = (xs.set i u ++ rest).toArray := by
    simp [List.set_append, hi]
  rwa [e] at h2
theorem Own.zeros {w : World} {e : TypeId} (n : Nat) : Own (w.alloc (.cells (madeCells #[.int .i64 0] n) e)) w.heap.size e n (intCells (List.replicate n 0)) :=
  ⟨[], by
    have h := Blk.new w e (madeCells #[.int .i64 0] n)
    have e1 : (intCells (List.replicate n 0) ++ []).toArray = madeCells #[.int .i64 0] n := by
      apply Array.ext'
      rw [toList_madeCells_one]
      simp [intCells]
    rw [e1]; exact h, by simp [intCells]⟩
/-- The greatest depth of the first t kids, by the depths so far. -/
def mxK (l : List Int) (kids : List Int) (t : Nat) : Int := (kids.take t).foldl (fun d v => max d (l.getD v.toNat 0)) 0
theorem mxK_zero (l kids : List Int) : mxK l kids 0 = 0 := by simp [mxK]
theorem mxK_step {l kids : List Int} {t q : Nat} {x : Int} (h : kids[t]? = some (q : Int)) (hx : l[q]? = some x) : mxK l kids (t + 1) = max (mxK l kids t) x := by
  unfold mxK
  rw [List.take_add_one, h, List.foldl_append]
  simp [List.getD_eq_getElem?_getD, hx]
theorem mxK_bound {l kids : List Int} (hl : ∀ x ∈ l, 1 ≤ x ∧ x ≤ 14) (t : Nat) : 0 ≤ mxK l kids t ∧ mxK l kids t ≤ 14 := by
  unfold mxK
  generalize kids.take t = r
  have : ∀ (r : List Int) (d : Int), 0 ≤ d ∧ d ≤ 14 → 0 ≤ r.foldl (fun d v => max d (l.getD v.toNat 0)) d ∧ r.foldl (fun d v => max d (l.getD v.toNat 0)) d ≤ 14 := by
    intro r
    induction r with
    | nil => intro d h; exact h
    | cons v r ih =>
      intro d h
      apply ih
      have hv : 0 ≤ l.getD v.toNat 0 ∧ l.getD v.toNat 0 ≤ 14 := by
        rw [List.getD_eq_getElem?_getD]
        cases hg : l[v.toNat]? with
        | none => simp
        | some x => have := hl x (List.mem_of_getElem? hg); simp; omega
      show 0 ≤ max d (l.getD v.toNat 0) ∧ max d (l.getD v.toNat 0) ≤ 14
      omega
  exact this r 0 (by omega)
/-- The depths of the first m nodes, if all of them are right, and none too deep. -/
def deepsO (ps : List PN) : Nat → Option (List Int)
  | 0 => some []
  | m + 1 =>
    match deepsO ps m with
    | none => none
    | some l =>
      match ps[m]? with
      | none => none
      | some x => if nodeB ps m = true ∧ mxK l x.kids x.kids.length < 14 then some (l ++ [mxK l x.kids x.kids.length + 1]) else none
def DpsOk (l : List Int) (m : Nat) : Prop := l.length = m ∧ ∀ x ∈ l, 1 ≤ x ∧ x ≤ 14
theorem deepsO_ok {ps : List PN} : ∀ {m : Nat} {l : List Int}, deepsO ps m = some l → DpsOk l m := by
  intro m
  induction m with
  | zero => intro l h; unfold deepsO at h; obtain rfl := Option.some.inj h; exact ⟨rfl, fun x hx => by cases hx⟩
  | succ m ih =>
    intro l h
    unfold deepsO at h
    cases hd : deepsO ps m with
    | none => rw [hd] at h; cases h
    | some l0 =>
      rw [hd] at h
      cases hx : ps[m]? with
      | none => rw [hx] at h; cases h
      | some x =>
        rw [hx] at h
        simp only at h
        split at h
        · rename_i hc
          obtain rfl := Option.some.inj h
          obtain ⟨h1, h2⟩ := ih hd
          have := mxK_bound (kids := x.kids) h2 x.kids.length
          refine ⟨by simp [h1], fun y hy => ?_⟩
          rcases List.mem_append.1 hy with hy | hy
          · exact h2 y hy
          · obtain rfl := List.mem_singleton.1 hy; omega
        · cases h
theorem deepsO_bad {ps : List PN} {m : Nat} (h : nodeB ps m = false) : deepsO ps (m + 1) = none := by
  unfold deepsO
  cases deepsO ps m with
  | none => rfl
  | some l =>
    cases hx : ps[m]? with
    | none => rfl
    | some x => simp [h]
theorem deepsO_high {ps : List PN} {m : Nat} {l : List Int} {x : PN} (hd : deepsO ps m = some l) (hx : ps[m]? = some x) (h : ¬ mxK l x.kids x.kids.length < 14) : deepsO ps (m + 1) = none := by
  unfold deepsO; rw [hd, hx]; simp only; rw [if_neg (fun hh => h hh.2)]
theorem deepsO_more {ps : List PN} {m : Nat} {l : List Int} {x : PN} (hd : deepsO ps m = some l) (hx : ps[m]? = some x) (hb : nodeB ps m = true) (h : mxK l x.kids x.kids.length < 14) : deepsO ps (m + 1) = some (l ++ [mxK l x.kids x.kids.length + 1]) := by
  conv => lhs; unfold deepsO
  rw [hd, hx]; simp only; rw [if_pos ⟨hb, h⟩]
theorem deepsO_none {ps : List PN} {m k : Nat} (h : deepsO ps m = none) (hk : m ≤ k) : deepsO ps k = none := by
  induction k with
  | zero => obtain rfl : m = 0 := by omega
            exact h
  | succ k ih =>
    by_cases e : m = k + 1
    · subst e; exact h
    · unfold deepsO; rw [ih (by omega)]
/-- How deep node k is; 0 if it, or a node ahead, is not right. -/
def deepV (ps : List PN) (k : Nat) : Int := match deepsO ps (k + 1) with | some l => l.getD k 0 | none => 0
theorem deepV_none {ps : List PN} {m k : Nat} (h : deepsO ps m = none) (hk : m ≤ k + 1) : deepV ps k = 0 := by unfold deepV; rw [deepsO_none h hk]
theorem deepV_some {ps : List PN} {k : Nat} {l : List Int} {x : Int} (h : deepsO ps (k + 1) = some l) (hx : l[k]? = some x) : deepV ps k = x := by unfold deepV; rw [h]; simp [List.getD_eq_getElem?_getD, hx]
def deepZ (ps : List PN) (k : Int) : Int := if 0 ≤ k ∧ k < (ps.length : Int) then deepV ps k.toNat else 0
theorem nodeB_kid {ps : List PN} {m : Nat} {x : PN} (hb : nodeB ps m = true) (hx : ps[m]? = some x) {v : Int} (hv : v ∈ x.kids) : 0 ≤ v ∧ v < (m : Int) := by
  have hk : kidsB m x.kids = true := by
    cases h : kidsB m x.kids with
    | true => rfl
    | false => rw [nodeB_kids hx h] at hb; cases hb
  obtain ⟨j, hj⟩ := List.mem_iff_getElem?.1 hv
  have h1 := allIB_at hk hj
  unfold kidOk at h1
  rw [Bool.and_eq_true] at h1
  have h2 := of_decide_eq_true h1.1
  exact ⟨h2.1, by omega⟩
set_option maxHeartbeats 400000 in
theorem implDeepOf_out (A : Option Addr) (n c : Nat) (k : Int) (w : World) (hk : ¬ (0 ≤ k ∧ k < (n : Int))) :
    Calls Tryz.prog 53 #[.slice A n c, .int .i64 k] w fun e w' => e = .returned (.int .i64 0) ∧ Below w.heap.size w w' := by
  have HN := Lib.hid (fun W => isNode_is (n := n) (show inB k 0 ((n : Int) - 1) = false from decide_eq_false (by omega)) A c W)
  go_enter Tryz.func53, Tryz.ntmps53
  go_wp2_with fail
  refine (HN.out _).mono ?_
  rintro e w1 ⟨rfl, rfl⟩
  go_wp2
  go_ret
  exact ⟨rfl, (by repeat' (first | (with_reducible exact Below.refl _ _) | (with_reducible assumption) | (with_reducible refine below_drewN ?_ _) | (with_reducible refine Below.drew ?_) | (with_reducible refine Below.alloc ?_ ?_ _) | (with_reducible refine Below.setCell ?_ ?_ _) | go_size))⟩
set_option maxRecDepth 100000 in
set_option maxHeartbeats 3200000 in
theorem implDeepOf_in (A : Option Addr) (n c : Nat) (ps : List PN) (k : Nat) (w : World) (hn : n ≤ 1048576) (hps : Nps w A n ps) (hb : Hid (PNs ps)) (hk : k < n) :
    Calls Tryz.prog 53 #[.slice A n c, .int .i64 k] w fun e w' => e = .returned (.int .i64 (deepV ps k)) ∧ Below w.heap.size w w' := by
  have HP := Lib.hid hps
  have HL := Lib.hid hps.len
  obtain ⟨i0, hi, hz0, hz1, hz2⟩ := info_parts infoInt
  have hmk := fun W => run_make_rowN (P := Tryz.prog) 38 3 i0 _ Tryz.underlying38 hi hz0 .i64 .i64 (k + 1) (k + 1) (Nat.le_refl _) (by rw [hz2]; omega) (by omega) W
  rw [hz1] at hmk
  have HN := Lib.hid (fun W => isNode_is (n := n) (show inB (k : Int) 0 ((n : Int) - 1) = true from decide_eq_true (by omega)) A c W)
  have e1 : ((k + 1 : Nat) : Int) = (k : Int) + 1 := by omega
  rw [e1] at hmk
  have HDV := Lib.hid (fun m (h : deepsO ps m = none) (hm : m ≤ k + 1) => deepV_none h hm)
  have HDS := Lib.hid (fun l x (h : deepsO ps (k + 1) = some l) (hx : l[k]? = some x) => deepV_some h hx)
  generalize deepV ps k = D at HDV HDS ⊢
  clear hi hz0 hz1 hz2 hps
  go_enter Tryz.func53, Tryz.ntmps53
  go_wp2_with fail
  refine (HN.out _).mono ?_
  rintro e w1 ⟨rfl, rfl⟩
  go_wp2
  clear hmk HN
  go_loopw [19] (fun i wr => ∃ (m : Nat) (l : List Int), m ≤ k + 1 ∧ i = .int .i64 m ∧ Hid (deepsO ps m = some l) ∧ Own wr w.heap.size 3 (k + 1) (intCells l) ∧ Below w.heap.size w wr) (fun i _ => k + 1 - (intOf i).toNat)
  case atStart => exact ⟨0, [], Nat.zero_le _, rfl, rfl, Own.made (size_madeCells _ _), (by repeat' (first | (with_reducible exact Below.refl _ _) | (with_reducible assumption) | (with_reducible refine below_drewN ?_ _) | (with_reducible refine Below.drew ?_) | (with_reducible refine Below.alloc ?_ ?_ _) | (with_reducible refine Below.setCell ?_ ?_ _) | go_size))⟩
  case round =>
    obtain ⟨m, l, hm, rfl, HD, how, hbw⟩ := hrel
    have hlen := (deepsO_ok HD.out).1
    have HR := Lib.hid (deepsO_ok HD.out).2
    have HO := Lib.hid how
    clear how
    by_cases hlt : m < k + 1
    · have hlt2 : (m : Int) < (k : Int) + 1 := by omega
      have hmn : m < n := by omega
      have hmn2 : (m : Int) < n := by omega
      have HB := Lib.hid (fun (u : Bool) (h : nodeB ps m = u) => show Calls Tryz.prog 75 #[.slice A n c, .int .i64 m] wr fun e w' => e = .returned (.bool u) ∧ Below wr.heap.size wr w' by rw [← h, ← nodeZ_in (by rw [HL.out]; exact hmn)]; exact implNodeOk_any A n c ps m wr hn (HP.out.below hbw) hb)
      cases hnb : nodeB ps m with
      | false =>
        have hD : D = 0 := HDV.out (m + 1) (deepsO_bad hnb) (by omega)
        subst hD
        have HB2 := Lib.hid (HB.out _ hnb)
        clear HB hnb HDV HDS HD HR
        go_wp2_with fail
        refine HB2.out.mono ?_
        rintro e w2 ⟨rfl, h2⟩
        go_wp2
        go_ret
        exact ⟨rfl, below_next hbw h2⟩
      | true =>
        have HB2 := Lib.hid (HB.out _ hnb)
        have HNB := Lib.hid hnb
        clear HB hnb
        go_wp2_with fail
        refine HB2.out.mono ?_
        rintro e w2 ⟨rfl, h2⟩
        have hb2 := below_next hbw h2
        have HO2 := Lib.hid (HO.out.next h2)
        clear h2 hbw HO HB2
        obtain ⟨x, hx⟩ := HP.out.get hmn
        obtain ⟨b, off, A2, c2, rfl, hblt, x0, x1, x2, x3, hxr⟩ := (HP.out.below hb2).at_ hmn hx
        have hxb := (hb.out x (List.mem_of_getElem? hx)).2
        have HX := Lib.hid hx
        have HXR := Lib.hid hxr
        clear hx hxr x0 x1 x3
        go_wp2
        go_loop [7, 32] (fun s i => ∃ t : Nat, t ≤ x.kids.length ∧ s = .int .i64 (mxK l x.kids t) ∧ i = .int .i64 t) (fun _ i => x.kids.length - (intOf i).toNat)
        case atStart => exact ⟨0, Nat.zero_le _, by rw [mxK_zero], rfl⟩
        case round =>
          obtain ⟨t, ht, rfl, rfl⟩ := hrel
          have hbd := mxK_bound (kids := x.kids) HR.out t
          by_cases hlt3 : t < x.kids.length
          · obtain ⟨v, hd⟩ : ∃ d, x.kids[t]? = some d := ⟨_, List.getElem?_eq_getElem hlt3⟩
            have hv := nodeB_kid HNB.out HX.out (List.mem_of_getElem? hd)
            obtain ⟨q, rfl⟩ := Int.eq_ofNat_of_zero_le hv.1
            have hqm : q < m := by omega
            have g0 : (0 : Int) ≤ (q : Int) := by omega
            have g1 : (q : Int) < (k : Int) + 1 := by omega
            have g2 : q < k + 1 := by omega
            have gt : (t : Int) < x.kids.length := by omega
            obtain ⟨b5, off5, rfl, hblt5, cv⟩ := int_at HXR.out hlt3 hd
            obtain ⟨d, hq⟩ : ∃ d, l[q]? = some d := ⟨_, List.getElem?_eq_getElem (by omega)⟩
            have hqc := (HO2.out.rd (size := 1) (n := m) (by simp [intCells, hlen]))
            obtain ⟨b6, off6, e6, hblt6, cq⟩ := int_at hqc hqm hq
            injection e6 with e6
            injection e6 with e61 e62
            subst e61; subst e62
            simp only [Nat.zero_add] at cq
            have hst := Lib.hid (mxK_step hd hq)
            have hdb := HR.out d (List.mem_of_getElem? hq)
            clear hv hd hq hqc HDV HDS
            generalize mxK l x.kids t = M at hst hbd ⊢
            go_wp2
            go_round
            case rel => exact ⟨t + 1, by omega, by rw [hst.out], by go_num⟩
            case measure => simp [intOf]; omega
          · obtain rfl : t = x.kids.length := by omega
            have hoq := HO2.out.there (i := m) (by omega)
            obtain ⟨o0, e0⟩ := hoq
            have hgg := HO2.out.lt
            have hfz := HO2.out.frozen
            by_cases h14 : mxK l x.kids x.kids.length < 14
            · have hnx := Lib.hid (deepsO_more HD.out HX.out HNB.out h14)
              clear HDV HDS HD
              generalize mxK l x.kids x.kids.length = M at hnx hbd h14 ⊢
              have h14' : ¬ (14 : Int) ≤ M := by omega
              go_wp2
              go_roundw
              case rel => exact ⟨m + 1, l ++ [M + 1], by omega, by go_num, hnx.out, by
                have := HO2.out.push (by simp [intCells]; omega) (i := m) (by simp [intCells, hlen]) (.int .i64 (M + 1))
                simpa [intCells] using this, (by repeat' (first | (with_reducible exact Below.refl _ _) | (with_reducible assumption) | (with_reducible refine below_drewN ?_ _) | (with_reducible refine Below.drew ?_) | (with_reducible refine Below.alloc ?_ ?_ _) | (with_reducible refine Below.setCell ?_ ?_ _) | go_size))⟩
              case measure => simp [intOf]; omega
            · have hD : D = 0 := HDV.out (m + 1) (deepsO_high HD.out HX.out h14) (by omega)
              subst hD
              clear HDV HDS HD
              generalize mxK l x.kids x.kids.length = M at hbd h14 ⊢
              have h14' : (14 : Int) ≤ M := by omega
              go_wp2
              go_ret
              exact ⟨rfl, hb2⟩
    · obtain rfl : m = k + 1 := by omega
      obtain ⟨d, hq⟩ : ∃ d, l[k]? = some d := ⟨_, List.getElem?_eq_getElem (by omega)⟩
      have hD : D = d := HDS.out l d HD.out hq
      subst hD
      have hqc := (HO.out.rd (size := 1) (n := k + 1) (by simp [intCells, hlen]))
      obtain ⟨b6, off6, e6, hblt6, cq⟩ := int_at hqc (by omega) hq
      injection e6 with e6
      injection e6 with e61 e62
      subst e61; subst e62
      simp only [Nat.zero_add] at cq
      have g1 : (k : Int) < (k : Int) + 1 := by omega
      have g3 : ¬ ((k : Int) + 1 < (k : Int) + 1) := by omega
      clear HDV HDS HD hqc hq
      go_wp2
      go_ret
      exact ⟨rfl, hbw⟩
theorem implDeepOf_any (A : Option Addr) (n c : Nat) (ps : List PN) (k : Int) (w : World) (hn : n ≤ 1048576) (hps : Nps w A n ps) (hb : Hid (PNs ps)) :
    Calls Tryz.prog 53 #[.slice A n c, .int .i64 k] w fun e w' => e = .returned (.int .i64 (deepZ ps k)) ∧ Below w.heap.size w w' := by
  have hl := hps.len
  by_cases hk : 0 ≤ k ∧ k < (n : Int)
  · obtain ⟨q, rfl⟩ := Int.eq_ofNat_of_zero_le hk.1
    have : deepZ ps (q : Int) = deepV ps q := by unfold deepZ; rw [if_pos (by rw [hl]; exact hk), Int.toNat_natCast]
    rw [this]
    exact implDeepOf_in A n c ps q w hn hps hb (by omega)
  · have : deepZ ps k = 0 := by unfold deepZ; rw [if_neg (by rw [hl]; exact hk)]
    rw [this]
    exact implDeepOf_out A n c k w hk
end Go.Proofs.YtpfanhheodiamaaGreatDoor

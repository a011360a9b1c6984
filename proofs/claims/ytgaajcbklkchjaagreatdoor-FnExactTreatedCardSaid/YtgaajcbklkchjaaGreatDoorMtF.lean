/-
  Put together by program (shake.py): DeepA, DeepB, TreeA, TreeB.
-/
import Derived.Test.YtgaajcbklkchjaaGreatDoorMtE
set_option maxRecDepth 100000
set_option maxHeartbeats 25600000
set_option linter.unusedVariables false
set_option linter.unusedSimpArgs false
open Go.Lib (hid)
open Go.Proofs.Tryz
namespace Go.Proofs.YtgaajcbklkchjaaGreatDoor
open Go.RowKit
theorem Own.put {w : World} {g : Nat} {t : TypeId} {cap : Nat} {xs : List Value} (h : Own w g t cap xs) {i : Nat} (hi : i < xs.length) (u : Value) : Own (w.setCell ⟨g, i, none⟩ u) g t cap (xs.set i u) := by
 obtain ⟨rest, hb, hs⟩ := h
 refine ⟨rest, ?_, by simpa using hs⟩
 have h2 := hb.set_ i u
 have e : ((xs ++ rest).toArray).setIfInBounds i u = (xs.set i u ++ rest).toArray := by
  simp [List.set_append, hi]
 rwa [e] at h2
theorem Own.zeros {w : World} {e : TypeId} (n : Nat) : Own (w.alloc (.cells (madeCells #[.int .i64 0] n) e)) w.heap.size e n (intCells (List.replicate n 0)) :=
 ⟨[], by
  have h := Blk.new w e (madeCells #[.int .i64 0] n)
  have e1 : (intCells (List.replicate n 0) ++ []).toArray = madeCells #[.int .i64 0] n := by
   apply Array.ext'
   rw [toList_madeCells_one]
   simp [intCells]
  rw [e1]; exact h, by simp [intCells]⟩
def mxK (l : List Int) (kids : List Int) (t : Nat) : Int := (kids.take t).foldl (fun d v => max d (l.getD v.toNat 0)) 0
theorem mxK_zero (l kids : List Int) : mxK l kids 0 = 0 := by simp [mxK]
theorem mxK_step {l kids : List Int} {t q : Nat} {x : Int} (h : kids[t]? = some (q : Int)) (hx : l[q]? = some x) : mxK l kids (t + 1) = max (mxK l kids t) x := by
 unfold mxK
 rw [List.take_add_one, h, List.foldl_append]
 simp [List.getD_eq_getElem?_getD, hx]
theorem mxK_bound {l kids : List Int} (hl : ∀ x ∈ l, 1 ≤ x ∧ x ≤ 14) (t : Nat) : 0 ≤ mxK l kids t ∧ mxK l kids t ≤ 14 := by
 unfold mxK
 generalize kids.take t = r
 have : ∀ (r : List Int) (d : Int), 0 ≤ d ∧ d ≤ 14 → 0 ≤ r.foldl (fun d v => max d (l.getD v.toNat 0)) d ∧ r.foldl (fun d v => max d (l.getD v.toNat 0)) d ≤ 14 := by
  intro r
  induction r with
  | nil => intro d h; exact h
  | cons v r ih =>
   intro d h
   apply ih
   have hv : 0 ≤ l.getD v.toNat 0 ∧ l.getD v.toNat 0 ≤ 14 := by
    rw [List.getD_eq_getElem?_getD]
    cases hg : l[v.toNat]? with
    | none => simp
    | some x => have := hl x (List.mem_of_getElem? hg); simp; omega
   show 0 ≤ max d (l.getD v.toNat 0) ∧ max d (l.getD v.toNat 0) ≤ 14
   omega
 exact this r 0 (by omega)
def deepsO (ps : List PN) : Nat → Option (List Int)
 | 0 => some []
 | m + 1 =>
  match deepsO ps m with
  | none => none
  | some l =>
   match ps[m]? with
   | none => none
   | some x => if nodeB ps m = true ∧ mxK l x.kids x.kids.length < 14 then some (l ++ [mxK l x.kids x.kids.length + 1]) else none
def DpsOk (l : List Int) (m : Nat) : Prop := l.length = m ∧ ∀ x ∈ l, 1 ≤ x ∧ x ≤ 14
theorem deepsO_ok {ps : List PN} : ∀ {m : Nat} {l : List Int}, deepsO ps m = some l → DpsOk l m := by
 intro m
 induction m with
 | zero => intro l h; unfold deepsO at h; obtain rfl := Option.some.inj h; exact ⟨rfl, fun x hx => by cases hx⟩
 | succ m ih =>
  intro l h
  unfold deepsO at h
  cases hd : deepsO ps m with
  | none => rw [hd] at h; cases h
  | some l0 =>
   rw [hd] at h
   cases hx : ps[m]? with
   | none => rw [hx] at h; cases h
   | some x =>
    rw [hx] at h
    simp only at h
    split at h
    ·rename_i hc
     obtain rfl := Option.some.inj h
     obtain ⟨h1, h2⟩ := ih hd
     have := mxK_bound (kids := x.kids) h2 x.kids.length
     refine ⟨by simp [h1], fun y hy => ?_⟩
     rcases List.mem_append.1 hy with hy | hy
     ·exact h2 y hy
     ·obtain rfl := List.mem_singleton.1 hy; omega
    ·cases h
theorem deepsO_bad {ps : List PN} {m : Nat} (h : nodeB ps m = false) : deepsO ps (m + 1) = none := by
 unfold deepsO
 cases deepsO ps m with
 | none => rfl
 | some l =>
  cases hx : ps[m]? with
  | none => rfl
  | some x => simp [h]
theorem deepsO_high {ps : List PN} {m : Nat} {l : List Int} {x : PN} (hd : deepsO ps m = some l) (hx : ps[m]? = some x) (h : ¬ mxK l x.kids x.kids.length < 14) : deepsO ps (m + 1) = none := by
 unfold deepsO; rw [hd, hx]; simp only; rw [if_neg (fun hh => h hh.2)]
theorem deepsO_more {ps : List PN} {m : Nat} {l : List Int} {x : PN} (hd : deepsO ps m = some l) (hx : ps[m]? = some x) (hb : nodeB ps m = true) (h : mxK l x.kids x.kids.length < 14) : deepsO ps (m + 1) = some (l ++ [mxK l x.kids x.kids.length + 1]) := by
 conv => lhs; unfold deepsO
 rw [hd, hx]; simp only; rw [if_pos ⟨hb, h⟩]
theorem deepsO_none {ps : List PN} {m k : Nat} (h : deepsO ps m = none) (hk : m ≤ k) : deepsO ps k = none := by
 induction k with
 | zero =>
    obtain rfl : m = 0 := by omega
    exact h
 | succ k ih =>
  by_cases e : m = k + 1
  ·subst e; exact h
  ·unfold deepsO; rw [ih (by omega)]
def deepV (ps : List PN) (k : Nat) : Int := match deepsO ps (k + 1) with | some l => l.getD k 0 | none => 0
theorem deepV_none {ps : List PN} {m k : Nat} (h : deepsO ps m = none) (hk : m ≤ k + 1) : deepV ps k = 0 := by unfold deepV; rw [deepsO_none h hk]
theorem deepV_some {ps : List PN} {k : Nat} {l : List Int} {x : Int} (h : deepsO ps (k + 1) = some l) (hx : l[k]? = some x) : deepV ps k = x := by unfold deepV; rw [h]; simp [List.getD_eq_getElem?_getD, hx]
def deepZ (ps : List PN) (k : Int) : Int := if 0 ≤ k ∧ k < (ps.length : Int) then deepV ps k.toNat else 0
theorem nodeB_kid {ps : List PN} {m : Nat} {x : PN} (hb : nodeB ps m = true) (hx : ps[m]? = some x) {v : Int} (hv : v ∈ x.kids) : 0 ≤ v ∧ v < (m : Int) := by
 have hk : kidsB m x.kids = true := by
  cases h : kidsB m x.kids with
  | true => rfl
  | false => rw [nodeB_kids hx h] at hb; cases hb
 obtain ⟨j, hj⟩ := List.mem_iff_getElem?.1 hv
 have h1 := allIB_at hk hj
 unfold kidOk at h1
 rw [Bool.and_eq_true] at h1
 have h2 := of_decide_eq_true h1.1
 exact ⟨h2.1, by omega⟩
theorem implDeepOf_out (A : Option Addr) (n c : Nat) (k : Int) (w : World) (hk : ¬ (0 ≤ k ∧ k < (n : Int))) :
  Calls prog 99 #[.slice A n c, .int .i64 k] w fun e w' => e = .returned (.int .i64 0) ∧ Below w.heap.size w w' := by
 have HN := hid (fun W => isNode_is (n := n) (show inB k 0 ((n : Int) - 1) = false from decide_eq_false (by omega)) A c W)
 go_enter func99, ntmps99
 go_wp2_with fail
 refine (HN.out _).mono ?_
 rintro e w1 ⟨rfl, rfl⟩
 go_wp2
 go_ret
 exact ⟨rfl, grow_⟩
theorem implDeepOf_in (A : Option Addr) (n c : Nat) (ps : List PN) (k : Nat) (w : World) (hn : n ≤ 1048576) (hps : Nps w A n ps) (hb : Hid (PNs ps)) (hk : k < n) :
  Calls prog 99 #[.slice A n c, .int .i64 k] w fun e w' => e = .returned (.int .i64 (deepV ps k)) ∧ Below w.heap.size w w' := by
 have HP := hid hps
 have HL := hid hps.len
 obtain ⟨i0, hi, hz0, hz1, hz2⟩ := info_parts infoInt
 have hmk := fun W => run_make_rowN (P := prog) 37 3 i0 _ underlying37 hi hz0 .i64 .i64 (k + 1) (k + 1) (Nat.le_refl _) (by rw [hz2]; omega) (by omega) W
 rw [hz1] at hmk
 have HN := hid (fun W => isNode_is (n := n) (show inB (k : Int) 0 ((n : Int) - 1) = true from decide_eq_true (by omega)) A c W)
 have e1 : ((k + 1 : Nat) : Int) = (k : Int) + 1 := by omega
 rw [e1] at hmk
 have HDV := hid (fun m (h : deepsO ps m = none) (hm : m ≤ k + 1) => deepV_none h hm)
 have HDS := hid (fun l x (h : deepsO ps (k + 1) = some l) (hx : l[k]? = some x) => deepV_some h hx)
 generalize deepV ps k = D at HDV HDS ⊢
 clear hi hz0 hz1 hz2 hps
 go_enter func99, ntmps99
 go_wp2_with fail
 refine (HN.out _).mono ?_
 rintro e w1 ⟨rfl, rfl⟩
 go_wp2
 clear hmk HN
 go_loopw [19] (fun i wr => ∃ (m : Nat) (l : List Int), m ≤ k + 1 ∧ i = .int .i64 m ∧ Hid (deepsO ps m = some l) ∧ Own wr w.heap.size 3 (k + 1) (intCells l) ∧ Below w.heap.size w wr) (fun i _ => k + 1 - (intOf i).toNat)
 case atStart => exact ⟨0, [], Nat.zero_le _, rfl, rfl, Own.made (size_madeCells _ _), grow_⟩
 case round =>
  obtain ⟨m, l, hm, rfl, HD, how, hbw⟩ := hrel
  have hlen := (deepsO_ok HD.out).1
  have HR := hid (deepsO_ok HD.out).2
  have HO := hid how
  clear how
  by_cases hlt : m < k + 1
  ·have hlt2 : (m : Int) < (k : Int) + 1 := by omega
   have hmn : m < n := by omega
   have hmn2 : (m : Int) < n := by omega
   have HB := hid (fun (u : Bool) (h : nodeB ps m = u) => show Calls prog 145 #[.slice A n c, .int .i64 m] wr fun e w' => e = .returned (.bool u) ∧ Below wr.heap.size wr w' by rw [← h, ← nodeZ_in (by rw [HL.out]; exact hmn)]; exact implNodeOk_any A n c ps m wr hn (HP.out.below hbw) hb)
   cases hnb : nodeB ps m with
   | false =>
    have hD : D = 0 := HDV.out (m + 1) (deepsO_bad hnb) (by omega)
    subst hD
    have HB2 := hid (HB.out _ hnb)
    clear HB hnb HDV HDS HD HR
    go_wp2_with fail
    refine HB2.out.mono ?_
    rintro e w2 ⟨rfl, h2⟩
    go_wp2
    go_ret
    exact ⟨rfl, below_next hbw h2⟩
   | true =>
    have HB2 := hid (HB.out _ hnb)
    have HNB := hid hnb
    clear HB hnb
    go_wp2_with fail
    refine HB2.out.mono ?_
    rintro e w2 ⟨rfl, h2⟩
    have hb2 := below_next hbw h2
    have HO2 := hid (HO.out.next h2)
    clear h2 hbw HO HB2
    obtain ⟨x, hx⟩ := HP.out.get hmn
    obtain ⟨b, off, A2, c2, rfl, hblt, x0, x1, x2, x3, hxr⟩ := (HP.out.below hb2).at_ hmn hx
    have hxb := (hb.out x (List.mem_of_getElem? hx)).2
    have HX := hid hx
    have HXR := hid hxr
    clear hx hxr x0 x1 x3
    go_wp2
    go_loop [7, 32] (fun s i => ∃ t : Nat, t ≤ x.kids.length ∧ s = .int .i64 (mxK l x.kids t) ∧ i = .int .i64 t) (fun _ i => x.kids.length - (intOf i).toNat)
    case atStart => exact ⟨0, Nat.zero_le _, by rw [mxK_zero], rfl⟩
    case round =>
     obtain ⟨t, ht, rfl, rfl⟩ := hrel
     have hbd := mxK_bound (kids := x.kids) HR.out t
     by_cases hlt3 : t < x.kids.length
     ·obtain ⟨v, hd⟩ : ∃ d, x.kids[t]? = some d := ⟨_, List.getElem?_eq_getElem hlt3⟩
      have hv := nodeB_kid HNB.out HX.out (List.mem_of_getElem? hd)
      obtain ⟨q, rfl⟩ := Int.eq_ofNat_of_zero_le hv.1
      have hqm : q < m := by omega
      have g0 : (0 : Int) ≤ (q : Int) := by omega
      have g1 : (q : Int) < (k : Int) + 1 := by omega
      have g2 : q < k + 1 := by omega
      have gt : (t : Int) < x.kids.length := by omega
      obtain ⟨b5, off5, rfl, hblt5, cv⟩ := int_at HXR.out hlt3 hd
      obtain ⟨d, hq⟩ : ∃ d, l[q]? = some d := ⟨_, gE (by omega)⟩
      have hqc := (HO2.out.rd (size := 1) (n := m) (by simp [intCells, hlen]))
      obtain ⟨b6, off6, e6, hblt6, cq⟩ := int_at hqc hqm hq
      injection e6 with e6
      injection e6 with e61 e62
      subst e61; subst e62
      simp only [Nat.zero_add] at cq
      have hst := hid (mxK_step hd hq)
      have hdb := HR.out d (List.mem_of_getElem? hq)
      clear hv hd hq hqc HDV HDS
      generalize mxK l x.kids t = M at hst hbd ⊢
      go_wp2
      go_round
      case rel => exact ⟨t + 1, by omega, by rw [hst.out], by go_num⟩
      case measure => simp [intOf]; omega
     ·obtain rfl : t = x.kids.length := by omega
      have hoq := HO2.out.there (i := m) (by omega)
      obtain ⟨o0, e0⟩ := hoq
      have hgg := HO2.out.lt
      have hfz := HO2.out.frozen
      by_cases h14 : mxK l x.kids x.kids.length < 14
      ·have hnx := hid (deepsO_more HD.out HX.out HNB.out h14)
       clear HDV HDS HD
       generalize mxK l x.kids x.kids.length = M at hnx hbd h14 ⊢
       have h14' : ¬ (14 : Int) ≤ M := by omega
       go_wp2
       go_roundw
       case rel => exact ⟨m + 1, l ++ [M + 1], by omega, by go_num, hnx.out, by
        have := HO2.out.push (by simp [intCells]; omega) (i := m) (by simp [intCells, hlen]) (.int .i64 (M + 1))
        simpa [intCells] using this, grow_⟩
       case measure => simp [intOf]; omega
      ·have hD : D = 0 := HDV.out (m + 1) (deepsO_high HD.out HX.out h14) (by omega)
       subst hD
       clear HDV HDS HD
       generalize mxK l x.kids x.kids.length = M at hbd h14 ⊢
       have h14' : (14 : Int) ≤ M := by omega
       go_wp2
       go_ret
       exact ⟨rfl, hb2⟩
  ·obtain rfl : m = k + 1 := by omega
   obtain ⟨d, hq⟩ : ∃ d, l[k]? = some d := ⟨_, gE (by omega)⟩
   have hD : D = d := HDS.out l d HD.out hq
   subst hD
   have hqc := (HO.out.rd (size := 1) (n := k + 1) (by simp [intCells, hlen]))
   obtain ⟨b6, off6, e6, hblt6, cq⟩ := int_at hqc (by omega) hq
   injection e6 with e6
   injection e6 with e61 e62
   subst e61; subst e62
   simp only [Nat.zero_add] at cq
   have g1 : (k : Int) < (k : Int) + 1 := by omega
   have g3 : ¬ ((k : Int) + 1 < (k : Int) + 1) := by omega
   clear HDV HDS HD hqc hq
   go_wp2
   go_ret
   exact ⟨rfl, hbw⟩
theorem implDeepOf_any (A : Option Addr) (n c : Nat) (ps : List PN) (k : Int) (w : World) (hn : n ≤ 1048576) (hps : Nps w A n ps) (hb : Hid (PNs ps)) :
  Calls prog 99 #[.slice A n c, .int .i64 k] w fun e w' => e = .returned (.int .i64 (deepZ ps k)) ∧ Below w.heap.size w w' := by
 have hl := hps.len
 by_cases hk : 0 ≤ k ∧ k < (n : Int)
 ·obtain ⟨q, rfl⟩ := Int.eq_ofNat_of_zero_le hk.1
  have : deepZ ps (q : Int) = deepV ps q := by unfold deepZ; rw [if_pos (by rw [hl]; exact hk), Int.toNat_natCast]
  rw [this]
  exact implDeepOf_in A n c ps q w hn hps hb (by omega)
 ·have : deepZ ps k = 0 := by unfold deepZ; rw [if_neg (by rw [hl]; exact hk)]
  rw [this]
  exact implDeepOf_out A n c k w hk
def SpL (ps : List PN) (m : Nat) (out : List Int) : Prop := out.length = m ∧ (∀ x ∈ out, 0 ≤ x ∧ x ≤ 14) ∧ (deepsO ps m = some out ∨ (deepsO ps m = none ∧ 0 < m ∧ out[m - 1]? = some 0))
theorem spl_zero (ps : List PN) : SpL ps 0 [] := ⟨rfl, (fun x hx => by cases hx), .inl rfl⟩
theorem spl_bad {ps : List PN} {m : Nat} {out : List Int} (h : SpL ps m out) (hd : deepsO ps (m + 1) = none) : SpL ps (m + 1) (out ++ [0]) := by
 refine ⟨by simp [h.1], fun x hx => ?_, .inr ⟨hd, by omega, ?_⟩⟩
 ·rcases List.mem_append.1 hx with hx | hx
  ·exact h.2.1 x hx
  ·obtain rfl := List.mem_singleton.1 hx; omega
 ·rw [Nat.add_sub_cancel, List.getElem?_append_right (by rw [h.1]; exact Nat.le_refl _), h.1, Nat.sub_self]; rfl
theorem spl_good {ps : List PN} {m : Nat} {out : List Int} {d : Int} (hd : deepsO ps (m + 1) = some (out ++ [d])) : SpL ps (m + 1) (out ++ [d]) := by
 obtain ⟨h1, h2⟩ := deepsO_ok hd
 exact ⟨h1, fun x hx => by have := h2 x hx; omega, .inl hd⟩
def goodI (ps : List PN) (m : Nat) : Bool := nodeB ps m && (deepsO ps m).isSome
theorem deepsO_notgood {ps : List PN} {m : Nat} (h : goodI ps m = false) : deepsO ps (m + 1) = none := by
 unfold goodI at h
 cases hn : nodeB ps m with
 | false => exact deepsO_bad hn
 | true =>
  rw [hn, Bool.true_and] at h
  cases hd : deepsO ps m with
  | none => exact deepsO_none hd (by omega)
  | some l => rw [hd] at h; cases h
theorem l05Deeps_any (A : Option Addr) (n c : Nat) (ps : List PN) (k : Nat) (w : World) (hn : n ≤ 1048576) (hps : Nps w A n ps) (hb : Hid (PNs ps)) (hk : k < n) :
  Calls prog 144 #[.slice A n c, .int .i64 k] w fun e w' => ∃ A' c' out, e = .returned (.slice A' (k + 1) c') ∧ Rd w' 1 A' (k + 1) (intCells out) ∧ Hid (SpL ps (k + 1) out) ∧ Below w.heap.size w w' := by
 have HP := hid hps
 have HL := hid hps.len
 obtain ⟨i0, hi, hz0, hz1, hz2⟩ := info_parts infoInt
 have HI := hid (And.intro hi (And.intro hz0 (And.intro hz1 hz2)))
 have hO0 : Mine (w.alloc (.cells #[] 3)) w.heap.size 3 1 (some ⟨w.heap.size, 0, none⟩) 0 0 (intCells []) := own_empty w 3 1
 clear hi hz0 hz1 hz2 hps
 go_enter func144, ntmps144
 go_wp2
 go_loopw [5, 6] (fun s i wr => ∃ (m : Nat) (out : List Int) (A5 : Option Addr) (c5 : Nat), m ≤ k + 1 ∧ s = .slice A5 m c5 ∧ i = .int .i64 m ∧ Mine wr w.heap.size 3 1 A5 m c5 (intCells out) ∧ SpL ps m out ∧ Below w.heap.size w wr) (fun _ i _ => k + 1 - (intOf i).toNat)
 case atStart => exact ⟨0, [], _, _, Nat.zero_le _, rfl, rfl, hO0, spl_zero ps, grow_⟩
 case round =>
  clear hO0
  obtain ⟨m, out, A5, c5, hm, rfl, rfl, hM, hS, hbw⟩ := hrel
  have HM0 := hid hM
  have HS := hid hS
  clear hM hS
  by_cases hlt : m < k + 1
  ·have hlt2 : (m : Int) ≤ k := by omega
   have hmn : m < n := by omega
   have hmn2 : (m : Int) < n := by omega
   have HB := hid (fun (u : Bool) (h : nodeB ps m = u) => show Calls prog 174 #[.slice A n c, .int .i64 m] wr fun e w' => e = .returned (.bool u) ∧ Below wr.heap.size wr w' by rw [← h, ← nodes_agree]; exact specNodeOk_in A n c ps m wr hn (HP.out.below hbw) hb hmn)
   go_upto_region 6 with fail
   go_cut [36] (fun s wx => s = .bool (!goodI ps m) ∧ Mine wx w.heap.size 3 1 A5 m c5 (intCells out) ∧ Below w.heap.size w wx)
   case first =>
    clear hlt2 hmn2
    cases hnb : nodeB ps m with
    | false =>
     have HB2 := hid (HB.out _ hnb)
     have hgd : goodI ps m = false := by unfold goodI; rw [hnb]; rfl
     clear HB hnb
     go_wp2_with fail
     refine HB2.out.mono ?_
     rintro e w2 ⟨rfl, h2⟩
     go_wp2
     go_meet
     case rel => exact ⟨by rw [hgd]; rfl, HM0.out.next h2, below_next hbw h2⟩
    | true =>
     have HB2 := hid (HB.out _ hnb)
     by_cases hm0 : m = 0
     ·subst hm0
      have hgd : goodI ps 0 = true := by unfold goodI; rw [hnb]; rfl
      clear HB hnb
      go_wp2_with fail
      refine HB2.out.mono ?_
      rintro e w2 ⟨rfl, h2⟩
      go_wp2
      go_meet
      case rel => exact ⟨by rw [hgd]; rfl, HM0.out.next h2, below_next hbw h2⟩
     ·obtain ⟨m1, rfl⟩ : ∃ m1, m = m1 + 1 := ⟨m - 1, by omega⟩
      have g0 : (0 : Int) < ((m1 + 1 : Nat) : Int) := by omega
      have g1 : ((m1 + 1 : Nat) : Int) - 1 = (m1 : Int) := by omega
      have g2 : (m1 : Int) < ((m1 + 1 : Nat) : Int) := by omega
      obtain ⟨d, hq⟩ : ∃ d, out[m1]? = some d := ⟨_, gE (by have := HS.out.1; omega)⟩
      by_cases hd0 : d = 0
      ·have hgd : goodI ps (m1 + 1) = false := by
        unfold goodI
        rcases HS.out.2.2 with h | ⟨h, _⟩
        ·have := (deepsO_ok h).2 d (List.mem_of_getElem? hq); omega
        ·rw [h, hnb]; rfl
       subst hd0
       clear HB hnb
       go_wp2_with fail
       refine HB2.out.mono ?_
       rintro e w2 ⟨rfl, h2⟩
       have hM2 := HM0.out.next h2
       obtain ⟨b6, off6, rfl, hblt6, cq⟩ := int_at hM2.rd (by omega) hq
       go_wp2
       go_meet
       case rel => exact ⟨by rw [hgd]; rfl, hM2, below_next hbw h2⟩
      ·have hgd : goodI ps (m1 + 1) = true := by
        unfold goodI
        rcases HS.out.2.2 with h | ⟨h, _, h3⟩
        ·rw [h, hnb]; rfl
        ·rw [Nat.add_sub_cancel, hq] at h3; exact absurd (Option.some.inj h3) hd0
       have hd1 : (d == 0) = false := by rw [beq_eq_false_iff_ne]; exact hd0
       clear HB hnb
       go_wp2_with fail
       refine HB2.out.mono ?_
       rintro e w2 ⟨rfl, h2⟩
       have hM2 := HM0.out.next h2
       obtain ⟨b6, off6, rfl, hblt6, cq⟩ := int_at hM2.rd (by omega) hq
       go_wp2
       go_meet
       case rel => exact ⟨by rw [hgd]; rfl, hM2, below_next hbw h2⟩
   case rest =>
    clear HM0 hbw HB
    obtain ⟨rfl, hM, hb2⟩ := hcut
    have HM := hid hM
    clear hM
    obtain ⟨x, hx⟩ := HP.out.get hmn
    obtain ⟨b, off, A2, c2, rfl, hblt, x0, x1, x2, x3, hxr⟩ := (HP.out.below hb2).at_ hmn hx
    have hxb := (hb.out x (List.mem_of_getElem? hx)).2
    have HX := hid hx
    have HXR := hid hxr
    clear hx hxr x0 x1 x3
    cases hgd : goodI ps m with
    | false =>
     have hsp := hid (spl_bad HS.out (deepsO_notgood hgd))
     simp only [Bool.not_false]
     clear HS hgd
     go_wp2
     go_loop [7, 8] (fun s i => s = .int .i64 0 ∧ i = .int .i64 0) (fun _ i => 0)
     case atStart => exact ⟨rfl, rfl⟩
     case round =>
      obtain ⟨rfl, rfl⟩ := hrel
      go_wp2_with (at_builtin; (refine wpList_append_own _ rfl (.tmp 79) (.tmp 81) _ rfl w.heap.size 3 i0 (.int .i64 0) 1 8 underlying37 HI.out.1 HI.out.2.1 HI.out.2.2.1 HI.out.2.2.2 rfl (by decide) _ _ _ rfl (Mine.alloc HM.out _) ⟨wc.heap.size, 0, none⟩ 1 1 [.int .i64 0] rfl rfl (cell1_new _ _ _) (fun x hx => by simp at hx; subst hx; rfl) (by unfold maxLen; omega) (by omega) (by have := hb2.size; simp; omega) ?_); intro v' w3 hown3 hg3 hnil3)
      have hb3 := hb2.alloc hb2.size (.cells #[.int .i64 0] 3)
      have hb4 : Below w.heap.size w w3 := hb3.grown hg3 hb3.size (fun g hg => own_blk HM.out hg)
      obtain ⟨A7, c7, rfl, m3⟩ := Mine.of hown3
      have HM3 := hid m3
      clear hown3 hg3 hnil3 hb3 m3
      go_wp2
      go_roundw
      case rel => exact ⟨m + 1, out ++ [0], A7, c7, by omega, rfl, by go_num, by simpa [intCells] using HM3.out, hsp.out, hb4⟩
      case measure => simp [intOf]; omega
    | true =>
     have hnb : nodeB ps m = true := by unfold goodI at hgd; rw [Bool.and_eq_true] at hgd; exact hgd.1
     have hds : deepsO ps m = some out := by
      rcases HS.out.2.2 with h | ⟨h, _⟩
      ·exact h
      ·unfold goodI at hgd; rw [h] at hgd; simp at hgd
     have HNB := hid hnb
     have HD := hid hds
     have hlen := (deepsO_ok hds).1
     have HR := hid (deepsO_ok hds).2
     simp only [Bool.not_true]
     clear hgd hnb hds
     go_wp2
     go_loop [7, 8] (fun s i => ∃ t : Nat, t ≤ x.kids.length ∧ s = .int .i64 (mxK out x.kids t + 1) ∧ i = .int .i64 t) (fun _ i => x.kids.length - (intOf i).toNat)
     case atStart => exact ⟨0, Nat.zero_le _, by rw [mxK_zero]; rfl, rfl⟩
     case round =>
      obtain ⟨t, ht, rfl, rfl⟩ := hrel
      have hbd := mxK_bound (kids := x.kids) HR.out t
      by_cases hlt3 : t < x.kids.length
      ·obtain ⟨v, hd⟩ : ∃ d, x.kids[t]? = some d := ⟨_, List.getElem?_eq_getElem hlt3⟩
       have hv := nodeB_kid HNB.out HX.out (List.mem_of_getElem? hd)
       obtain ⟨q, rfl⟩ := Int.eq_ofNat_of_zero_le hv.1
       have hqm : q < m := by omega
       have g0 : (0 : Int) ≤ (q : Int) := by omega
       have g1 : (q : Int) < (m : Int) := by omega
       have gt : (t : Int) < x.kids.length := by omega
       obtain ⟨b5, off5, rfl, hblt5, cv⟩ := int_at HXR.out hlt3 hd
       obtain ⟨d, hq⟩ : ∃ d, out[q]? = some d := ⟨_, gE (by omega)⟩
       obtain ⟨b6, off6, rfl, hblt6, cq⟩ := int_at HM.out.rd hqm hq
       have hst := hid (mxK_step hd hq)
       have hdb := HR.out d (List.mem_of_getElem? hq)
       clear hv hd hq
       generalize mxK out x.kids t = M at hst hbd ⊢
       have hpos : (0 : Int) < M + 1 := by omega
       by_cases hgt : M + 1 < d + 1
       ·have hmx := hid (show max M d = d by omega)
        go_wp2
        go_round
        case rel => exact ⟨t + 1, by omega, by rw [hst.out, hmx.out], by go_num⟩
        case measure => simp [intOf]; omega
       ·have hmx := hid (show max M d = M by omega)
        go_wp2
        go_round
        case rel => exact ⟨t + 1, by omega, by rw [hst.out, hmx.out], by go_num⟩
        case measure => simp [intOf]; omega
      ·obtain rfl : t = x.kids.length := by omega
       by_cases h14 : mxK out x.kids x.kids.length < 14
       ·have hnx := hid (spl_good (deepsO_more HD.out HX.out HNB.out h14))
        clear HS HD HR HNB
        generalize mxK out x.kids x.kids.length = M at hnx hbd h14 ⊢
        have h14' : ¬ (14 : Int) < M + 1 := by omega
        have hpos : (0 : Int) < M + 1 := by omega
        go_wp2_with (at_builtin; (refine wpList_append_own _ rfl (.tmp 79) (.tmp 81) _ rfl w.heap.size 3 i0 (.int .i64 0) 1 8 underlying37 HI.out.1 HI.out.2.1 HI.out.2.2.1 HI.out.2.2.2 rfl (by decide) _ _ _ rfl (Mine.alloc HM.out _) ⟨wc.heap.size, 0, none⟩ 1 1 [.int .i64 (M + 1)] rfl rfl (cell1_new _ _ _) (fun x hx => by simp at hx; subst hx; rfl) (by unfold maxLen; omega) (by omega) (by have := hb2.size; simp; omega) ?_); intro v' w3 hown3 hg3 hnil3)
        have hb3 := hb2.alloc hb2.size (.cells #[.int .i64 (M + 1)] 3)
        have hb4 : Below w.heap.size w w3 := hb3.grown hg3 hb3.size (fun g hg => own_blk HM.out hg)
        obtain ⟨A7, c7, rfl, m3⟩ := Mine.of hown3
        have HM3 := hid m3
        clear hown3 hg3 hnil3 hb3 m3
        go_wp2
        go_roundw
        case rel => exact ⟨m + 1, out ++ [(M + 1)], A7, c7, by omega, rfl, by go_num, by simpa [intCells] using HM3.out, hnx.out, hb4⟩
        case measure => simp [intOf]; omega
       ·have hnx := hid (spl_bad HS.out (deepsO_high HD.out HX.out h14))
        clear HS HD HR HNB
        generalize mxK out x.kids x.kids.length = M at hbd h14 ⊢
        have h14' : (14 : Int) < M + 1 := by omega
        have hpos : (0 : Int) < M + 1 := by omega
        go_wp2_with (at_builtin; (refine wpList_append_own _ rfl (.tmp 79) (.tmp 81) _ rfl w.heap.size 3 i0 (.int .i64 0) 1 8 underlying37 HI.out.1 HI.out.2.1 HI.out.2.2.1 HI.out.2.2.2 rfl (by decide) _ _ _ rfl (Mine.alloc HM.out _) ⟨wc.heap.size, 0, none⟩ 1 1 [.int .i64 0] rfl rfl (cell1_new _ _ _) (fun x hx => by simp at hx; subst hx; rfl) (by unfold maxLen; omega) (by omega) (by have := hb2.size; simp; omega) ?_); intro v' w3 hown3 hg3 hnil3)
        have hb3 := hb2.alloc hb2.size (.cells #[.int .i64 0] 3)
        have hb4 : Below w.heap.size w w3 := hb3.grown hg3 hb3.size (fun g hg => own_blk HM.out hg)
        obtain ⟨A7, c7, rfl, m3⟩ := Mine.of hown3
        have HM3 := hid m3
        clear hown3 hg3 hnil3 hb3 m3
        go_wp2
        go_roundw
        case rel => exact ⟨m + 1, out ++ [0], A7, c7, by omega, rfl, by go_num, by simpa [intCells] using HM3.out, hnx.out, hb4⟩
        case measure => simp [intOf]; omega
  ·obtain rfl : m = k + 1 := by omega
   have g3 : ¬ (((k + 1 : Nat) : Int) ≤ (k : Int)) := by omega
   go_wp2
   go_ret
   have hfin := HM0.out.rd
   exact ⟨A5, ⟨c5, rfl⟩, out, hfin, HS, hbw⟩
theorem spl_at {ps : List PN} {k : Nat} {out : List Int} (h : SpL ps (k + 1) out) : out[k]? = some (deepV ps k) := by
 obtain ⟨h1, h2, h3⟩ := h
 rcases h3 with h | ⟨h, _, h4⟩
 ·obtain ⟨d, hd⟩ : ∃ d, out[k]? = some d := ⟨_, gE (by omega)⟩
  rw [deepV_some h hd, hd]
 ·rw [deepV_none h (Nat.le_refl _)]; exact h4
theorem specDeepOf_any (A : Option Addr) (n c : Nat) (ps : List PN) (k : Int) (w : World) (hn : n ≤ 1048576) (hps : Nps w A n ps) (hb : Hid (PNs ps)) :
  Calls prog 98 #[.slice A n c, .int .i64 k] w fun e w' => e = .returned (.int .i64 (deepZ ps k)) ∧ Below w.heap.size w w' := by
 have hl := hps.len
 by_cases hk : 0 ≤ k ∧ k < (n : Int)
 ·obtain ⟨q, rfl⟩ := Int.eq_ofNat_of_zero_le hk.1
  have hz : deepZ ps (q : Int) = deepV ps q := by unfold deepZ; rw [if_pos (by rw [hl]; exact hk), Int.toNat_natCast]
  rw [hz]
  have HN := hid (fun W => l01In_is' (show inB (q : Int) 0 ((n : Int) - 1) = true from decide_eq_true (by omega)) W)
  have HD := hid (fun c => l05Deeps_any A n c ps q w hn hps hb (by omega))
  clear hps
  go_enter func98, ntmps98
  go_wp2_with fail
  refine (HN.out _).mono ?_
  rintro e w1 ⟨rfl, rfl⟩
  go_wp2_with fail
  refine (HD.out _).mono ?_
  rintro e w2 ⟨A', c', out, rfl, hr, hs, h2⟩
  obtain ⟨b, off, rfl, hblt, cq⟩ := int_at hr (by omega : q < q + 1) (spl_at hs.out)
  have g0 : (0 : Int) ≤ (q : Int) := by omega
  have g1 : (q : Int) < ((q + 1 : Nat) : Int) := by omega
  clear hr hs HD
  go_wp2
  go_ret
  exact ⟨rfl, h2⟩
 ·have hz : deepZ ps k = 0 := by unfold deepZ; rw [if_neg (by rw [hl]; exact hk)]
  rw [hz]
  have HN := hid (fun W => l01In_is' (show inB k 0 ((n : Int) - 1) = false from decide_eq_false (by omega)) W)
  go_enter func98, ntmps98
  go_wp2_with fail
  refine (HN.out _).mono ?_
  rintro e w1 ⟨rfl, rfl⟩
  go_wp2
  go_ret
  exact ⟨rfl, grow_⟩
def useL (F : List Int) (n : Nat) : List Int := (List.range n).map (fun (j : Nat) => ((F.count (j : Int) : Nat) : Int))
theorem useL_len (F : List Int) (n : Nat) : (useL F n).length = n := by simp [useL]
theorem useL_nil (n : Nat) : useL [] n = List.replicate n 0 := by
 unfold useL
 apply List.ext_getElem
 ·simp
 ·intro i h1 h2; simp
theorem useL_get {F : List Int} {n q : Nat} (h : q < n) : (useL F n)[q]? = some ((F.count (q : Int) : Nat) : Int) := by
 unfold useL
 rw [List.getElem?_map, List.getElem?_range h]; rfl
theorem useL_push {F : List Int} {n q : Nat} (h : q < n) : (intCells (useL F n)).set q (.int .i64 ((F.count (q : Int) : Nat) + 1 : Int)) = intCells (useL (F ++ [(q : Int)]) n) := by
 unfold intCells
 apply List.ext_getElem?
 intro i
 rw [List.getElem?_set, List.getElem?_map, List.getElem?_map]
 by_cases hi : i < n
 ·rw [useL_get hi, useL_get hi]
  by_cases hq : q = i
  ·subst hq
   rw [if_pos rfl, if_pos (by simp [useL_len]; exact h)]
   simp
  ·rw [if_neg hq]
   have : List.count (i : Int) [(q : Int)] = 0 := by
    rw [List.count_singleton]; simp; omega
   simp [List.count_append, this]
 ·have e1 : (useL F n)[i]? = none := List.getElem?_eq_none (by rw [useL_len]; omega)
  have e2 : (useL (F ++ [(q : Int)]) n)[i]? = none := List.getElem?_eq_none (by rw [useL_len]; omega)
  rw [e1, e2, if_neg (by omega)]
def kidsTo (ps : List PN) (m : Nat) : List Int := (ps.take m).flatMap PN.kids
theorem kidsTo_zero (ps : List PN) : kidsTo ps 0 = [] := rfl
theorem kidsTo_step {ps : List PN} {m : Nat} {x : PN} (h : ps[m]? = some x) : kidsTo ps (m + 1) = kidsTo ps m ++ x.kids := by
 unfold kidsTo; rw [List.take_add_one, h]; simp
theorem kidsTo_len {ps : List PN} (h : ∀ p ∈ ps, p.kids.length ≤ 12) (m : Nat) : (kidsTo ps m).length ≤ 12 * m := by
 induction m with
 | zero => simp [kidsTo]
 | succ m ih =>
  cases hx : ps[m]? with
  | none =>
   have : kidsTo ps (m + 1) = kidsTo ps m := by unfold kidsTo; rw [List.take_add_one, hx]; simp
   rw [this]; omega
  | some x =>
   rw [kidsTo_step hx, lA]
   have := h x (List.mem_of_getElem? hx)
   omega
def usedTo (ps : List PN) (n j : Nat) : Prop := ∀ (i : Nat), i < j → ((kidsTo ps n).count (i : Int)) = 1
def usedB (ps : List PN) (n : Nat) : Bool := (List.range (n - 1)).all (fun (j : Nat) => (kidsTo ps n).count (j : Int) == 1)
theorem usedB_yes {ps : List PN} {n : Nat} (h : usedTo ps n (n - 1)) : usedB ps n = true := by
 unfold usedB; rw [List.all_eq_true]
 intro j hj
 rw [List.mem_range] at hj
 rw [beq_iff_eq]; exact h j hj
theorem usedB_no {ps : List PN} {n j : Nat} (hj : j < n - 1) (h : ¬ (kidsTo ps n).count (j : Int) = 1) : usedB ps n = false := by
 unfold usedB; rw [List.all_eq_false]
 exact ⟨j, List.mem_range.2 hj, by simp; exact h⟩
def treeB (ps : List PN) : Bool := inB (ps.length : Int) 1 300 && ((kindAt ps ((ps.length : Int) - 1) == 22) && (!(deepV ps (ps.length - 1) == 0) && usedB ps ps.length))
theorem deepsO_all {ps : List PN} : ∀ {m : Nat} {l : List Int}, deepsO ps m = some l → ∀ i, i < m → nodeB ps i = true := by
 intro m
 induction m with
 | zero => intro l h i hi; omega
 | succ m ih =>
  intro l h i hi
  cases hd : deepsO ps m with
  | none => rw [deepsO_none hd (Nat.le_succ m)] at h; cases h
  | some l0 =>
   by_cases hm : i = m
   ·subst hm
    cases hn : nodeB ps i with
    | true => rfl
    | false => rw [deepsO_bad hn] at h; cases h
   ·exact ih hd i (by omega)
theorem deep_all {ps : List PN} {k : Nat} (h : ¬ deepV ps k = 0) : ∀ i, i ≤ k → nodeB ps i = true := by
 unfold deepV at h
 cases hd : deepsO ps (k + 1) with
 | none => rw [hd] at h; exact absurd rfl h
 | some l => exact fun i hi => deepsO_all hd i (by omega)
theorem nodeB_many12 {ps : List PN} {m : Nat} {x : PN} (hb : nodeB ps m = true) (hx : ps[m]? = some x) : x.kids.length ≤ 12 := by
 by_cases h : x.kids.length ≤ 12
 ·exact h
 ·rw [nodeB_many hx h] at hb; cases hb
def Good (ps : List PN) : Prop := ∀ (m : Nat) (x : PN), ps[m]? = some x → x.kids.length ≤ 12 ∧ ∀ v ∈ x.kids, 0 ≤ v ∧ v < (m : Int)
theorem good_of {ps : List PN} (h : ¬ deepV ps (ps.length - 1) = 0) : Good ps := fun m x hx => by
 have hl := (List.getElem?_eq_some_iff.1 hx).1
 have hb := deep_all h m (by omega)
 exact ⟨nodeB_many12 hb hx, fun v hv => nodeB_kid hb hx hv⟩
theorem Good.len {ps : List PN} (h : Good ps) : ∀ p ∈ ps, p.kids.length ≤ 12 := fun p hp => by
 obtain ⟨j, hj⟩ := List.mem_iff_getElem?.1 hp
 exact (h j p hj).1
theorem count_le' (F : List Int) (v : Int) : F.count v ≤ F.length := List.count_le_length
theorem implTreeOk_any (A : Option Addr) (n c : Nat) (ps : List PN) (w : World) (hn : n ≤ 1048576) (hps : Nps w A n ps) (hb : Hid (PNs ps)) :
  Calls prog 56 #[.slice A n c] w fun e w' => e = .returned (.bool (treeB ps)) ∧ Below w.heap.size w w' := by
 have HP := hid hps
 have HL := hid hps.len
 have HTB : Hid (treeB ps = (inB (n : Int) 1 300 && ((kindAt ps ((n : Int) - 1) == 22) && (!(deepV ps (n - 1) == 0) && usedB ps n)))) := (show _ = _ by unfold treeB; rw [HL.out])
 generalize treeB ps = T at HTB ⊢
 clear hps
 by_cases hin : 1 ≤ n ∧ n ≤ 300
 ·have HI1 := hid (fun W => inRange_is (show inB (n : Int) 1 300 = true from decide_eq_true (by omega)) W)
  obtain ⟨m0, rfl⟩ : ∃ m0, n = m0 + 1 := ⟨n - 1, by omega⟩
  have e1 : ((m0 + 1 : Nat) : Int) - 1 = (m0 : Int) := by omega
  obtain ⟨x, hx⟩ := HP.out.get (show m0 < m0 + 1 by omega)
  obtain ⟨b, off, A2, c2, rfl, hblt, x0, x1, x2, x3, hxr⟩ := HP.out.at_ (show m0 < m0 + 1 by omega) hx
  have hka := kindAt_some hx
  replace HTB : Hid (T = ((x.kind == 22) && (!(deepV ps m0 == 0) && usedB ps (m0 + 1)))) := (show _ = _ by
   rw [HTB.out, show inB ((m0 + 1 : Nat) : Int) 1 300 = true from decide_eq_true (by omega), e1, hka, Nat.add_sub_cancel, Bool.true_and])
  have g1 : (m0 : Int) < ((m0 + 1 : Nat) : Int) := by omega
  have g0 : (0 : Int) ≤ (m0 : Int) := by omega
  clear hka hxr x1 x2 x3
  cases h22 : (x.kind == 22) with
  | false =>
   have hT : T = false := by rw [HTB.out, h22]; rfl
   subst hT
   have h22' : (x.kind != 22) = true := by unfold bne; rw [h22]; rfl
   clear HTB h22
   go_enter func56, ntmps56
   go_wp2_with fail
   refine (HI1.out _).mono ?_
   rintro e w1 ⟨rfl, rfl⟩
   go_wp2
   go_ret
   exact ⟨rfl, grow_⟩
  | true =>
   have h22' : (x.kind != 22) = false := by unfold bne; rw [h22]; rfl
   replace HTB : Hid (T = (!(deepV ps m0 == 0) && usedB ps (m0 + 1))) := (show _ = _ by rw [HTB.out, h22, Bool.true_and])
   have hdz : deepZ ps (m0 : Int) = deepV ps m0 := by unfold deepZ; rw [if_pos (by rw [HL.out]; omega), Int.toNat_natCast]
   have HDP := hid (fun W (hW : Below w.heap.size w W) => show Calls prog 99 #[.slice (some ⟨b, off, none⟩) (m0 + 1) c, .int .i64 m0] W fun e w' => e = .returned (.int .i64 (deepV ps m0)) ∧ Below W.heap.size W w' by rw [← hdz]; exact implDeepOf_any _ (m0 + 1) c ps m0 W hn (HP.out.below hW) hb)
   clear h22 hdz
   by_cases hd0 : deepV ps m0 = 0
   ·have hT : T = false := by rw [HTB.out, hd0]; rfl
    subst hT
    rw [hd0] at HDP
    clear HTB hd0
    go_enter func56, ntmps56
    go_wp2_with fail
    refine (HI1.out _).mono ?_
    rintro e w1 ⟨rfl, rfl⟩
    go_wp2_with fail
    refine (HDP.out _ (Below.refl _ _)).mono ?_
    rintro e w2 ⟨rfl, h2⟩
    go_wp2
    go_ret
    exact ⟨rfl, h2⟩
   ·have hdb : (deepV ps m0 == 0) = false := by rw [beq_eq_false_iff_ne]; exact hd0
    have HG := hid (good_of (ps := ps) (by rw [HL.out, Nat.add_sub_cancel]; exact hd0))
    replace HTB : Hid (T = usedB ps (m0 + 1)) := (show _ = _ by rw [HTB.out, hdb]; rfl)
    generalize deepV ps m0 = D at HDP hdb hd0
    obtain ⟨i0, hi, hz0, hz1, hz2⟩ := info_parts infoInt
    have hmk := fun W => run_make_rowN (P := prog) 37 3 i0 _ underlying37 hi hz0 .i64 .i64 (m0 + 1) (m0 + 1) (Nat.le_refl _) (by rw [hz2]; omega) (by omega) W
    rw [hz1, Nat.mul_one] at hmk
    simp only [Value.cells] at hmk
    have e9 : ((m0 + 1 : Nat) : Int) = (m0 : Int) + 1 := by omega
    rw [e9] at hmk
    have HKL := hid (kidsTo_len HG.out.len)
    clear hi hz0 hz1 hz2 hd0
    go_enter func56, ntmps56
    go_wp2_with fail
    refine (HI1.out _).mono ?_
    rintro e w1 ⟨rfl, rfl⟩
    go_wp2_with fail
    refine (HDP.out _ (Below.refl _ _)).mono ?_
    rintro e w2 ⟨rfl, h2⟩
    clear HDP HI1 hblt x0
    go_wp2
    clear hmk
    have hsz2 := h2.size
    have hZ := Own.zeros (w := w2) (e := 3) (m0 + 1)
    go_loopw [36] (fun i wr => ∃ m : Nat, m ≤ m0 + 1 ∧ i = .int .i64 m ∧ Own wr w2.heap.size 3 (m0 + 1) (intCells (useL (kidsTo ps m) (m0 + 1))) ∧ Below w.heap.size w wr) (fun i _ => m0 + 1 - (intOf i).toNat)
    case atStart => exact ⟨0, Nat.zero_le _, rfl, by rw [kidsTo_zero, useL_nil]; exact hZ, grow_⟩
    case round =>
     clear hZ
     obtain ⟨m, hm, rfl, how, hbw⟩ := hrel
     have hg0 := h2.size
     by_cases hlt : m < m0 + 1
     ·have hlt2 : (m : Int) < ((m0 + 1 : Nat) : Int) := by omega
      obtain ⟨y, hy⟩ := HP.out.get hlt
      obtain ⟨b3, off3, A3, c3, e3, hblt3, y0, y1, y2, y3, hyr⟩ := HP.out.at_ hlt hy
      injection e3 with e3
      injection e3 with e31 e32
      subst e31; subst e32
      obtain ⟨hcb, hfb⟩ := bcell hbw
      have hyg := HG.out m y hy
      have HY := hid hy
      have HYR := hid hyr
      have hYL := hid (kidsTo_step hy)
      have how2 := how.alloc (.cells #[.int .i64 y.kind, .string y.text, .slice A3 y.kids.length c3, .bool y.blank] 48)
      have hszr := hbw.size
      have hbw2 : Below w.heap.size w (wr.alloc (.cells #[.int .i64 y.kind, .string y.text, .slice A3 y.kids.length c3, .bool y.blank] 48)) := grow_
      have hkm := HKL.out m
      obtain ⟨hy12, hyv⟩ := hyg
      have HYV := hid hyv
      clear how hy hyr hyv
      go_wp2
      clear hcb hfb y0 y1 y2 y3 hblt3 hbw
      go_loopw [43] (fun i w3 => ∃ t : Nat, t ≤ y.kids.length ∧ i = .int .i64 t ∧ Own w3 w2.heap.size 3 (m0 + 1) (intCells (useL (kidsTo ps m ++ y.kids.take t) (m0 + 1))) ∧ Below w.heap.size w w3) (fun i _ => y.kids.length - (intOf i).toNat)
      case atStart => exact ⟨0, Nat.zero_le _, rfl, by simpa using how2, hbw2⟩
      case round =>
       clear how2 hbw2
       obtain ⟨t, ht, rfl, how, hbw⟩ := hrel
       by_cases hlt3 : t < y.kids.length
       ·obtain ⟨v, hd⟩ : ∃ d, y.kids[t]? = some d := ⟨_, List.getElem?_eq_getElem hlt3⟩
        have hv := HYV.out v (List.mem_of_getElem? hd)
        obtain ⟨q, rfl⟩ := Int.eq_ofNat_of_zero_le hv.1
        have hqm : q < m0 + 1 := by omega
        have k0 : (0 : Int) ≤ (q : Int) := by omega
        have k1 : (q : Int) < ((m0 + 1 : Nat) : Int) := by omega
        have gt : (t : Int) < y.kids.length := by omega
        obtain ⟨b5, off5, rfl, hblt5, cv⟩ := int_at (HYR.out.below hbw) hlt3 hd
        have hqc := (how.rd (size := 1) (n := m0 + 1) (by simp [intCells, useL_len]))
        obtain ⟨b6, off6, e6, hblt6, cq⟩ := int_at hqc hqm (useL_get hqm)
        injection e6 with e6
        injection e6 with e61 e62
        subst e61; subst e62
        simp only [Nat.zero_add] at cq
        have hpush := hid (useL_push (F := kidsTo ps m ++ y.kids.take t) hqm)
        have hput := hid (how.put (i := q) (by simp [intCells, useL_len]; exact hqm) (.int .i64 (((kidsTo ps m ++ y.kids.take t).count (q : Int) : Nat) + 1 : Int)))
        have hcl := count_le' (kidsTo ps m ++ y.kids.take t) (q : Int)
        have hll : (kidsTo ps m ++ y.kids.take t).length ≤ 12 * m + 12 := by rw [lA, List.length_take]; omega
        have htk := hid (show y.kids.take (t + 1) = y.kids.take t ++ [(q : Int)] by rw [List.take_add_one, hd]; rfl)
        have hgg := how.lt
        have hfz := how.frozen
        clear hv hd hqc how
        generalize hN : (kidsTo ps m ++ y.kids.take t).count (q : Int) = N at *
        clear hN
        have hN2 : N ≤ 3624 := by omega
        go_wp2
        go_roundw
        case rel => exact ⟨t + 1, by omega, by go_num, by rw [htk.out, ← List.append_assoc, ← hpush.out]; exact hput.out, grow_⟩
        case measure => simp [intOf]; omega
       ·obtain rfl : t = y.kids.length := by omega
        rw [List.take_length, ← hYL.out] at how
        have HO := hid how
        clear how
        go_wp2
        go_roundw
        case rel => exact ⟨m + 1, by omega, by go_num, HO.out, hbw⟩
        case measure => simp [intOf]; omega
     ·obtain rfl : m = m0 + 1 := by omega
      have hgg := how.lt
      have hqc := hid (how.rd (size := 1) (n := m0 + 1) (by simp [intCells, useL_len]))
      clear how
      have e5 : ((m0 + 1 : Nat) : Int) - 1 = (m0 : Int) := by omega
      go_wp2
      go_loop [60] (fun i => ∃ j : Nat, j ≤ m0 ∧ i = .int .i64 j ∧ Hid (usedTo ps (m0 + 1) j)) (fun i => m0 - (intOf i).toNat)
      case atStart => exact ⟨0, Nat.zero_le _, rfl, (show ∀ i, _ from fun i hi => absurd hi (by omega))⟩
      case round =>
       obtain ⟨j, hj, rfl, HU⟩ := hrel
       by_cases hjl : j < m0
       ·obtain ⟨b6, off6, e6, hblt6, cq⟩ := int_at hqc.out (show j < m0 + 1 by omega) (useL_get (show j < m0 + 1 by omega))
        injection e6 with e6
        injection e6 with e61 e62
        subst e61; subst e62
        simp only [Nat.zero_add] at cq
        have gj : (j : Int) < m0 := by omega
        by_cases h1 : (kidsTo ps (m0 + 1)).count (j : Int) = 1
        ·have hU2 : Hid (usedTo ps (m0 + 1) (j + 1)) := (show ∀ i, _ from fun i hi => by
          by_cases e : i = j
          ·subst e; exact h1
          ·exact HU.out i (by omega))
         rw [h1] at cq
         clear HTB HU h1
         go_wp2
         go_round
         case rel => exact ⟨j + 1, by omega, by go_num, hU2⟩
         case measure => simp [intOf]; omega
        ·have hT : T = false := by rw [HTB.out]; exact usedB_no (by omega) h1
         subst hT
         have hne : ((((kidsTo ps (m0 + 1)).count (j : Int) : Nat) : Int) != 1) = true := by rw [bne_iff_ne]; omega
         have hne2 : ((((kidsTo ps (m0 + 1)).count (j : Int) : Nat) : Int) == 1) = false := by rw [beq_eq_false_iff_ne]; omega
         clear HTB HU
         generalize (kidsTo ps (m0 + 1)).count (j : Int) = N at *
         go_wp2
         go_ret
         exact ⟨rfl, hbw⟩
       ·obtain rfl : j = m0 := by omega
        have hT : T = true := by rw [HTB.out]; exact usedB_yes (by simpa using HU.out)
        subst hT
        clear HTB HU
        go_wp2
        go_ret
        exact ⟨rfl, hbw⟩
 ·have HI1 := hid (fun W => inRange_is (show inB (n : Int) 1 300 = false from decide_eq_false (by omega)) W)
  have hT : T = false := by rw [HTB.out, show inB (n : Int) 1 300 = false from decide_eq_false (by omega)]; rfl
  subst hT
  clear HTB
  go_enter func56, ntmps56
  go_wp2_with fail
  refine (HI1.out _).mono ?_
  rintro e w1 ⟨rfl, rfl⟩
  go_wp2
  go_ret
  exact ⟨rfl, grow_⟩
theorem specTreeOk_any (A : Option Addr) (n c : Nat) (ps : List PN) (w : World) (hn : n ≤ 1048576) (hps : Nps w A n ps) (hb : Hid (PNs ps)) :
  Calls prog 54 #[.slice A n c] w fun e w' => e = .returned (.bool (treeB ps)) ∧ Below w.heap.size w w' := by
 have HP := hid hps
 have HL := hid hps.len
 have HTB : Hid (treeB ps = (inB (n : Int) 1 300 && ((kindAt ps ((n : Int) - 1) == 22) && (!(deepV ps (n - 1) == 0) && usedB ps n)))) := (show _ = _ by unfold treeB; rw [HL.out])
 generalize treeB ps = T at HTB ⊢
 clear hps
 by_cases hin : 1 ≤ n ∧ n ≤ 300
 ·have HI1 := hid (fun W => l01In_is' (show inB (n : Int) 1 300 = true from decide_eq_true (by omega)) W)
  obtain ⟨m0, rfl⟩ : ∃ m0, n = m0 + 1 := ⟨n - 1, by omega⟩
  have e1 : ((m0 + 1 : Nat) : Int) - 1 = (m0 : Int) := by omega
  obtain ⟨x, hx⟩ := HP.out.get (show m0 < m0 + 1 by omega)
  obtain ⟨b, off, A2, c2, rfl, hblt, x0, x1, x2, x3, hxr⟩ := HP.out.at_ (show m0 < m0 + 1 by omega) hx
  have hka := kindAt_some hx
  replace HTB : Hid (T = ((x.kind == 22) && (!(deepV ps m0 == 0) && usedB ps (m0 + 1)))) := (show _ = _ by
   rw [HTB.out, show inB ((m0 + 1 : Nat) : Int) 1 300 = true from decide_eq_true (by omega), e1, hka, Nat.add_sub_cancel, Bool.true_and])
  have g1 : (m0 : Int) < ((m0 + 1 : Nat) : Int) := by omega
  have g0 : (0 : Int) ≤ (m0 : Int) := by omega
  clear hka hxr x1 x2 x3
  cases h22 : (x.kind == 22) with
  | false =>
   have hT : T = false := by rw [HTB.out, h22]; rfl
   subst hT
   have h22' : (x.kind != 22) = true := by unfold bne; rw [h22]; rfl
   clear HTB h22
   go_enter func54, ntmps54
   go_wp2_with fail
   refine (HI1.out _).mono ?_
   rintro e w1 ⟨rfl, rfl⟩
   go_wp2
   go_ret
   exact ⟨rfl, grow_⟩
  | true =>
   have h22' : (x.kind != 22) = false := by unfold bne; rw [h22]; rfl
   replace HTB : Hid (T = (!(deepV ps m0 == 0) && usedB ps (m0 + 1))) := (show _ = _ by rw [HTB.out, h22, Bool.true_and])
   have hdz : deepZ ps (m0 : Int) = deepV ps m0 := by unfold deepZ; rw [if_pos (by rw [HL.out]; omega), Int.toNat_natCast]
   have HDP := hid (fun W (hW : Below w.heap.size w W) => show Calls prog 98 #[.slice (some ⟨b, off, none⟩) (m0 + 1) c, .int .i64 m0] W fun e w' => e = .returned (.int .i64 (deepV ps m0)) ∧ Below W.heap.size W w' by rw [← hdz]; exact specDeepOf_any _ (m0 + 1) c ps m0 W hn (HP.out.below hW) hb)
   clear h22 hdz
   by_cases hd0 : deepV ps m0 = 0
   ·have hT : T = false := by rw [HTB.out, hd0]; rfl
    subst hT
    rw [hd0] at HDP
    clear HTB hd0
    go_enter func54, ntmps54
    go_wp2_with fail
    refine (HI1.out _).mono ?_
    rintro e w1 ⟨rfl, rfl⟩
    go_wp2_with fail
    refine (HDP.out _ (Below.refl _ _)).mono ?_
    rintro e w2 ⟨rfl, h2⟩
    go_wp2
    go_ret
    exact ⟨rfl, h2⟩
   ·have hdb : (deepV ps m0 == 0) = false := by rw [beq_eq_false_iff_ne]; exact hd0
    have HG := hid (good_of (ps := ps) (by rw [HL.out, Nat.add_sub_cancel]; exact hd0))
    replace HTB : Hid (T = usedB ps (m0 + 1)) := (show _ = _ by rw [HTB.out, hdb]; rfl)
    generalize deepV ps m0 = D at HDP hdb hd0
    obtain ⟨i0, hi, hz0, hz1, hz2⟩ := info_parts infoInt
    have hmk := fun W => run_make_rowN (P := prog) 37 3 i0 _ underlying37 hi hz0 .i64 .i64 (m0 + 1) (m0 + 1) (Nat.le_refl _) (by rw [hz2]; omega) (by omega) W
    rw [hz1, Nat.mul_one] at hmk
    simp only [Value.cells] at hmk
    have e9 : ((m0 + 1 : Nat) : Int) = (m0 : Int) + 1 := by omega
    rw [e9] at hmk
    have HKL := hid (kidsTo_len HG.out.len)
    clear hi hz0 hz1 hz2 hd0
    go_enter func54, ntmps54
    go_wp2_with fail
    refine (HI1.out _).mono ?_
    rintro e w1 ⟨rfl, rfl⟩
    go_wp2_with fail
    refine (HDP.out _ (Below.refl _ _)).mono ?_
    rintro e w2 ⟨rfl, h2⟩
    clear HDP HI1 hblt x0
    go_wp2
    clear hmk
    have hsz2 := h2.size
    have hZ := Own.zeros (w := w2) (e := 3) (m0 + 1)
    go_loopw [5] (fun i wr => ∃ m : Nat, m ≤ m0 + 1 ∧ i = .int .i64 m ∧ Own wr w2.heap.size 3 (m0 + 1) (intCells (useL (kidsTo ps m) (m0 + 1))) ∧ Below w.heap.size w wr) (fun i _ => m0 + 1 - (intOf i).toNat)
    case atStart => exact ⟨0, Nat.zero_le _, rfl, by rw [kidsTo_zero, useL_nil]; exact hZ, grow_⟩
    case round =>
     clear hZ
     obtain ⟨m, hm, rfl, how, hbw⟩ := hrel
     have hg0 := h2.size
     by_cases hlt : m < m0 + 1
     ·have hlt2 : (m : Int) < ((m0 + 1 : Nat) : Int) := by omega
      obtain ⟨y, hy⟩ := HP.out.get hlt
      obtain ⟨b3, off3, A3, c3, e3, hblt3, y0, y1, y2, y3, hyr⟩ := HP.out.at_ hlt hy
      injection e3 with e3
      injection e3 with e31 e32
      subst e31; subst e32
      obtain ⟨hcb, hfb⟩ := bcell hbw
      have hyg := HG.out m y hy
      have HY := hid hy
      have HYR := hid hyr
      have hYL := hid (kidsTo_step hy)
      have how2 := how
      have hszr := hbw.size
      have hbw2 := hbw
      have hkm := HKL.out m
      obtain ⟨hy12, hyv⟩ := hyg
      have HYV := hid hyv
      clear how hy hyr hyv
      go_wp2
      clear hcb hfb hbw
      go_loopw [6] (fun i w3 => ∃ t : Nat, t ≤ y.kids.length ∧ i = .int .i64 t ∧ Own w3 w2.heap.size 3 (m0 + 1) (intCells (useL (kidsTo ps m ++ y.kids.take t) (m0 + 1))) ∧ Below w.heap.size w w3) (fun i _ => y.kids.length - (intOf i).toNat)
      case atStart => exact ⟨0, Nat.zero_le _, rfl, by simpa using how2, hbw2⟩
      case round =>
       clear how2 hbw2
       obtain ⟨t, ht, rfl, how, hbw⟩ := hrel
       obtain ⟨hcb, hfb⟩ := bcell hbw
       by_cases hlt3 : t < y.kids.length
       ·obtain ⟨v, hd⟩ : ∃ d, y.kids[t]? = some d := ⟨_, List.getElem?_eq_getElem hlt3⟩
        have hv := HYV.out v (List.mem_of_getElem? hd)
        obtain ⟨q, rfl⟩ := Int.eq_ofNat_of_zero_le hv.1
        have hqm : q < m0 + 1 := by omega
        have k0 : (0 : Int) ≤ (q : Int) := by omega
        have k1 : (q : Int) < ((m0 + 1 : Nat) : Int) := by omega
        have gt : (t : Int) < y.kids.length := by omega
        obtain ⟨b5, off5, rfl, hblt5, cv⟩ := int_at (HYR.out.below hbw) hlt3 hd
        have hqc := (how.rd (size := 1) (n := m0 + 1) (by simp [intCells, useL_len]))
        obtain ⟨b6, off6, e6, hblt6, cq⟩ := int_at hqc hqm (useL_get hqm)
        injection e6 with e6
        injection e6 with e61 e62
        subst e61; subst e62
        simp only [Nat.zero_add] at cq
        have hpush := hid (useL_push (F := kidsTo ps m ++ y.kids.take t) hqm)
        have hput := hid (how.put (i := q) (by simp [intCells, useL_len]; exact hqm) (.int .i64 (((kidsTo ps m ++ y.kids.take t).count (q : Int) : Nat) + 1 : Int)))
        have hcl := count_le' (kidsTo ps m ++ y.kids.take t) (q : Int)
        have hll : (kidsTo ps m ++ y.kids.take t).length ≤ 12 * m + 12 := by rw [lA, List.length_take]; omega
        have htk := hid (show y.kids.take (t + 1) = y.kids.take t ++ [(q : Int)] by rw [List.take_add_one, hd]; rfl)
        have hgg := how.lt
        have hfz := how.frozen
        clear hv hd hqc how
        generalize hN : (kidsTo ps m ++ y.kids.take t).count (q : Int) = N at *
        clear hN
        have hN2 : N ≤ 3624 := by omega
        go_wp2
        go_roundw
        case rel => exact ⟨t + 1, by omega, by go_num, by rw [htk.out, ← List.append_assoc, ← hpush.out]; exact hput.out, grow_⟩
        case measure => simp [intOf]; omega
       ·obtain rfl : t = y.kids.length := by omega
        rw [List.take_length, ← hYL.out] at how
        have HO := hid how
        clear how
        go_wp2
        go_roundw
        case rel => exact ⟨m + 1, by omega, by go_num, HO.out, hbw⟩
        case measure => simp [intOf]; omega
     ·obtain rfl : m = m0 + 1 := by omega
      have hgg := how.lt
      have hqc := hid (how.rd (size := 1) (n := m0 + 1) (by simp [intCells, useL_len]))
      clear how
      clear HP
      go_wp2
      go_loop [7] (fun i => ∃ j : Nat, j ≤ m0 ∧ i = .int .i64 j ∧ Hid (usedTo ps (m0 + 1) j)) (fun i => m0 - (intOf i).toNat)
      case atStart => exact ⟨0, Nat.zero_le _, rfl, (show ∀ i, _ from fun i hi => absurd hi (by omega))⟩
      case round =>
       obtain ⟨j, hj, rfl, HU⟩ := hrel
       by_cases hjl : j < m0
       ·obtain ⟨b6, off6, e6, hblt6, cq⟩ := int_at hqc.out (show j < m0 + 1 by omega) (useL_get (show j < m0 + 1 by omega))
        injection e6 with e6
        injection e6 with e61 e62
        subst e61; subst e62
        simp only [Nat.zero_add] at cq
        have gj : (j : Int) + 1 < (m0 : Int) + 1 := by omega
        have gj2 : (j : Int) < (m0 : Int) + 1 := by omega
        by_cases h1 : (kidsTo ps (m0 + 1)).count (j : Int) = 1
        ·have hU2 : Hid (usedTo ps (m0 + 1) (j + 1)) := (show ∀ i, _ from fun i hi => by
          by_cases e : i = j
          ·subst e; exact h1
          ·exact HU.out i (by omega))
         rw [h1] at cq
         clear HTB HU h1
         go_wp2
         go_round
         case rel => exact ⟨j + 1, by omega, by go_num, hU2⟩
         case measure => simp [intOf]; omega
        ·have hT : T = false := by rw [HTB.out]; exact usedB_no (by omega) h1
         subst hT
         have hne : ((((kidsTo ps (m0 + 1)).count (j : Int) : Nat) : Int) != 1) = true := by rw [bne_iff_ne]; omega
         have hne2 : ((((kidsTo ps (m0 + 1)).count (j : Int) : Nat) : Int) == 1) = false := by rw [beq_eq_false_iff_ne]; omega
         clear HTB HU
         generalize (kidsTo ps (m0 + 1)).count (j : Int) = N at *
         go_wp2
         go_ret
         exact ⟨rfl, hbw⟩
       ·obtain rfl : j = m0 := by omega
        have gj : ¬ ((j : Int) + 1 < (j : Int) + 1) := by omega
        have hT : T = true := by rw [HTB.out]; exact usedB_yes (by simpa using HU.out)
        subst hT
        clear HTB HU
        go_wp2
        go_ret
        exact ⟨rfl, hbw⟩
 ·have HI1 := hid (fun W => l01In_is' (show inB (n : Int) 1 300 = false from decide_eq_false (by omega)) W)
  have hT : T = false := by rw [HTB.out, show inB (n : Int) 1 300 = false from decide_eq_false (by omega)]; rfl
  subst hT
  clear HTB
  go_enter func54, ntmps54
  go_wp2_with fail
  refine (HI1.out _).mono ?_
  rintro e w1 ⟨rfl, rfl⟩
  go_wp2
  go_ret
  exact ⟨rfl, grow_⟩
end Go.Proofs.YtgaajcbklkchjaaGreatDoor


/-
  Contracts: calls among the kids of a node (impl.isNode, callsFit).
-/
import Derived.Test.YtpfanhheodiamaaGreatDoorShapeA
namespace Go.Proofs.YtpfanhheodiamaaGreatDoor
open Go.RowKit
set_option linter.unusedVariables false
set_option linter.unusedSimpArgs false

/-- The kind of a node by its number. -/
def kindAt (ps : List PN) (j : Int) : Int := match ps[j.toNat]? with | some z => z.kind | none => 0
theorem kindAt_some {ps : List PN} {j : Nat} {z : PN} (h : ps[j]? = some z) : kindAt ps (j : Int) = z.kind := by unfold kindAt; rw [Int.toNat_natCast, h]
/-- Is a kid at a place, if it is a call, as a call must be? -/
def callOk (ps : List PN) (kind : Int) (i : Nat) (kid : Int) : Bool :=
  match ps[kid.toNat]? with
  | some y => if y.kind = 5 then (match y.kids with | [] => false | j :: _ => inB j 0 ((ps.length : Int) - 1) && (!(kind == 10 && decide (0 < i)) || kindAt ps j == 1)) else true
  | none => false
section
variable {ps : List PN} {kind : Int} {i k : Nat} {y z : PN} {j : Int} {js : List Int}
theorem callOk_other (h : ps[k]? = some y) (h5 : ¬ y.kind = 5) : callOk ps kind i (k : Int) = true := by unfold callOk; rw [Int.toNat_natCast, h]; simp only; rw [if_neg h5]
theorem callOk_bare (h : ps[k]? = some y) (h5 : y.kind = 5) (hk : y.kids = []) : callOk ps kind i (k : Int) = false := by unfold callOk; rw [Int.toNat_natCast, h]; simp only; rw [if_pos h5, hk]
theorem callOk_out (h : ps[k]? = some y) (h5 : y.kind = 5) (hk : y.kids = j :: js) (hj : inB j 0 ((ps.length : Int) - 1) = false) : callOk ps kind i (k : Int) = false := by unfold callOk; rw [Int.toNat_natCast, h]; simp only; rw [if_pos h5, hk]; simp only; rw [hj, Bool.false_and]
theorem callOk_in (h : ps[k]? = some y) (h5 : y.kind = 5) (hk : y.kids = j :: js) (hj : inB j 0 ((ps.length : Int) - 1) = true) : callOk ps kind i (k : Int) = (!(kind == 10 && decide (0 < i)) || kindAt ps j == 1) := by unfold callOk; rw [Int.toNat_natCast, h]; simp only; rw [if_pos h5, hk]; simp only; rw [hj, Bool.true_and]
end
/-- All elements are as wanted at their places. -/
def allIB (p : Nat → Int → Bool) (l : List Int) : Bool := l.zipIdx.all (fun q => p q.2 q.1)
theorem allIB_no {p : Nat → Int → Bool} {l : List Int} {k : Nat} {x : Int} (hx : l[k]? = some x) (hp : p k x = false) : allIB p l = false := by
  unfold allIB
  rw [List.all_eq_false]
  exact ⟨(x, k), by rw [List.mem_zipIdx_iff_getElem?]; exact hx, by simp [hp]⟩
theorem allIB_yes {p : Nat → Int → Bool} {l : List Int} (h : ∀ j x, l[j]? = some x → p j x = true) : allIB p l = true := by
  unfold allIB
  rw [List.all_eq_true]
  rintro ⟨x, j⟩ hm
  rw [List.mem_zipIdx_iff_getElem?] at hm
  exact h j x hm
theorem allIB_at {p : Nat → Int → Bool} {l : List Int} {k : Nat} {x : Int} (h : allIB p l = true) (hx : l[k]? = some x) : p k x = true := by
  cases hp : p k x with
  | true => rfl
  | false => rw [allIB_no hx hp] at h; cases h
theorem allIB_congr {p q : Nat → Int → Bool} {l : List Int} (h : ∀ j x, l[j]? = some x → p j x = q j x) : allIB p l = allIB q l := by
  cases hq : allIB q l with
  | true => exact allIB_yes (fun j x hx => by rw [h j x hx]; exact allIB_at hq hx)
  | false =>
    cases hp : allIB p l with
    | false => rfl
    | true => rw [allIB_yes (fun j x hx => by rw [← h j x hx]; exact allIB_at hp hx)] at hq; cases hq
/-- Those ahead of k are as wanted. -/
def AllI (p : Nat → Int → Bool) (l : List Int) (k : Nat) : Prop := ∀ j x, j < k → l[j]? = some x → p j x = true
theorem allI_zero (p : Nat → Int → Bool) (l : List Int) : AllI p l 0 := fun j x h => absurd h (by omega)
theorem allI_step {p : Nat → Int → Bool} {l : List Int} {k : Nat} {x : Int} (h : AllI p l k) (hx : l[k]? = some x) (hp : p k x = true) : AllI p l (k + 1) := by
  intro j y hj hy
  by_cases e : j = k
  · subst e; rw [hx] at hy; obtain rfl := Option.some.inj hy; exact hp
  · exact h j y (by omega) hy
theorem allI_all {p : Nat → Int → Bool} {l : List Int} {k : Nat} (h : AllI p l k) (hk : l.length ≤ k) : allIB p l = true :=
  allIB_yes (fun j x hx => h j x (by have := (List.getElem?_eq_some_iff.1 hx).1; omega) hx)
def callsB (ps : List PN) (kind : Int) (kids : List Int) : Bool := allIB (callOk ps kind) kids

set_option maxHeartbeats 400000 in
theorem isNode_any (A : Option Addr) (n c : Nat) (j : Int) (w : World) : Calls Tryz.prog 23 #[.slice A n c, .int .i64 j] w fun e w' => e = .returned (.bool (inB j 0 ((n : Int) - 1))) ∧ w = w' := by
  by_cases h0 : 0 ≤ j
  · by_cases h1 : j < n
    · rw [inB_yes h0 (by omega)]
      go_enter Tryz.func23, Tryz.ntmps23
      go_wp2
      go_ret
      exact ⟨rfl, rfl⟩
    · rw [inB_hi (by omega)]
      go_enter Tryz.func23, Tryz.ntmps23
      go_wp2
      go_ret
      exact ⟨rfl, rfl⟩
  · rw [inB_lo h0]
    go_enter Tryz.func23, Tryz.ntmps23
    go_wp2
    go_ret
    exact ⟨rfl, rfl⟩
theorem isNode_is {n : Nat} {j : Int} {v : Bool} (h : inB j 0 ((n : Int) - 1) = v) (A : Option Addr) (c : Nat) (w : World) : Calls Tryz.prog 23 #[.slice A n c, .int .i64 j] w fun e w' => e = .returned (.bool v) ∧ w = w' := by rw [← h]; exact isNode_any A n c j w
set_option maxRecDepth 100000 in
set_option maxHeartbeats 3200000 in
theorem callsFit_any (A : Option Addr) (n c : Nat) (ps : List PN) (kind : Int) (text : ByteArray) (kids : List Int) (z : Bool) (A' : Option Addr) (m c' : Nat) (w : World) (hn : n ≤ 1048576) (hm : m ≤ 1048576) (hps : Nps w A n ps) (hml : Hid (kids.length = m)) (hk : Rd w 1 A' m (intCells kids)) (hin : Hid (∀ x ∈ kids, 0 ≤ x ∧ x < (n : Int))) (hb : Hid (∀ p ∈ ps, p.kids.length ≤ 1048576)) :
    Calls Tryz.prog 110 #[.slice A n c, .agg #[.int .i64 kind, .string text, .slice A' m c', .bool z]] w fun e w' => e = .returned (.bool (callsB ps kind kids)) ∧ Below w.heap.size w w' := by
  have HP := Lib.hid hps
  have HK := Lib.hid hk
  have HL := Lib.hid hps.len
  have hK0 := Blk.new w 48 #[.int .i64 kind, .string text, .slice A' m c', .bool z]
  clear hps hk
  go_enter Tryz.func110, Tryz.ntmps110
  go_wp2
  go_loopw [11] (fun i wr => ∃ k : Nat, k ≤ m ∧ Hid (AllI (callOk ps kind) kids k) ∧ i = .int .i64 k ∧ Blk wr w.heap.size 48 #[.int .i64 kind, .string text, .slice A' m c', .bool z] ∧ Below w.heap.size w wr) (fun i _ => m - (intOf i).toNat)
  case atStart => exact ⟨0, Nat.zero_le _, allI_zero _ kids, rfl, hK0, (by repeat' (first | (with_reducible exact Below.refl _ _) | (with_reducible assumption) | (with_reducible refine below_drewN ?_ _) | (with_reducible refine Below.drew ?_) | (with_reducible refine Below.alloc ?_ ?_ _) | (with_reducible refine Below.setCell ?_ ?_ _) | go_size))⟩
  case round =>
    clear hK0
    obtain ⟨k, hkm, HA, rfl, hK, hbw⟩ := hrel
    have k0 := hK.cell 0
    simp only [List.getElem?_toArray, List.getElem?_cons_zero] at k0
    have kz := hK.lt
    by_cases hlt : k < m
    · obtain ⟨x, hd⟩ : ∃ d, kids[k]? = some d := ⟨_, List.getElem?_eq_getElem (by have := hml.out; omega)⟩
      have hx := hin.out x (List.mem_of_getElem? hd)
      obtain ⟨q, rfl⟩ := Int.eq_ofNat_of_zero_le hx.1
      have hqn : q < n := by omega
      have g0 : (0 : Int) ≤ (q : Int) := by omega
      have g1 : (q : Int) < n := by omega
      obtain ⟨b, off, rfl, hblt, cx⟩ := int_at (HK.out.below hbw) hlt hd
      obtain ⟨y, hy⟩ := HP.out.get hqn
      obtain ⟨b2, off2, A2, c2, rfl, hblt2, y0, y1, y2, y3, hyr⟩ := (HP.out.below hbw).at_ hqn hy
      have hyb := hb.out y (List.mem_of_getElem? hy)
      clear hx
      by_cases h5 : y.kind = 5
      · have e5 : (y.kind == 5) = true := by rw [beq_iff_eq]; exact h5
        cases hyk : y.kids with
        | nil =>
          have hno := Lib.hid (allIB_no (p := callOk ps kind) hd (callOk_bare hy h5 hyk))
          rw [hyk] at y2
          clear HA hd hy hyr
          go_wp2
          go_ret
          exact ⟨ret_bool (by unfold callsB; exact hno.out.symm), (by repeat' (first | (with_reducible exact Below.refl _ _) | (with_reducible assumption) | (with_reducible refine below_drewN ?_ _) | (with_reducible refine Below.drew ?_) | (with_reducible refine Below.alloc ?_ ?_ _) | (with_reducible refine Below.setCell ?_ ?_ _) | go_size))⟩
        | cons j js =>
          have hyz : 0 < y.kids.length := by rw [hyk]; simp
          have hj0 : y.kids[0]? = some j := by rw [hyk]; rfl
          obtain ⟨b3, off3, rfl, hblt3, cj⟩ := int_at hyr hyz hj0
          simp only [Nat.add_zero] at cj
          have i1 : ((y.kids.length : Int) == 0) = false := by rw [beq_eq_false_iff_ne]; omega
          have i2 : (0 : Int) < y.kids.length := by omega
          have HN := Lib.hid (fun (v : Bool) (h : inB j 0 ((n : Int) - 1) = v) c W => isNode_is (n := n) h (some ⟨b2, off2, none⟩) c W)
          cases hjn : inB j 0 ((n : Int) - 1) with
          | false =>
            have hno := Lib.hid (allIB_no (p := callOk ps kind) hd (callOk_out (kind := kind) (i := k) hy h5 hyk (by rw [HL.out]; exact hjn)))
            have HN2 := Lib.hid (HN.out _ hjn)
            clear HA hd hy hyr HN hjn hyk
            go_wp2_with (go_at_call 23; refine (HN2.out _ _).mono ?_; rintro e w1 ⟨rfl, rfl⟩)
            go_ret
            exact ⟨ret_bool (by unfold callsB; exact hno.out.symm), (by repeat' (first | (with_reducible exact Below.refl _ _) | (with_reducible assumption) | (with_reducible refine below_drewN ?_ _) | (with_reducible refine Below.drew ?_) | (with_reducible refine Below.alloc ?_ ?_ _) | (with_reducible refine Below.setCell ?_ ?_ _) | go_size))⟩
          | true =>
            have hok := callOk_in (kind := kind) (i := k) hy h5 hyk (by rw [HL.out]; exact hjn)
            have HN2 := Lib.hid (HN.out _ hjn)
            have hjb := of_decide_eq_true hjn
            obtain ⟨r, rfl⟩ := Int.eq_ofNat_of_zero_le hjb.1
            have hrn : r < n := by omega
            have g2 : (0 : Int) ≤ (r : Int) := by omega
            have g3 : (r : Int) < n := by omega
            obtain ⟨zz, hzz⟩ := HP.out.get hrn
            obtain ⟨b4, off4, A4, c4, e4, hblt4, z0, z1, z2, z3, hzr⟩ := (HP.out.below hbw).at_ hrn hzz
            injection e4 with e4
            injection e4 with e41 e42
            subst e41; subst e42
            rw [kindAt_some hzz] at hok
            clear hzz hzr z1 z2 z3 hjb HN hyr hjn
            by_cases hc10 : kind = 10 ∧ 0 < k
            · obtain ⟨hk10, hkpos⟩ := hc10
              subst hk10
              have ik : (0 : Int) < (k : Int) := by omega
              rw [show ((10 : Int) == 10) = true from rfl, decide_eq_true hkpos] at hok
              cases hz1 : (zz.kind == 1) with
              | true =>
                have hA2 := Lib.hid (allI_step (p := callOk ps 10) HA.out hd (by rw [hok, hz1]; rfl))
                clear HA hd hy hok hyk
                have hz1' : (zz.kind != 1) = false := by unfold bne; rw [hz1]; rfl
                go_wp2_with (go_at_call 23; refine (HN2.out _ _).mono ?_; rintro e w1 ⟨rfl, rfl⟩)
                go_roundw
                case rel => exact ⟨k + 1, by omega, hA2, by go_num, hK.alloc _, (by repeat' (first | (with_reducible exact Below.refl _ _) | (with_reducible assumption) | (with_reducible refine below_drewN ?_ _) | (with_reducible refine Below.drew ?_) | (with_reducible refine Below.alloc ?_ ?_ _) | (with_reducible refine Below.setCell ?_ ?_ _) | go_size))⟩
                case measure => simp [intOf]; omega
              | false =>
                have hno := Lib.hid (allIB_no (p := callOk ps 10) hd (by rw [hok, hz1]; rfl))
                clear HA hd hy hok hyk
                have hz1' : (zz.kind != 1) = true := by unfold bne; rw [hz1]; rfl
                go_wp2_with (go_at_call 23; refine (HN2.out _ _).mono ?_; rintro e w1 ⟨rfl, rfl⟩)
                go_ret
                exact ⟨ret_bool (by unfold callsB; exact hno.out.symm), (by repeat' (first | (with_reducible exact Below.refl _ _) | (with_reducible assumption) | (with_reducible refine below_drewN ?_ _) | (with_reducible refine Below.drew ?_) | (with_reducible refine Below.alloc ?_ ?_ _) | (with_reducible refine Below.setCell ?_ ?_ _) | go_size))⟩
            · have hA2 := Lib.hid (allI_step (p := callOk ps kind) HA.out hd (by
                rw [hok]
                by_cases h1 : kind = 10
                · rw [decide_eq_false (show ¬ 0 < k from fun h => hc10 ⟨h1, h⟩), Bool.and_false]; rfl
                · rw [show (kind == 10) = false by rw [beq_eq_false_iff_ne]; exact h1]; rfl))
              clear HA hd hy hok hyk
              by_cases h10 : kind = 10
              · subst h10
                have ik : ¬ (0 : Int) < (k : Int) := by omega
                go_wp2_with (go_at_call 23; refine (HN2.out _ _).mono ?_; rintro e w1 ⟨rfl, rfl⟩)
                go_roundw
                case rel => exact ⟨k + 1, by omega, hA2, by go_num, hK.alloc _, (by repeat' (first | (with_reducible exact Below.refl _ _) | (with_reducible assumption) | (with_reducible refine below_drewN ?_ _) | (with_reducible refine Below.drew ?_) | (with_reducible refine Below.alloc ?_ ?_ _) | (with_reducible refine Below.setCell ?_ ?_ _) | go_size))⟩
                case measure => simp [intOf]; omega
              · have i10 : (kind == 10) = false := by rw [beq_eq_false_iff_ne]; exact h10
                go_wp2_with (go_at_call 23; refine (HN2.out _ _).mono ?_; rintro e w1 ⟨rfl, rfl⟩)
                go_roundw
                case rel => exact ⟨k + 1, by omega, hA2, by go_num, hK.alloc _, (by repeat' (first | (with_reducible exact Below.refl _ _) | (with_reducible assumption) | (with_reducible refine below_drewN ?_ _) | (with_reducible refine Below.drew ?_) | (with_reducible refine Below.alloc ?_ ?_ _) | (with_reducible refine Below.setCell ?_ ?_ _) | go_size))⟩
                case measure => simp [intOf]; omega
      · have e5 : (y.kind == 5) = false := by rw [beq_eq_false_iff_ne]; exact h5
        have e5' : (y.kind != 5) = true := by unfold bne; rw [e5]; rfl
        have hA2 := Lib.hid (allI_step (p := callOk ps kind) HA.out hd (callOk_other hy h5))
        clear HA hd hy hyr
        go_wp2
        go_roundw
        case rel => exact ⟨k + 1, by omega, hA2, by go_num, hK.alloc _, (by repeat' (first | (with_reducible exact Below.refl _ _) | (with_reducible assumption) | (with_reducible refine below_drewN ?_ _) | (with_reducible refine Below.drew ?_) | (with_reducible refine Below.alloc ?_ ?_ _) | (with_reducible refine Below.setCell ?_ ?_ _) | go_size))⟩
        case measure => simp [intOf]; omega
    · have hno := Lib.hid (allI_all HA.out (by have := hml.out; omega))
      clear HA
      go_wp2
      go_ret
      exact ⟨ret_bool (by unfold callsB; exact hno.out.symm), (by repeat' (first | (with_reducible exact Below.refl _ _) | (with_reducible assumption) | (with_reducible refine below_drewN ?_ _) | (with_reducible refine Below.drew ?_) | (with_reducible refine Below.alloc ?_ ?_ _) | (with_reducible refine Below.setCell ?_ ?_ _) | go_size))⟩
end Go.Proofs.YtpfanhheodiamaaGreatDoor

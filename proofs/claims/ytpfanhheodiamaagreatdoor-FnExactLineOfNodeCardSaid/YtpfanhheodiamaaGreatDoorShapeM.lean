
/-
  ShapeM put together (merge.py): ShapeH0, ShapeH1, ShapeH2, ShapeH3, ShapeH4, ShapeH5, ShapeH6, ShapeH7.
-/
import Derived.Test.YtpfanhheodiamaaGreatDoorShapeG
namespace Go.Proofs.YtpfanhheodiamaaGreatDoor
open Go.RowKit
set_option linter.unusedVariables false
set_option linter.unusedSimpArgs false

set_option maxRecDepth 100000 in
set_option maxHeartbeats 3200000 in
theorem fit_def (A : Option Addr) (n c : Nat) (ps : List PN) (k i : Nat) (x y : PN) (q : Nat) (w : World) (hn : n ≤ 1048576) (hps : Nps w A n ps) (hb : Hid (PNs ps)) (hk : k < n) (hx : Hid (ps[k]? = some x)) (hi : i < x.kids.length) (hd : Hid (x.kids[i]? = some (q : Int))) (hq : q < n) (hy : Hid (ps[q]? = some y)) (hkind : x.kind = 1 ∨ x.kind = 2 ∨ x.kind = 3 ∨ x.kind = 4 ∨ x.kind = 5 ∨ x.kind = 6 ∨ x.kind = 7 ∨ x.kind = 8 ∨ x.kind = 11 ∨ x.kind = 12 ∨ x.kind = 13 ∨ x.kind = 14 ∨ x.kind = 15 ∨ x.kind = 19) :
    Calls Tryz.prog 143 #[.slice A n c, .int .i64 k, .int .i64 i] w fun e w' => e = .returned (.bool (fitB ps x.kind x.kids.length i q)) ∧ Below w.heap.size w w' := by
  have hxk := (hb.out x (List.mem_of_getElem? hx.out)).2
  obtain ⟨b, off, A2, c2, rfl, hblt, x0, x1, x2, x3, hxr⟩ := hps.at_ hk hx.out
  obtain ⟨b3, off3, A3, c3, e3, hblt3, y0, y1, y2, y3, hyr⟩ := hps.at_ hq hy.out
  injection e3 with e3
  injection e3 with e31 e32
  subst e31; subst e32
  obtain ⟨b5, off5, rfl, hblt5, cv⟩ := int_at hxr hi hd.out
  have g0 : (0 : Int) ≤ (q : Int) := by omega
  have g1 : (q : Int) < n := by omega
  have g2 : (k : Int) < n := by omega
  have g3 : (i : Int) < x.kids.length := by omega
  have hka := kindAt_some hy.out
  have hfb : fitB ps x.kind x.kids.length i (q : Int) = valueK y.kind := by
    unfold fitB; rw [hka, if_neg (by omega), if_neg (by omega), if_neg (by omega), if_neg (by omega), if_neg (by omega), if_neg (by omega), if_neg (by omega)]
  rw [hfb]
  have HV := Lib.hid (fun W => specValue_any y.kind W)
  generalize valueK y.kind = u at HV ⊢
  have d9 : (x.kind == 9) = false := by rw [beq_eq_false_iff_ne]; omega
  have d20 : (x.kind == 20) = false := by rw [beq_eq_false_iff_ne]; omega
  have d10 : (x.kind == 10) = false := by rw [beq_eq_false_iff_ne]; omega
  have d16 : (x.kind == 16) = false := by rw [beq_eq_false_iff_ne]; omega
  have d17 : (x.kind == 17) = false := by rw [beq_eq_false_iff_ne]; omega
  have d18 : (x.kind == 18) = false := by rw [beq_eq_false_iff_ne]; omega
  have d21 : (x.kind == 21) = false := by rw [beq_eq_false_iff_ne]; omega
  have d22 : (x.kind == 22) = false := by rw [beq_eq_false_iff_ne]; omega
  clear hkind hfb hka hxr hyr
  go_enter Tryz.func143, Tryz.ntmps143
  go_wp2_with fail
  refine (HV.out _).mono ?_
  rintro e w1 ⟨rfl, rfl⟩
  go_wp2
  go_ret
  exact ⟨rfl, (by repeat' (first | (with_reducible exact Below.refl _ _) | (with_reducible assumption) | (with_reducible refine below_drewN ?_ _) | (with_reducible refine Below.drew ?_) | (with_reducible refine Below.alloc ?_ ?_ _) | (with_reducible refine Below.setCell ?_ ?_ _) | go_size))⟩
set_option maxRecDepth 100000 in
set_option maxHeartbeats 3200000 in
theorem fit_fn (A : Option Addr) (n c : Nat) (ps : List PN) (k i : Nat) (x y : PN) (q : Nat) (w : World) (hn : n ≤ 1048576) (hps : Nps w A n ps) (hb : Hid (PNs ps)) (hk : k < n) (hx : Hid (ps[k]? = some x)) (hi : i < x.kids.length) (hd : Hid (x.kids[i]? = some (q : Int))) (hq : q < n) (hy : Hid (ps[q]? = some y)) (hkind : x.kind = 9) :
    Calls Tryz.prog 143 #[.slice A n c, .int .i64 k, .int .i64 i] w fun e w' => e = .returned (.bool (fitB ps x.kind x.kids.length i q)) ∧ Below w.heap.size w w' := by
  have hxk := (hb.out x (List.mem_of_getElem? hx.out)).2
  obtain ⟨b, off, A2, c2, rfl, hblt, x0, x1, x2, x3, hxr⟩ := hps.at_ hk hx.out
  obtain ⟨b3, off3, A3, c3, e3, hblt3, y0, y1, y2, y3, hyr⟩ := hps.at_ hq hy.out
  injection e3 with e3
  injection e3 with e31 e32
  subst e31; subst e32
  obtain ⟨b5, off5, rfl, hblt5, cv⟩ := int_at hxr hi hd.out
  have g0 : (0 : Int) ≤ (q : Int) := by omega
  have g1 : (q : Int) < n := by omega
  have g2 : (k : Int) < n := by omega
  have g3 : (i : Int) < x.kids.length := by omega
  have hka := kindAt_some hy.out
  rw [hkind] at x0
  have hfb : fitB ps x.kind x.kids.length i (q : Int) = if i + 1 < x.kids.length then isK 1 y.kind else valueK y.kind := by
    rw [hkind]; unfold fitB; rw [hka]; simp
  rw [hfb]
  clear hfb hka hxr hyr hkind
  by_cases ht : i + 1 < x.kids.length
  · rw [if_pos ht]
    have i1 : ((i : Int) + 1 < x.kids.length) := by omega
    go_enter Tryz.func143, Tryz.ntmps143
    go_wp2
    go_ret
    exact ⟨rfl, (by repeat' (first | (with_reducible exact Below.refl _ _) | (with_reducible assumption) | (with_reducible refine below_drewN ?_ _) | (with_reducible refine Below.drew ?_) | (with_reducible refine Below.alloc ?_ ?_ _) | (with_reducible refine Below.setCell ?_ ?_ _) | go_size))⟩
  · rw [if_neg ht]
    have i1 : (¬ (i : Int) + 1 < x.kids.length) := by omega
    have HV := Lib.hid (fun W => specValue_any y.kind W)
    generalize valueK y.kind = u at HV ⊢
    go_enter Tryz.func143, Tryz.ntmps143
    go_wp2_with fail
    refine (HV.out _).mono ?_
    rintro e w1 ⟨rfl, rfl⟩
    go_wp2
    go_ret
    exact ⟨rfl, (by repeat' (first | (with_reducible exact Below.refl _ _) | (with_reducible assumption) | (with_reducible refine below_drewN ?_ _) | (with_reducible refine Below.drew ?_) | (with_reducible refine Below.alloc ?_ ?_ _) | (with_reducible refine Below.setCell ?_ ?_ _) | go_size))⟩
set_option maxRecDepth 100000 in
set_option maxHeartbeats 3200000 in
theorem fit_method (A : Option Addr) (n c : Nat) (ps : List PN) (k i : Nat) (x y : PN) (q : Nat) (w : World) (hn : n ≤ 1048576) (hps : Nps w A n ps) (hb : Hid (PNs ps)) (hk : k < n) (hx : Hid (ps[k]? = some x)) (hi : i < x.kids.length) (hd : Hid (x.kids[i]? = some (q : Int))) (hq : q < n) (hy : Hid (ps[q]? = some y)) (hkind : x.kind = 20) :
    Calls Tryz.prog 143 #[.slice A n c, .int .i64 k, .int .i64 i] w fun e w' => e = .returned (.bool (fitB ps x.kind x.kids.length i q)) ∧ Below w.heap.size w w' := by
  have hxk := (hb.out x (List.mem_of_getElem? hx.out)).2
  obtain ⟨b, off, A2, c2, rfl, hblt, x0, x1, x2, x3, hxr⟩ := hps.at_ hk hx.out
  obtain ⟨b3, off3, A3, c3, e3, hblt3, y0, y1, y2, y3, hyr⟩ := hps.at_ hq hy.out
  injection e3 with e3
  injection e3 with e31 e32
  subst e31; subst e32
  obtain ⟨b5, off5, rfl, hblt5, cv⟩ := int_at hxr hi hd.out
  have g0 : (0 : Int) ≤ (q : Int) := by omega
  have g1 : (q : Int) < n := by omega
  have g2 : (k : Int) < n := by omega
  have g3 : (i : Int) < x.kids.length := by omega
  have hka := kindAt_some hy.out
  rw [hkind] at x0
  have hfb : fitB ps x.kind x.kids.length i (q : Int) = if i + 1 < x.kids.length then isK 1 y.kind else isK 18 y.kind := by
    rw [hkind]; unfold fitB; rw [hka]; simp
  rw [hfb]
  clear hfb hka hxr hyr hkind
  by_cases ht : i + 1 < x.kids.length
  · rw [if_pos ht]
    have i1 : ((i : Int) + 1 < x.kids.length) := by omega
    go_enter Tryz.func143, Tryz.ntmps143
    go_wp2
    go_ret
    exact ⟨rfl, (by repeat' (first | (with_reducible exact Below.refl _ _) | (with_reducible assumption) | (with_reducible refine below_drewN ?_ _) | (with_reducible refine Below.drew ?_) | (with_reducible refine Below.alloc ?_ ?_ _) | (with_reducible refine Below.setCell ?_ ?_ _) | go_size))⟩
  · rw [if_neg ht]
    have i1 : (¬ (i : Int) + 1 < x.kids.length) := by omega
    go_enter Tryz.func143, Tryz.ntmps143
    go_wp2
    go_ret
    exact ⟨rfl, (by repeat' (first | (with_reducible exact Below.refl _ _) | (with_reducible assumption) | (with_reducible refine below_drewN ?_ _) | (with_reducible refine Below.drew ?_) | (with_reducible refine Below.alloc ?_ ?_ _) | (with_reducible refine Below.setCell ?_ ?_ _) | go_size))⟩
set_option maxRecDepth 100000 in
set_option maxHeartbeats 3200000 in
theorem fit_if (A : Option Addr) (n c : Nat) (ps : List PN) (k i : Nat) (x y : PN) (q : Nat) (w : World) (hn : n ≤ 1048576) (hps : Nps w A n ps) (hb : Hid (PNs ps)) (hk : k < n) (hx : Hid (ps[k]? = some x)) (hi : i < x.kids.length) (hd : Hid (x.kids[i]? = some (q : Int))) (hq : q < n) (hy : Hid (ps[q]? = some y)) (hkind : x.kind = 16) :
    Calls Tryz.prog 143 #[.slice A n c, .int .i64 k, .int .i64 i] w fun e w' => e = .returned (.bool (fitB ps x.kind x.kids.length i q)) ∧ Below w.heap.size w w' := by
  have hxk := (hb.out x (List.mem_of_getElem? hx.out)).2
  obtain ⟨b, off, A2, c2, rfl, hblt, x0, x1, x2, x3, hxr⟩ := hps.at_ hk hx.out
  obtain ⟨b3, off3, A3, c3, e3, hblt3, y0, y1, y2, y3, hyr⟩ := hps.at_ hq hy.out
  injection e3 with e3
  injection e3 with e31 e32
  subst e31; subst e32
  obtain ⟨b5, off5, rfl, hblt5, cv⟩ := int_at hxr hi hd.out
  have g0 : (0 : Int) ≤ (q : Int) := by omega
  have g1 : (q : Int) < n := by omega
  have g2 : (k : Int) < n := by omega
  have g3 : (i : Int) < x.kids.length := by omega
  have hka := kindAt_some hy.out
  rw [hkind] at x0
  have hfb : fitB ps x.kind x.kids.length i (q : Int) = if 0 < i then isK 18 y.kind else valueK y.kind := by
    rw [hkind]; unfold fitB; rw [hka]; simp
  rw [hfb]
  clear hfb hka hxr hyr hkind
  by_cases ht : 0 < i
  · rw [if_pos ht]
    have i1 : ((0 : Int) < i) := by omega
    go_enter Tryz.func143, Tryz.ntmps143
    go_wp2
    go_ret
    exact ⟨rfl, (by repeat' (first | (with_reducible exact Below.refl _ _) | (with_reducible assumption) | (with_reducible refine below_drewN ?_ _) | (with_reducible refine Below.drew ?_) | (with_reducible refine Below.alloc ?_ ?_ _) | (with_reducible refine Below.setCell ?_ ?_ _) | go_size))⟩
  · rw [if_neg ht]
    have i1 : (¬ (0 : Int) < i) := by omega
    have HV := Lib.hid (fun W => specValue_any y.kind W)
    generalize valueK y.kind = u at HV ⊢
    go_enter Tryz.func143, Tryz.ntmps143
    go_wp2_with fail
    refine (HV.out _).mono ?_
    rintro e w1 ⟨rfl, rfl⟩
    go_wp2
    go_ret
    exact ⟨rfl, (by repeat' (first | (with_reducible exact Below.refl _ _) | (with_reducible assumption) | (with_reducible refine below_drewN ?_ _) | (with_reducible refine Below.drew ?_) | (with_reducible refine Below.alloc ?_ ?_ _) | (with_reducible refine Below.setCell ?_ ?_ _) | go_size))⟩
set_option maxRecDepth 100000 in
set_option maxHeartbeats 3200000 in
theorem fit_while (A : Option Addr) (n c : Nat) (ps : List PN) (k i : Nat) (x y : PN) (q : Nat) (w : World) (hn : n ≤ 1048576) (hps : Nps w A n ps) (hb : Hid (PNs ps)) (hk : k < n) (hx : Hid (ps[k]? = some x)) (hi : i < x.kids.length) (hd : Hid (x.kids[i]? = some (q : Int))) (hq : q < n) (hy : Hid (ps[q]? = some y)) (hkind : x.kind = 17) :
    Calls Tryz.prog 143 #[.slice A n c, .int .i64 k, .int .i64 i] w fun e w' => e = .returned (.bool (fitB ps x.kind x.kids.length i q)) ∧ Below w.heap.size w w' := by
  have hxk := (hb.out x (List.mem_of_getElem? hx.out)).2
  obtain ⟨b, off, A2, c2, rfl, hblt, x0, x1, x2, x3, hxr⟩ := hps.at_ hk hx.out
  obtain ⟨b3, off3, A3, c3, e3, hblt3, y0, y1, y2, y3, hyr⟩ := hps.at_ hq hy.out
  injection e3 with e3
  injection e3 with e31 e32
  subst e31; subst e32
  obtain ⟨b5, off5, rfl, hblt5, cv⟩ := int_at hxr hi hd.out
  have g0 : (0 : Int) ≤ (q : Int) := by omega
  have g1 : (q : Int) < n := by omega
  have g2 : (k : Int) < n := by omega
  have g3 : (i : Int) < x.kids.length := by omega
  have hka := kindAt_some hy.out
  rw [hkind] at x0
  have hfb : fitB ps x.kind x.kids.length i (q : Int) = if 0 < i then isK 18 y.kind else valueK y.kind := by
    rw [hkind]; unfold fitB; rw [hka]; simp
  rw [hfb]
  clear hfb hka hxr hyr hkind
  by_cases ht : 0 < i
  · rw [if_pos ht]
    have i1 : ((0 : Int) < i) := by omega
    go_enter Tryz.func143, Tryz.ntmps143
    go_wp2
    go_ret
    exact ⟨rfl, (by repeat' (first | (with_reducible exact Below.refl _ _) | (with_reducible assumption) | (with_reducible refine below_drewN ?_ _) | (with_reducible refine Below.drew ?_) | (with_reducible refine Below.alloc ?_ ?_ _) | (with_reducible refine Below.setCell ?_ ?_ _) | go_size))⟩
  · rw [if_neg ht]
    have i1 : (¬ (0 : Int) < i) := by omega
    have HV := Lib.hid (fun W => specValue_any y.kind W)
    generalize valueK y.kind = u at HV ⊢
    go_enter Tryz.func143, Tryz.ntmps143
    go_wp2_with fail
    refine (HV.out _).mono ?_
    rintro e w1 ⟨rfl, rfl⟩
    go_wp2
    go_ret
    exact ⟨rfl, (by repeat' (first | (with_reducible exact Below.refl _ _) | (with_reducible assumption) | (with_reducible refine below_drewN ?_ _) | (with_reducible refine Below.drew ?_) | (with_reducible refine Below.alloc ?_ ?_ _) | (with_reducible refine Below.setCell ?_ ?_ _) | go_size))⟩
set_option maxRecDepth 100000 in
set_option maxHeartbeats 3200000 in
theorem fit_block (A : Option Addr) (n c : Nat) (ps : List PN) (k i : Nat) (x y : PN) (q : Nat) (w : World) (hn : n ≤ 1048576) (hps : Nps w A n ps) (hb : Hid (PNs ps)) (hk : k < n) (hx : Hid (ps[k]? = some x)) (hi : i < x.kids.length) (hd : Hid (x.kids[i]? = some (q : Int))) (hq : q < n) (hy : Hid (ps[q]? = some y)) (hkind : x.kind = 18) :
    Calls Tryz.prog 143 #[.slice A n c, .int .i64 k, .int .i64 i] w fun e w' => e = .returned (.bool (fitB ps x.kind x.kids.length i q)) ∧ Below w.heap.size w w' := by
  have hxk := (hb.out x (List.mem_of_getElem? hx.out)).2
  obtain ⟨b, off, A2, c2, rfl, hblt, x0, x1, x2, x3, hxr⟩ := hps.at_ hk hx.out
  obtain ⟨b3, off3, A3, c3, e3, hblt3, y0, y1, y2, y3, hyr⟩ := hps.at_ hq hy.out
  injection e3 with e3
  injection e3 with e31 e32
  subst e31; subst e32
  obtain ⟨b5, off5, rfl, hblt5, cv⟩ := int_at hxr hi hd.out
  have g0 : (0 : Int) ≤ (q : Int) := by omega
  have g1 : (q : Int) < n := by omega
  have g2 : (k : Int) < n := by omega
  have g3 : (i : Int) < x.kids.length := by omega
  have hka := kindAt_some hy.out
  rw [hkind] at x0
  have hfb : fitB ps x.kind x.kids.length i (q : Int) = stmtK y.kind := by
    rw [hkind]; unfold fitB; rw [hka]; simp
  rw [hfb]
  clear hfb hka hxr hyr hkind
  have HV := Lib.hid (fun W => specStmt_any y.kind W)
  generalize stmtK y.kind = u at HV ⊢
  go_enter Tryz.func143, Tryz.ntmps143
  go_wp2_with fail
  refine (HV.out _).mono ?_
  rintro e w1 ⟨rfl, rfl⟩
  go_wp2
  go_ret
  exact ⟨rfl, (by repeat' (first | (with_reducible exact Below.refl _ _) | (with_reducible assumption) | (with_reducible refine below_drewN ?_ _) | (with_reducible refine Below.drew ?_) | (with_reducible refine Below.alloc ?_ ?_ _) | (with_reducible refine Below.setCell ?_ ?_ _) | go_size))⟩
set_option maxRecDepth 100000 in
set_option maxHeartbeats 3200000 in
theorem fit_class (A : Option Addr) (n c : Nat) (ps : List PN) (k i : Nat) (x y : PN) (q : Nat) (w : World) (hn : n ≤ 1048576) (hps : Nps w A n ps) (hb : Hid (PNs ps)) (hk : k < n) (hx : Hid (ps[k]? = some x)) (hi : i < x.kids.length) (hd : Hid (x.kids[i]? = some (q : Int))) (hq : q < n) (hy : Hid (ps[q]? = some y)) (hkind : x.kind = 21) :
    Calls Tryz.prog 143 #[.slice A n c, .int .i64 k, .int .i64 i] w fun e w' => e = .returned (.bool (fitB ps x.kind x.kids.length i q)) ∧ Below w.heap.size w w' := by
  have hxk := (hb.out x (List.mem_of_getElem? hx.out)).2
  obtain ⟨b, off, A2, c2, rfl, hblt, x0, x1, x2, x3, hxr⟩ := hps.at_ hk hx.out
  obtain ⟨b3, off3, A3, c3, e3, hblt3, y0, y1, y2, y3, hyr⟩ := hps.at_ hq hy.out
  injection e3 with e3
  injection e3 with e31 e32
  subst e31; subst e32
  obtain ⟨b5, off5, rfl, hblt5, cv⟩ := int_at hxr hi hd.out
  have g0 : (0 : Int) ≤ (q : Int) := by omega
  have g1 : (q : Int) < n := by omega
  have g2 : (k : Int) < n := by omega
  have g3 : (i : Int) < x.kids.length := by omega
  have hka := kindAt_some hy.out
  rw [hkind] at x0
  have hfb : fitB ps x.kind x.kids.length i (q : Int) = (y.kind == 12 || (y.kind == 20 || y.kind == 19)) := by
    rw [hkind]; unfold fitB; rw [hka]; simp [isK, memberK, Bool.or_assoc]
  rw [hfb]
  clear hfb hka hxr hyr hkind
  cases e0 : (y.kind == 12) with
  | true =>
    simp only [Bool.true_or, Bool.or_true, Bool.false_or]
    go_enter Tryz.func143, Tryz.ntmps143
    go_wp2
    go_ret
    exact ⟨rfl, (by repeat' (first | (with_reducible exact Below.refl _ _) | (with_reducible assumption) | (with_reducible refine below_drewN ?_ _) | (with_reducible refine Below.drew ?_) | (with_reducible refine Below.alloc ?_ ?_ _) | (with_reducible refine Below.setCell ?_ ?_ _) | go_size))⟩
  | false =>
    cases e1 : (y.kind == 20) with
    | true =>
      simp only [Bool.true_or, Bool.or_true, Bool.false_or]
      go_enter Tryz.func143, Tryz.ntmps143
      go_wp2
      go_ret
      exact ⟨rfl, (by repeat' (first | (with_reducible exact Below.refl _ _) | (with_reducible assumption) | (with_reducible refine below_drewN ?_ _) | (with_reducible refine Below.drew ?_) | (with_reducible refine Below.alloc ?_ ?_ _) | (with_reducible refine Below.setCell ?_ ?_ _) | go_size))⟩
    | false =>
      simp only [Bool.false_or]
      go_enter Tryz.func143, Tryz.ntmps143
      go_wp2
      go_ret
      exact ⟨rfl, (by repeat' (first | (with_reducible exact Below.refl _ _) | (with_reducible assumption) | (with_reducible refine below_drewN ?_ _) | (with_reducible refine Below.drew ?_) | (with_reducible refine Below.alloc ?_ ?_ _) | (with_reducible refine Below.setCell ?_ ?_ _) | go_size))⟩
set_option maxRecDepth 100000 in
set_option maxHeartbeats 3200000 in
theorem fit_file (A : Option Addr) (n c : Nat) (ps : List PN) (k i : Nat) (x y : PN) (q : Nat) (w : World) (hn : n ≤ 1048576) (hps : Nps w A n ps) (hb : Hid (PNs ps)) (hk : k < n) (hx : Hid (ps[k]? = some x)) (hi : i < x.kids.length) (hd : Hid (x.kids[i]? = some (q : Int))) (hq : q < n) (hy : Hid (ps[q]? = some y)) (hkind : x.kind = 22) :
    Calls Tryz.prog 143 #[.slice A n c, .int .i64 k, .int .i64 i] w fun e w' => e = .returned (.bool (fitB ps x.kind x.kids.length i q)) ∧ Below w.heap.size w w' := by
  have hxk := (hb.out x (List.mem_of_getElem? hx.out)).2
  obtain ⟨b, off, A2, c2, rfl, hblt, x0, x1, x2, x3, hxr⟩ := hps.at_ hk hx.out
  obtain ⟨b3, off3, A3, c3, e3, hblt3, y0, y1, y2, y3, hyr⟩ := hps.at_ hq hy.out
  injection e3 with e3
  injection e3 with e31 e32
  subst e31; subst e32
  obtain ⟨b5, off5, rfl, hblt5, cv⟩ := int_at hxr hi hd.out
  have g0 : (0 : Int) ≤ (q : Int) := by omega
  have g1 : (q : Int) < n := by omega
  have g2 : (k : Int) < n := by omega
  have g3 : (i : Int) < x.kids.length := by omega
  have hka := kindAt_some hy.out
  rw [hkind] at x0
  have hfb : fitB ps x.kind x.kids.length i (q : Int) = (y.kind == 21 || (y.kind == 12 || (y.kind == 20 || y.kind == 19))) := by
    rw [hkind]; unfold fitB; rw [hka]; simp [isK, memberK, Bool.or_assoc]
  rw [hfb]
  clear hfb hka hxr hyr hkind
  cases e0 : (y.kind == 21) with
  | true =>
    simp only [Bool.true_or, Bool.or_true, Bool.false_or]
    go_enter Tryz.func143, Tryz.ntmps143
    go_wp2
    go_ret
    exact ⟨rfl, (by repeat' (first | (with_reducible exact Below.refl _ _) | (with_reducible assumption) | (with_reducible refine below_drewN ?_ _) | (with_reducible refine Below.drew ?_) | (with_reducible refine Below.alloc ?_ ?_ _) | (with_reducible refine Below.setCell ?_ ?_ _) | go_size))⟩
  | false =>
    cases e1 : (y.kind == 12) with
    | true =>
      simp only [Bool.true_or, Bool.or_true, Bool.false_or]
      go_enter Tryz.func143, Tryz.ntmps143
      go_wp2
      go_ret
      exact ⟨rfl, (by repeat' (first | (with_reducible exact Below.refl _ _) | (with_reducible assumption) | (with_reducible refine below_drewN ?_ _) | (with_reducible refine Below.drew ?_) | (with_reducible refine Below.alloc ?_ ?_ _) | (with_reducible refine Below.setCell ?_ ?_ _) | go_size))⟩
    | false =>
      cases e2 : (y.kind == 20) with
      | true =>
        simp only [Bool.true_or, Bool.or_true, Bool.false_or]
        go_enter Tryz.func143, Tryz.ntmps143
        go_wp2
        go_ret
        exact ⟨rfl, (by repeat' (first | (with_reducible exact Below.refl _ _) | (with_reducible assumption) | (with_reducible refine below_drewN ?_ _) | (with_reducible refine Below.drew ?_) | (with_reducible refine Below.alloc ?_ ?_ _) | (with_reducible refine Below.setCell ?_ ?_ _) | go_size))⟩
      | false =>
        simp only [Bool.false_or]
        go_enter Tryz.func143, Tryz.ntmps143
        go_wp2
        go_ret
        exact ⟨rfl, (by repeat' (first | (with_reducible exact Below.refl _ _) | (with_reducible assumption) | (with_reducible refine below_drewN ?_ _) | (with_reducible refine Below.drew ?_) | (with_reducible refine Below.alloc ?_ ?_ _) | (with_reducible refine Below.setCell ?_ ?_ _) | go_size))⟩
set_option maxRecDepth 100000 in
set_option maxHeartbeats 3200000 in
theorem fit_cascade (A : Option Addr) (n c : Nat) (ps : List PN) (k i : Nat) (x y : PN) (q : Nat) (w : World) (hn : n ≤ 1048576) (hps : Nps w A n ps) (hb : Hid (PNs ps)) (hk : k < n) (hx : Hid (ps[k]? = some x)) (hi : i < x.kids.length) (hd : Hid (x.kids[i]? = some (q : Int))) (hq : q < n) (hy : Hid (ps[q]? = some y)) (hcall : y.kind = 5 → ∃ (r : Nat) (js : List Int), y.kids = (r : Int) :: js ∧ r < n) (hkind : x.kind = 10) :
    Calls Tryz.prog 143 #[.slice A n c, .int .i64 k, .int .i64 i] w fun e w' => e = .returned (.bool (fitB ps x.kind x.kids.length i q)) ∧ Below w.heap.size w w' := by
  have hxk := (hb.out x (List.mem_of_getElem? hx.out)).2
  obtain ⟨b, off, A2, c2, rfl, hblt, x0, x1, x2, x3, hxr⟩ := hps.at_ hk hx.out
  obtain ⟨b3, off3, A3, c3, e3, hblt3, y0, y1, y2, y3, hyr⟩ := hps.at_ hq hy.out
  injection e3 with e3
  injection e3 with e31 e32
  subst e31; subst e32
  obtain ⟨b5, off5, rfl, hblt5, cv⟩ := int_at hxr hi hd.out
  have g0 : (0 : Int) ≤ (q : Int) := by omega
  have g1 : (q : Int) < n := by omega
  have g2 : (k : Int) < n := by omega
  have g3 : (i : Int) < x.kids.length := by omega
  have hka := kindAt_some hy.out
  rw [hkind] at x0
  have hfb : fitB ps x.kind x.kids.length i (q : Int) = if 0 < i then isK 5 y.kind && (match y.kids with | j :: _ => isK 1 (kindAt ps j) | [] => false) else valueK y.kind := by
    rw [hkind]; unfold fitB; rw [hka, Int.toNat_natCast, hy.out]; simp; rfl
  rw [hfb]
  clear hfb hka hxr hkind
  by_cases ht : 0 < i
  · rw [if_pos ht]
    have i1 : (0 : Int) < i := by omega
    by_cases h5 : y.kind = 5
    · obtain ⟨r, js, hyk, hrn⟩ := hcall h5
      have hyz : 0 < y.kids.length := by rw [hyk]; simp
      have hj0 : y.kids[0]? = some (r : Int) := by rw [hyk]; rfl
      obtain ⟨b6, off6, rfl, hblt6, cj⟩ := int_at hyr hyz hj0
      simp only [Nat.add_zero] at cj
      have i2 : (0 : Int) < y.kids.length := by omega
      have g4 : (0 : Int) ≤ (r : Int) := by omega
      have g5 : (r : Int) < n := by omega
      obtain ⟨zz, hzz⟩ := hps.get hrn
      obtain ⟨b4, off4, A4, c4, e4, hblt4, z0, z1, z2, z3, hzr⟩ := hps.at_ hrn hzz
      injection e4 with e4
      injection e4 with e41 e42
      subst e41; subst e42
      have hres : (isK 5 y.kind && (match y.kids with | j :: _ => isK 1 (kindAt ps j) | [] => false)) = (zz.kind == 1) := by
        rw [hyk, h5]; simp only [kindAt_some hzz]; rfl
      rw [hres]
      rw [h5] at y0
      clear hres hyk hj0 hzr hyr z1 z2 z3 hzz
      go_enter Tryz.func143, Tryz.ntmps143
      go_wp2
      go_ret
      exact ⟨rfl, (by repeat' (first | (with_reducible exact Below.refl _ _) | (with_reducible assumption) | (with_reducible refine below_drewN ?_ _) | (with_reducible refine Below.drew ?_) | (with_reducible refine Below.alloc ?_ ?_ _) | (with_reducible refine Below.setCell ?_ ?_ _) | go_size))⟩
    · have e5 : (y.kind == 5) = false := by rw [beq_eq_false_iff_ne]; exact h5
      have hres : (isK 5 y.kind && (match y.kids with | j :: _ => isK 1 (kindAt ps j) | [] => false)) = false := by
        unfold isK; rw [e5, Bool.false_and]
      rw [hres]
      clear hres hyr
      go_enter Tryz.func143, Tryz.ntmps143
      go_wp2
      go_ret
      exact ⟨rfl, (by repeat' (first | (with_reducible exact Below.refl _ _) | (with_reducible assumption) | (with_reducible refine below_drewN ?_ _) | (with_reducible refine Below.drew ?_) | (with_reducible refine Below.alloc ?_ ?_ _) | (with_reducible refine Below.setCell ?_ ?_ _) | go_size))⟩
  · rw [if_neg ht]
    have i1 : ¬ (0 : Int) < i := by omega
    have HV := Lib.hid (fun W => specValue_any y.kind W)
    generalize valueK y.kind = u at HV ⊢
    clear hyr
    go_enter Tryz.func143, Tryz.ntmps143
    go_wp2_with fail
    refine (HV.out _).mono ?_
    rintro e w1 ⟨rfl, rfl⟩
    go_wp2
    go_ret
    exact ⟨rfl, (by repeat' (first | (with_reducible exact Below.refl _ _) | (with_reducible assumption) | (with_reducible refine below_drewN ?_ _) | (with_reducible refine Below.drew ?_) | (with_reducible refine Below.alloc ?_ ?_ _) | (with_reducible refine Below.setCell ?_ ?_ _) | go_size))⟩
end Go.Proofs.YtpfanhheodiamaaGreatDoor


/-
  (Written by program, gen_cur.py, from XDrawA and XDrawB: the slice of the bytes named.) Contracts: the cursor over the bytes of a draw (spec.l01New, l01Byte, l01Below, l01Once, l01Pick, l01PickInt): a number in its range, and the cursor is still one.
-/
import Derived.Test.YtfapdhfjcnehhaaDoorDrawB
import Derived.Test.YtfapdhfjcnehhaaDoorInts
import Derived.Test.YtfapdhfjcnehhaaDoorChecked
import Derived.Outline
import Derived.Deep.DeepCutAuto
import Derived.Deep.CutBlock
import Derived.Deep.LoopGhost
import Derived.WalkLawsBesides
import Derived.Laws.BitsAllLaws
import Derived.Laws.BitsLemmas
namespace Go.Proofs.YtfapdhfjcnehhaaDoor
open Go.RowKit
set_option linter.unusedVariables false

theorem Rd.turned' {w w' : World} {size n : Nat} {A : Option Addr} {xs : List Value} {row : Option Nat} (h : Rd w size A n xs) (hg : w.grownBy w' row) (hne : 0 < n → ∀ g, row = some g → ∀ b off, A = some ⟨b, off, none⟩ → b ≠ g) : Rd w' size A n xs :=
  ⟨h.1, fun hn => by
    obtain ⟨b, off, e, hb, hc⟩ := h.2 hn
    refine ⟨b, off, e, Nat.lt_of_lt_of_le hb hg.size, fun j u hj => (World.cell?_of_block (a := ⟨b, off + j, none⟩) (hg.block b hb (fun q => ?_))).trans (hc j u hj)⟩
    exact hne hn b q.symm b off e rfl⟩
theorem Blk.turned' {w w' : World} {g : Nat} {t : TypeId} {cs : Array Value} {row : Option Nat} (h : Blk w g t cs) (hb : w.grownBy w' row) (hg : ∀ q, row = some q → g ≠ q) : Blk w' g t cs :=
  h.grown hb (fun q => hg g q.symm rfl)
/-- Block g holds a cursor over the bytes l. -/
def CurX (w : World) (g : Nat) (A : Option Addr) (n c : Nat) (l : List Int) : Prop :=
  ∃ (i h : Int), Blk w g 134 #[.slice A n c, .int .i64 i, .int .i64 h] ∧ 0 ≤ i ∧ i ≤ n ∧ n ≤ 1048576 ∧ l.length = n ∧ Rd w 1 A n (u8cells l) ∧ (0 < n → ∀ b off, A = some ⟨b, off, none⟩ → b ≠ g)

/-- A number from 0 to m less 1, and the cursor is still one: only its block has turned. -/
def DrawNX (g : Nat) (A : Option Addr) (n c : Nat) (l : List Int) (w : World) (m : Int) (e : Ending) (w' : World) : Prop :=
  ∃ x : Int, e = .returned (.int .i64 x) ∧ 0 ≤ x ∧ x < m ∧ CurX w' g A n c l ∧ w.grownBy w' (some g)

set_option maxRecDepth 100000 in
set_option maxHeartbeats 800000 in
theorem l01ByteX (g : Nat) (A : Option Addr) (n c : Nat) (l : List Int) (w : World) (hl : ∀ x ∈ l, 0 ≤ x ∧ x ≤ 255) (hcur : CurX w g A n c l) :
    Calls Tryd.prog 96 #[.pointer (some ⟨g, 0, none⟩)] w (DrawNX g A n c l w 256) := by
  obtain ⟨i, h, hB, hi, hin, hn, hll, hr, hne⟩ := hcur
  have c0 := hB.cell 0
  have c1 := hB.cell 1
  have c2 := hB.cell 2
  have hf := hB.frozen
  have hlt := hB.lt
  simp only [List.getElem?_toArray, List.getElem?_cons_zero, List.getElem?_cons_succ] at c0 c1 c2
  go_enter Tryd.func96, Tryd.ntmps96
  go_upto_region 2 with fail
  go_cut [3] (fun s wx => ∃ x h' : Int, 0 ≤ x ∧ x ≤ 255 ∧ s = .int .i64 x ∧ Blk wx g 134 #[.slice A n c, .int .i64 i, .int .i64 h'] ∧ w.grownBy wx (some g))
  case first =>
    have hB2 := hB.set_ 2 (.int .i64 (wrap64 (wrap64 (h * 6364136223846793005) + 1442695040888963407)))
    go_quiet (fail)
    go_wp2
    go_meet
    case rel =>
      refine ⟨_, wrap64 (wrap64 (h * 6364136223846793005) + 1442695040888963407), (and255 _).1, (and255 _).2, rfl, ?_, grownBy_drewN (grownBy_set _ _ _ _) _⟩
      simpa using hB2.drewN _
  case rest =>
    obtain ⟨x, h', hx0, hx1, rfl, hB2, hg2⟩ := hcut
    clear c0 c1 c2 hf hB
    have c0 := hB2.cell 0
    have c1 := hB2.cell 1
    have c2 := hB2.cell 2
    have hf := hB2.frozen
    simp only [List.getElem?_toArray, List.getElem?_cons_zero, List.getElem?_cons_succ] at c0 c1 c2
    by_cases hlast : i < n
    · have d1 : decide (i < (n : Int)) = true := decide_eq_true hlast
      obtain ⟨k, rfl⟩ := Int.eq_ofNat_of_zero_le hi
      have hk : k < n := by omega
      obtain ⟨b, off, rfl, hblt, hcell⟩ := (hr.grown hg2 hne).at_ (by omega)
      have hbne := hne (by omega) b off rfl
      have hv : l[k]? = some (l[k]'(by omega)) := List.getElem?_eq_getElem (by omega)
      have hbv := hl _ (List.mem_of_getElem? hv)
      generalize (l[k]'(by omega)) = v at hv hbv
      have cb := hcell k (.int .u8 v) (by unfold u8cells; rw [List.getElem?_map, hv]; rfl)
      obtain ⟨hv0, hv1⟩ := hbv
      have hvw : IntKind.i64.wrap v = v := IntWalk.i64_in _ (by omega)
      clear hcell hv
      have hxv : IntKind.i64.wrap (x + v) = x + v := IntWalk.i64_in _ (by omega)
      have hki : (k : Int) < n := by omega
      go_wp2
      go_quiet (fail)
      go_wp2
      go_quiet (fail)
      go_wp2
      have hfin := (and255 (x + v))
      have hB3 : ∀ q, Blk ((wc.drewN q).setCell ⟨g, 1, none⟩ (.int .i64 ((k : Int) + 1))) g 134 #[.slice (some ⟨b, off, none⟩) n c, .int .i64 ((k : Int) + 1), .int .i64 h'] := fun q => by
        simpa using (hB2.drewN q).set_ 1 (.int .i64 ((k : Int) + 1))
      go_ret
      refine ⟨_, rfl, hfin.1, Int.lt_of_le_of_lt hfin.2 (by omega), ⟨(k : Int) + 1, h', ?_, by omega, by omega, hn, hll, ((hr.grown hg2 hne).drewN _).grown (grownBy_set _ g 1 _) hne, hne⟩, ?_⟩
      · exact hB3 _
      · exact grownBy_trans (grownBy_drewN hg2 _) (grownBy_set _ g 1 _)
    · have d1 : decide (i < (n : Int)) = false := decide_eq_false hlast
      go_wp2
      go_quiet (fail)
      go_wp2
      go_ret
      exact ⟨x, rfl, hx0, by omega, ⟨i, h', hB2.drewN _, hi, hin, hn, hll, (hr.grown hg2 hne).drewN _, hne⟩, grownBy_drewN hg2 _⟩

set_option maxHeartbeats 800000 in
theorem l01BelowX (g : Nat) (A : Option Addr) (m c : Nat) (l : List Int) (n : Int) (w : World) (hl : ∀ x ∈ l, 0 ≤ x ∧ x ≤ 255) (hcur : CurX w g A m c l) (h0 : 1 ≤ n) (h1 : n ≤ 256) :
    Calls Tryd.prog 62 #[.pointer (some ⟨g, 0, none⟩), .int .i64 n] w (DrawNX g A m c l w n) := by
  have HL := bytes_hid hl
  clear hl
  have hn0 : (n == 0) = false := by rw [beq_eq_false_iff_ne]; omega
  go_enter Tryd.func62, Tryd.ntmps62
  go_wp2_with fail
  refine (l01ByteX g A m c l _ HL.out hcur).mono ?_
  rintro e w2 ⟨x, rfl, hx0, hx1, hcur2, hg⟩
  have hm0 := Int.emod_nonneg x (show n ≠ 0 by omega)
  have hm1 := Int.emod_lt_of_pos x (show 0 < n by omega)
  go_wp2
  go_ret
  exact ⟨_, rfl, hm0, hm1, hcur2, hg⟩

section
variable {w w' w2 : World} {g n c : Nat} {A : Option Addr} {l : List Int}
theorem CurX.lt (h : CurX w g A n c l) : g < w.heap.size := by obtain ⟨i, hh, hB, _⟩ := h; exact hB.lt
theorem CurX.next (h : CurX w g A n c l) (hb : Below w.heap.size w w2) : CurX w2 g A n c l := by
  obtain ⟨i, hh, hB, h1, h2, h3, h4, h5, h6⟩ := h
  exact ⟨i, hh, hB.next hb, h1, h2, h3, h4, h5.next hb, h6⟩
theorem CurX.alloc (h : CurX w g A n c l) (o : Obj) : CurX (w.alloc o) g A n c l := h.next ((Below.refl _ _).alloc (Nat.le_refl _) o)
theorem CurX.drew (h : CurX w g A n c l) : CurX w.drew g A n c l := h
/-- A row elsewhere has turned. -/
theorem CurX.turned {row : Option Nat} (h : CurX w g A n c l) (hg : w.grownBy w' row) (hr : ∀ q, row = some q → q ≠ g ∧ (0 < n → ∀ b off, A = some ⟨b, off, none⟩ → b ≠ q)) : CurX w' g A n c l := by
  obtain ⟨i, hh, hB, h1, h2, h3, h4, h5, h6⟩ := h
  exact ⟨i, hh, hB.turned' hg (fun q e => fun e2 => (hr q e).1 e2.symm), h1, h2, h3, h4, h5.turned' hg (fun hn q e b off e2 => (hr q e).2 hn b off e2), h6⟩
theorem CurX.far (h : CurX w g A n c l) {p : Addr} (hp : p.block ≠ g ∧ (0 < n → ∀ b off, A = some ⟨b, off, none⟩ → b ≠ p.block)) (u : Value) : CurX (w.setCell p u) g A n c l := by
  refine h.turned (row := some p.block) ⟨rfl, rfl, rfl, by simp [World.setCell], fun i hi hne => Below.heap_setCell w p u i (fun e => hne (by rw [e]))⟩ (fun q e => ?_)
  injection e with e
  subst e
  exact hp
end
def DrawBX (g : Nat) (A : Option Addr) (n c : Nat) (l : List Int) (w : World) (e : Ending) (w' : World) : Prop := ∃ b : Bool, e = .returned (.bool b) ∧ CurX w' g A n c l ∧ w.grownBy w' (some g)
def DrawSX (g : Nat) (A : Option Addr) (n c : Nat) (l : List Int) (w : World) (ss : List ByteArray) (e : Ending) (w' : World) : Prop := ∃ s : ByteArray, e = .returned (.string s) ∧ s ∈ ss ∧ CurX w' g A n c l ∧ w.grownBy w' (some g)

set_option maxHeartbeats 400000 in
theorem l01OnceX (g : Nat) (A : Option Addr) (m c : Nat) (l : List Int) (n : Int) (w : World) (HL : Hid (∀ x ∈ l, 0 ≤ x ∧ x ≤ 255)) (hcur : CurX w g A m c l) (h0 : 1 ≤ n) (h1 : n ≤ 256) :
    Calls Tryd.prog 88 #[.pointer (some ⟨g, 0, none⟩), .int .i64 n] w (DrawBX g A m c l w) := by
  go_enter Tryd.func88, Tryd.ntmps88
  go_wp2_with fail
  refine (l01BelowX g A m c l _ _ HL.out hcur h0 h1).mono ?_
  rintro e w2 ⟨x, rfl, hx0, hx1, hcur2, hg⟩
  go_wp2
  go_ret
  exact ⟨_, rfl, hcur2, hg⟩

set_option maxHeartbeats 400000 in
theorem l01PickX (g : Nat) (A0 : Option Addr) (n0 c0 : Nat) (l : List Int) (A : Option Addr) (m c : Nat) (ss : List ByteArray) (w : World) (HL : Hid (∀ x ∈ l, 0 ≤ x ∧ x ≤ 255)) (hcur : CurX w g A0 n0 c0 l)
    (h0 : 1 ≤ m) (h1 : m ≤ 256) (hs : ss.length = m) (hr : Rd w 1 A m (strCells ss)) (hne : ∀ b off, A = some ⟨b, off, none⟩ → b ≠ g) :
    Calls Tryd.prog 89 #[.pointer (some ⟨g, 0, none⟩), .slice A m c] w (DrawSX g A0 n0 c0 l w ss) := by
  have HS := Lib.hid hs
  clear hs
  go_enter Tryd.func89, Tryd.ntmps89
  go_wp2_with fail
  refine (l01BelowX g A0 n0 c0 l _ _ HL.out hcur (by omega) (by omega)).mono ?_
  rintro e w2 ⟨x, rfl, hx0, hx1, hcur2, hg⟩
  obtain ⟨k, rfl⟩ := Int.eq_ofNat_of_zero_le hx0
  have hk : k < m := by omega
  obtain ⟨b, off, rfl, hblt, hcell⟩ := (hr.grown hg (fun _ => hne)).at_ (by omega)
  obtain ⟨s, hv⟩ : ∃ s, ss[k]? = some s := ⟨_, List.getElem?_eq_getElem (by have := HS.out; omega)⟩
  have cb := hcell k (.string s) (by unfold strCells; rw [List.getElem?_map, hv]; rfl)
  have hsz := Lib.hid (List.mem_of_getElem? hv)
  clear hcell hv hr
  go_wp2
  go_ret
  exact ⟨s, rfl, hsz.out, hcur2, hg⟩

def DrawIX (g : Nat) (A : Option Addr) (n c : Nat) (l : List Int) (w : World) (ss : List Int) (e : Ending) (w' : World) : Prop := ∃ s : Int, e = .returned (.int .i64 s) ∧ s ∈ ss ∧ CurX w' g A n c l ∧ w.grownBy w' (some g)
set_option maxHeartbeats 400000 in
theorem l01PickIntX (g : Nat) (A0 : Option Addr) (n0 c0 : Nat) (l : List Int) (A : Option Addr) (m c : Nat) (ss : List Int) (w : World) (HL : Hid (∀ x ∈ l, 0 ≤ x ∧ x ≤ 255)) (hcur : CurX w g A0 n0 c0 l)
    (h0 : 1 ≤ m) (h1 : m ≤ 256) (hs : ss.length = m) (hr : Rd w 1 A m (intCells ss)) (hne : ∀ b off, A = some ⟨b, off, none⟩ → b ≠ g) :
    Calls Tryd.prog 87 #[.pointer (some ⟨g, 0, none⟩), .slice A m c] w (DrawIX g A0 n0 c0 l w ss) := by
  have HS := Lib.hid hs
  clear hs
  go_enter Tryd.func87, Tryd.ntmps87
  go_wp2_with fail
  refine (l01BelowX g A0 n0 c0 l _ _ HL.out hcur (by omega) (by omega)).mono ?_
  rintro e w2 ⟨x, rfl, hx0, hx1, hcur2, hg⟩
  obtain ⟨k, rfl⟩ := Int.eq_ofNat_of_zero_le hx0
  have hk : k < m := by omega
  obtain ⟨b, off, rfl, hblt, hcell⟩ := (hr.grown hg (fun _ => hne)).at_ (by omega)
  obtain ⟨s, hv⟩ : ∃ s : Int, ss[k]? = some s := ⟨_, List.getElem?_eq_getElem (by have := HS.out; omega)⟩
  have cb := hcell k (.int .i64 s) (by unfold intCells; rw [List.getElem?_map, hv]; rfl)
  have hsz := Lib.hid (List.mem_of_getElem? hv)
  clear hcell hv hr
  go_wp2
  go_ret
  exact ⟨s, rfl, hsz.out, hcur2, hg⟩

/-- A cursor in a new block. -/
def NewCurX (A : Option Addr) (n c : Nat) (l : List Int) (w : World) (e : Ending) (w' : World) : Prop := ∃ g : Nat, e = .returned (.pointer (some ⟨g, 0, none⟩)) ∧ w.heap.size ≤ g ∧ CurX w' g A n c l ∧ Below w.heap.size w w'
set_option maxRecDepth 100000 in
set_option maxHeartbeats 800000 in
theorem l01NewX (A : Option Addr) (n c : Nat) (l : List Int) (w : World) (hn : n ≤ 1048576) (hl : l.length = n) (HL : Hid (∀ x ∈ l, 0 ≤ x ∧ x ≤ 255)) (hr : Rd w 1 A n (u8cells l)) :
    Calls Tryd.prog 57 #[.slice A n c] w (NewCurX A n c l w) := by
  have HN := Lib.hid hl
  clear hl
  go_enter Tryd.func57, Tryd.ntmps57
  go_upto_block 0 with fail
  go_cut [3] (fun s wx => ∃ h : Int, s = .int .i64 h ∧ Below w.heap.size w wx)
  case first =>
    go_wp2_with fail
    go_loopw [3, 4] (fun s i wr => ∃ (k : Nat) (h : Int), k ≤ n ∧ i = .int .i64 k ∧ s = .int .i64 h ∧ Below w.heap.size w wr) (fun _ i _ => n - (intOf i).toNat)
    case atStart => exact ⟨0, _, Nat.zero_le _, rfl, rfl, Below.refl _ _⟩
    case round =>
      obtain ⟨k, h, hk, rfl, rfl, hb⟩ := hrel
      by_cases h1 : k < n
      · by_cases h2 : k < 4000
        · obtain ⟨b, off, rfl, hblt, hcell⟩ := (hr.below hb).at_ (by omega)
          obtain ⟨v, hv⟩ : ∃ v, l[k]? = some v := ⟨_, List.getElem?_eq_getElem (by have := HN.out; omega)⟩
          have cb := hcell k (.int .u8 v) (by unfold u8cells; rw [List.getElem?_map, hv]; rfl)
          clear hcell hv hr
          have h2' : (k : Int) < 4000 := by omega
          go_wp2
          go_roundw
          case rel => exact ⟨k + 1, _, by omega, by go_num, rfl, hb⟩
          case measure => simp [intOf]; omega
        · have h2' : ¬ (k : Int) < 4000 := by omega
          go_wp2
          go_meet
          case rel => exact ⟨_, rfl, hb⟩
      · go_wp2
        go_meet
        case rel => exact ⟨_, rfl, hb⟩
  case rest =>
    obtain ⟨h, rfl, hb⟩ := hcut
    have hz := hb.size
    go_wp2
    go_ret
    refine ⟨wc.heap.size, rfl, hz, ⟨0, h, Blk.new _ _ _, by omega, by omega, hn, HN.out, (hr.below hb).alloc _, fun hp b off e => ?_⟩, (by repeat' (first | (with_reducible exact Below.refl _ _) | (with_reducible assumption) | (with_reducible refine below_drewN ?_ _) | (with_reducible refine Below.drew ?_) | (with_reducible refine Below.alloc ?_ ?_ _) | (with_reducible refine Below.setCell ?_ ?_ _) | go_size))⟩
    obtain ⟨b', off', e', hb', _⟩ := (hr.below hb).2 hp
    rw [e'] at e
    simp only [Option.some.injEq, Addr.mk.injEq, and_true] at e
    omega
end Go.Proofs.YtfapdhfjcnehhaaDoor

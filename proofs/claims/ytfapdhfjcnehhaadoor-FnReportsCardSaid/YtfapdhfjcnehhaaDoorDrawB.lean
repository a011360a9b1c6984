
/-
  Contracts: drawn words and texts (spec.l01New, l01Once, l01Pick, l03Text, DrawText).
-/
import Derived.Test.YtfapdhfjcnehhaaDoorDrawA
namespace Go.Proofs.YtfapdhfjcnehhaaDoor
open Go.RowKit
set_option linter.unusedVariables false

theorem Cur.alloc {w : World} {g : Nat} {l : List Int} (h : Cur w g l) (o : Obj) : Cur (w.alloc o) g l := by
  obtain ⟨A, n, c, i, hh, hB, h1, h2, h3, h4, h5, h6⟩ := h
  exact ⟨A, n, c, i, hh, hB.alloc o, h1, h2, h3, h4, h5.alloc o, h6⟩
theorem Cur.next {w w2 : World} {g : Nat} {l : List Int} (h : Cur w g l) (hb : Below w.heap.size w w2) : Cur w2 g l := by
  obtain ⟨A, n, c, i, hh, hB, h1, h2, h3, h4, h5, h6⟩ := h
  exact ⟨A, n, c, i, hh, hB.next hb, h1, h2, h3, h4, h5.next hb, h6⟩
theorem Cur.lt {w : World} {g : Nat} {l : List Int} (h : Cur w g l) : g < w.heap.size := by
  obtain ⟨A, n, c, i, hh, hB, _⟩ := h
  exact hB.lt
theorem grown_alloc {a w : World} {row : Option Nat} (h : a.grownBy w row) (o : Obj) : a.grownBy (w.alloc o) row := grownBy_trans h (World.grownBy_alloc w o row)
theorem below_of_grown {a w w' : World} {g : Nat} (h : Below a.heap.size a w) (hg : w.grownBy w' (some g)) (hge : a.heap.size ≤ g) : Below a.heap.size a w' :=
  h.grown hg h.size (fun k hk => by cases hk; exact hge)

def DrawB (g : Nat) (l : List Int) (w : World) (e : Ending) (w' : World) : Prop := ∃ b : Bool, e = .returned (.bool b) ∧ Cur w' g l ∧ w.grownBy w' (some g)
def DrawS (g : Nat) (l : List Int) (w : World) (m : Nat) (e : Ending) (w' : World) : Prop := ∃ s : ByteArray, e = .returned (.string s) ∧ s.size ≤ m ∧ Cur w' g l ∧ w.grownBy w' (some g)

set_option maxHeartbeats 400000 in
theorem l01Once_any (g : Nat) (l : List Int) (n : Int) (w : World) (HL : Hid (∀ x ∈ l, 0 ≤ x ∧ x ≤ 255)) (hcur : Cur w g l) (h0 : 1 ≤ n) (h1 : n ≤ 256) :
    Calls Tryd.prog 88 #[.pointer (some ⟨g, 0, none⟩), .int .i64 n] w (DrawB g l w) := by
  go_enter Tryd.func88, Tryd.ntmps88
  go_wp2_with fail
  refine (l01Below_small g l _ _ HL.out hcur h0 h1).mono ?_
  rintro e w2 ⟨x, rfl, hx0, hx1, hcur2, hg⟩
  go_wp2
  go_ret
  exact ⟨_, rfl, hcur2, hg⟩

set_option maxHeartbeats 400000 in
theorem l01Pick_any (g : Nat) (l : List Int) (A : Option Addr) (m c : Nat) (ss : List ByteArray) (B : Nat) (w : World) (HL : Hid (∀ x ∈ l, 0 ≤ x ∧ x ≤ 255)) (hcur : Cur w g l)
    (h0 : 1 ≤ m) (h1 : m ≤ 256) (hs : ss.length = m) (hr : Rd w 1 A m (strCells ss)) (hne : ∀ b off, A = some ⟨b, off, none⟩ → b ≠ g) (hB : ∀ s ∈ ss, s.size ≤ B) :
    Calls Tryd.prog 89 #[.pointer (some ⟨g, 0, none⟩), .slice A m c] w (DrawS g l w B) := by
  have HS := Lib.hid hs
  have HB := Lib.hid hB
  clear hs hB
  go_enter Tryd.func89, Tryd.ntmps89
  go_wp2_with fail
  refine (l01Below_small g l _ _ HL.out hcur (by omega) (by omega)).mono ?_
  rintro e w2 ⟨x, rfl, hx0, hx1, hcur2, hg⟩
  obtain ⟨k, rfl⟩ := Int.eq_ofNat_of_zero_le hx0
  have hk : k < m := by omega
  obtain ⟨b, off, rfl, hblt, hcell⟩ := (hr.grown hg (fun _ => hne)).at_ (by omega)
  obtain ⟨s, hv⟩ : ∃ s, ss[k]? = some s := ⟨_, List.getElem?_eq_getElem (by have := HS.out; omega)⟩
  have cb := hcell k (.string s) (by unfold strCells; rw [List.getElem?_map, hv]; rfl)
  have hsz := Lib.hid (HB.out s (List.mem_of_getElem? hv))
  clear hcell hv hr
  go_wp2
  go_ret
  exact ⟨s, rfl, hsz.out, hcur2, hg⟩

/-- A cursor in a new block. -/
def NewCur (l : List Int) (w : World) (e : Ending) (w' : World) : Prop := ∃ g : Nat, e = .returned (.pointer (some ⟨g, 0, none⟩)) ∧ w.heap.size ≤ g ∧ Cur w' g l ∧ Below w.heap.size w w'
set_option maxRecDepth 100000 in
set_option maxHeartbeats 800000 in
theorem l01New_any (A : Option Addr) (n c : Nat) (l : List Int) (w : World) (hn : n ≤ 1048576) (hl : l.length = n) (HL : Hid (∀ x ∈ l, 0 ≤ x ∧ x ≤ 255)) (hr : Rd w 1 A n (u8cells l)) :
    Calls Tryd.prog 57 #[.slice A n c] w (NewCur l w) := by
  have HN := Lib.hid hl
  clear hl
  go_enter Tryd.func57, Tryd.ntmps57
  go_upto_block 0 with fail
  go_cut [3] (fun s wx => ∃ h : Int, s = .int .i64 h ∧ Below w.heap.size w wx)
  case first =>
    go_wp2_with fail
    go_loopw [3, 4] (fun s i wr => ∃ (k : Nat) (h : Int), k ≤ n ∧ i = .int .i64 k ∧ s = .int .i64 h ∧ Below w.heap.size w wr) (fun _ i _ => n - (intOf i).toNat)
    case atStart => exact ⟨0, _, Nat.zero_le _, rfl, rfl, Below.refl _ _⟩
    case round =>
      obtain ⟨k, h, hk, rfl, rfl, hb⟩ := hrel
      by_cases h1 : k < n
      · by_cases h2 : k < 4000
        · obtain ⟨b, off, rfl, hblt, hcell⟩ := (hr.below hb).at_ (by omega)
          obtain ⟨v, hv⟩ : ∃ v, l[k]? = some v := ⟨_, List.getElem?_eq_getElem (by have := HN.out; omega)⟩
          have cb := hcell k (.int .u8 v) (by unfold u8cells; rw [List.getElem?_map, hv]; rfl)
          clear hcell hv hr
          have h2' : (k : Int) < 4000 := by omega
          go_wp2
          go_roundw
          case rel => exact ⟨k + 1, _, by omega, by go_num, rfl, hb⟩
          case measure => simp [intOf]; omega
        · have h2' : ¬ (k : Int) < 4000 := by omega
          go_wp2
          go_meet
          case rel => exact ⟨_, rfl, hb⟩
      · go_wp2
        go_meet
        case rel => exact ⟨_, rfl, hb⟩
  case rest =>
    obtain ⟨h, rfl, hb⟩ := hcut
    have hz := hb.size
    go_wp2
    go_ret
    refine ⟨wc.heap.size, rfl, hz, ⟨A, n, c, 0, h, Blk.new _ _ _, by omega, by omega, hn, HN.out, (hr.below hb).alloc _, fun hp b off e => ?_⟩, (by repeat' (first | (with_reducible exact Below.refl _ _) | (with_reducible assumption) | (with_reducible refine below_drewN ?_ _) | (with_reducible refine Below.drew ?_) | (with_reducible refine Below.alloc ?_ ?_ _) | (with_reducible refine Below.setCell ?_ ?_ _) | go_size))⟩
    obtain ⟨b', off', e', hb', _⟩ := (hr.below hb).2 hp
    rw [e'] at e
    simp only [Option.some.injEq, Addr.mk.injEq, and_true] at e
    omega
end Go.Proofs.YtfapdhfjcnehhaaDoor

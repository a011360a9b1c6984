/-
  Contracts: a drawn text of lines (spec.l03Text, DrawText), a drawn pair (DrawChangeOf).
-/
import Derived.Test.YtbddfbgbjlfocaaDrawB
import Derived.Test.YtbddfbgbjlfocaaChangeD
namespace Go.Proofs.Ytbddfbgbjlfocaa
open Go.RowKit
set_option linter.unusedVariables false

def words03 : List ByteArray := [⟨#[97]⟩, ⟨#[]⟩, ⟨#[116, 119, 111, 32, 119, 111, 114, 100, 115]⟩, ⟨#[32, 32, 105, 110]⟩, ⟨#[101, 110, 100, 32, 32]⟩]
theorem words03_size : ∀ s ∈ words03, s.size ≤ 9 := by intro s hs; simp [words03] at hs; rcases hs with rfl | rfl | rfl | rfl | rfl <;> decide

theorem app_nl (t s : ByteArray) : (t ++ s ++ (⟨#[10]⟩ : ByteArray)).size = t.size + s.size + 1 := by rw [ByteArray.size_append, ByteArray.size_append]; rfl
set_option maxRecDepth 100000 in
set_option maxHeartbeats 800000 in
theorem l03Text_any (g : Nat) (l : List Int) (w : World) (HL : Hid (∀ x ∈ l, 0 ≤ x ∧ x ≤ 255)) (hcur : Cur w g l) :
    Calls Try.prog 84 #[.pointer (some ⟨g, 0, none⟩)] w (DrawS g l w 60) := by
  go_enter Try.func84, Try.ntmps84
  go_wp2
  go_loopw [3, 4] (fun s i wr => ∃ (k : Nat) (t : ByteArray), k ≤ 6 ∧ t.size ≤ 10 * k ∧ i = .int .i64 k ∧ s = .string t ∧ Cur wr g l ∧ w.grownBy wr (some g)) (fun _ i _ => 6 - (intOf i).toNat)
  case atStart => exact ⟨0, _, by omega, Nat.zero_le _, rfl, rfl, hcur, grown_refl _ _⟩
  case round =>
    obtain ⟨k, t, hk, ht, rfl, rfl, hc, hg⟩ := hrel
    go_wp2_with fail
    refine (l01Below_small g l _ _ HL.out hc (by omega) (by omega)).mono ?_
    rintro e w2 ⟨x, rfl, hx0, hx1, hc2, hg2⟩
    have hgg := grownBy_trans hg hg2
    by_cases hlt : (k : Int) < x
    · have hgl := hc2.lt
      go_wp2_with fail
      refine (l01Pick_any g l _ 5 5 words03 9 _ HL (hc2.alloc _) (by omega) (by omega) rfl (Rd.fresh w2 _ (strCells words03) rfl) (fun b off e => by simp only [Option.some.injEq, Addr.mk.injEq, and_true] at e; omega) words03_size).mono ?_
      rintro e w3 ⟨s, rfl, hs, hc3, hg3⟩
      have hgg3 := grownBy_trans (grown_alloc hgg _) hg3
      clear hgg hg3 hgl hc2 hg2
      go_wp2_with fail
      refine (l01Once_any g l _ _ HL hc3 (by omega) (by omega)).mono ?_
      rintro e w4 ⟨b, rfl, hc4, hg4⟩
      have hgg4 := grownBy_trans hgg3 hg4
      clear hgg3 hg4 hc3
      cases b
      · go_wp2
        go_roundw
        case rel => exact ⟨k + 1, _, by omega, by rw [app_nl]; omega, by go_num, rfl, hc4, hgg4⟩
        case measure => simp [intOf]; omega
      · go_wp2
        go_roundw
        case rel => exact ⟨k + 1, _, by omega, by simp only [ByteArray.size_append]; omega, by go_num, rfl, hc4, hgg4⟩
        case measure => simp [intOf]; omega
    · go_wp2
      go_ret
      exact ⟨t, rfl, by omega, hc2, hgg⟩

def SmallS (w : World) (m : Nat) (e : Ending) (w' : World) : Prop := ∃ s : ByteArray, e = .returned (.string s) ∧ s.size ≤ m ∧ Below w.heap.size w w'
set_option maxHeartbeats 400000 in
theorem DrawText_any (A : Option Addr) (n c : Nat) (l : List Int) (w : World) (hn : n ≤ 1048576) (hl : Hid (l.length = n)) (HL : Hid (∀ x ∈ l, 0 ≤ x ∧ x ≤ 255)) (hr : Rd w 1 A n (u8cells l)) :
    Calls Try.prog 49 #[.slice A n c] w (SmallS w 60) := by
  go_enter Try.func49, Try.ntmps49
  go_wp2_with fail
  refine (l01New_any A n c l _ hn hl.out HL hr).mono ?_
  rintro e w2 ⟨g, rfl, hge, hcur, hb⟩
  go_wp2_with fail
  refine (l03Text_any g l _ HL hcur).mono ?_
  rintro e w3 ⟨s, rfl, hs, hcur3, hg3⟩
  have hb3 := below_of_grown hb hg3 hge
  go_wp2
  go_ret
  exact ⟨s, rfl, hs, hb3⟩

def SmallS2 (w : World) (m : Nat) (e : Ending) (w' : World) : Prop := ∃ s t : ByteArray, e = .returned (.tuple #[.string s, .string t]) ∧ s.size ≤ m ∧ t.size ≤ m ∧ Below w.heap.size w w'
set_option maxHeartbeats 800000 in
theorem DrawChangeOf_any (A : Option Addr) (n c : Nat) (l : List Int) (w : World) (hn : n ≤ 1048576) (hl : Hid (l.length = n)) (HL : Hid (∀ x ∈ l, 0 ≤ x ∧ x ≤ 255)) (hr : Rd w 1 A n (u8cells l)) :
    Calls Try.prog 50 #[.slice A n c] w (SmallS2 w 100) := by
  go_enter Try.func50, Try.ntmps50
  go_wp2_with fail
  refine (l01New_any A n c l _ hn hl.out HL hr).mono ?_
  rintro e w2 ⟨g, rfl, hge, hcur, hb⟩
  go_wp2_with fail
  refine (l03Text_any g l _ HL hcur).mono ?_
  rintro e w3 ⟨s, rfl, hs, hcur3, hg3⟩
  have hb3 := below_of_grown hb hg3 hge
  clear hb hcur hg3
  go_wp2_with fail
  refine (l01Once_any g l _ _ HL hcur3 (by omega) (by omega)).mono ?_
  rintro e w4 ⟨b, rfl, hcur4, hg4⟩
  have hb4 := below_of_grown hb3 hg4 hge
  clear hb3 hcur3 hg4
  cases b
  · go_wp2_with fail
    refine (l03Text_any g l _ HL hcur4).mono ?_
    rintro e w5 ⟨s2, rfl, hs2, hcur5, hg5⟩
    have hb5 := below_of_grown hb4 hg5 hge
    go_wp2
    go_ret2
    exact ⟨s, s2, rfl, by omega, by omega, hb5⟩
  · have hok := chOk_yes (n := s.size) (a := (s.size : Int) / 2) (b := (s.size : Int) / 2) (by omega) (by omega) (by omega)
    have hsz := Lib.hid (chDo_size s ⟨#[109, 105, 100]⟩ _ _ hok)
    clear hok
    go_wp2_with fail
    refine (specChanged_yes s ⟨#[109, 105, 100]⟩ _ _ _ (by omega) (show 3 ≤ 4194304 by omega) (by omega) (by omega) (by omega)).mono ?_
    rintro e w5 ⟨rfl, h5⟩
    have hb5 := below_next hb4 h5
    go_wp2
    go_ret2
    exact ⟨s, _, rfl, by omega, Nat.le_trans hsz.out (show s.size + 3 ≤ 100 by omega), hb5⟩
end Go.Proofs.Ytbddfbgbjlfocaa

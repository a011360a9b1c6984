
/-
  Contracts: whether a piece is right, of the program (impl.isPlain, rulesOk, splitOk, chunksOk, isRule, PieceOk).
-/
import Derived.Test.YtfapdhfjcnehhaaDoorPieceB
import Derived.Test.YtfapdhfjcnehhaaDoorOptions
import Derived.Deep.DeepCutAuto
namespace Go.Proofs.YtfapdhfjcnehhaaDoor
open Go.RowKit
set_option linter.unusedVariables false

/-- All that stand ahead of k are as wanted. -/
def AllK {α : Type} (p : Nat → α → Bool) (l : List α) (k : Nat) : Prop := ∀ j d, j < k → l[j]? = some d → p j d = true
def allIx {α : Type} (p : Nat → α → Bool) (l : List α) : Bool := (List.range l.length).all (fun j => match l[j]? with | some d => p j d | none => true)
theorem allK_zero {α : Type} (p : Nat → α → Bool) (l : List α) : AllK p l 0 := fun j d hj => absurd hj (by omega)
theorem allK_step {α : Type} {p : Nat → α → Bool} {l : List α} {k : Nat} {d : α} (h : AllK p l k) (hd : l[k]? = some d) (hp : p k d = true) : AllK p l (k + 1) := fun j e hj he => by
  by_cases q : j = k
  · subst q
    rw [hd] at he
    obtain rfl := Option.some.inj he
    exact hp
  · exact h j e (by omega) he
theorem allK_all {α : Type} {p : Nat → α → Bool} {l : List α} {k : Nat} (h : AllK p l k) (hk : k = l.length) : allIx p l = true := by
  unfold allIx
  rw [List.all_eq_true]
  intro j hj
  have hj2 : j < l.length := List.mem_range.1 hj
  rw [List.getElem?_eq_getElem hj2]
  exact h j _ (by omega) (List.getElem?_eq_getElem hj2)
theorem allK_no {α : Type} {p : Nat → α → Bool} {l : List α} {k : Nat} {d : α} (hd : l[k]? = some d) (hp : p k d = false) : allIx p l = false := by
  unfold allIx
  refine List.all_eq_false.2 ⟨k, List.mem_range.2 (List.getElem?_eq_some_iff.1 hd).1, ?_⟩
  rw [hd]; simp [hp]
theorem allIx_at {α : Type} {p : Nat → α → Bool} {l : List α} {k : Nat} {d : α} (h : allIx p l = true) (hd : l[k]? = some d) : p k d = true := by
  cases hp : p k d with
  | true => rfl
  | false => rw [allK_no hd hp] at h; cases h

def pl (c : UInt8) : Bool := decide (32 ≤ (c.toNat : Int) ∧ (c.toNat : Int) ≤ 126)
def plainB (s : ByteArray) : Bool := s.data.toList.all pl
def PlTo (s : ByteArray) (k : Nat) : Prop := (s.data.toList.take k).all pl = true
theorem plTo_zero (s : ByteArray) : PlTo s 0 := by simp [PlTo]
theorem plTo_step {s : ByteArray} {k : Nat} (h : PlTo s k) (hk : k < s.size) (hc : pl s[k] = true) : PlTo s (k + 1) := by
  unfold PlTo at h ⊢
  rw [List.take_succ_eq_append_getElem (by simpa using hk), List.all_append, h]
  simp only [List.all_cons, List.all_nil, Bool.and_true, Bool.true_and]
  exact hc
theorem plTo_no {s : ByteArray} {k : Nat} (hk : k < s.size) (hc : pl s[k] = false) : plainB s = false := by
  unfold plainB
  rw [List.all_eq_false]
  exact ⟨s[k], by rw [show s[k] = s.data.toList[k]'(by simpa using hk) from rfl]; exact List.getElem_mem _, by simp [hc]⟩
theorem plTo_all {s : ByteArray} {k : Nat} (h : PlTo s k) (hk : k = s.size) : plainB s = true := by
  unfold PlTo at h; unfold plainB
  rwa [List.take_of_length_le (by simp [hk])] at h
set_option maxHeartbeats 400000 in
theorem isPlain_any (s : ByteArray) (w : World) (hs : s.size ≤ maxLen) : Calls Tryd.prog 115 #[.string s] w fun e w' => e = .returned (.bool (plainB s)) ∧ w = w' := by
  unfold maxLen at hs
  go_enter Tryd.func115, Tryd.ntmps115
  go_wp2
  go_loop [3] (fun i => ∃ k : Nat, k ≤ s.size ∧ PlTo s k ∧ i = .int .i64 k) (fun i => s.size - (intOf i).toNat)
  case atStart => exact ⟨0, Nat.zero_le _, plTo_zero s, rfl⟩
  case round =>
    obtain ⟨k, hk, ha, rfl⟩ := hrel
    by_cases hlt : k < s.size
    · by_cases h1 : (s[k].toNat : Int) < 32
      · have hn := Lib.hid (plTo_no hlt (by unfold pl; exact decide_eq_false (by omega)))
        go_wp2
        go_ret
        exact ⟨ret_bool hn.out.symm, rfl⟩
      · by_cases h2 : (126 : Int) < s[k].toNat
        · have hn := Lib.hid (plTo_no hlt (by unfold pl; exact decide_eq_false (by omega)))
          go_wp2
          go_ret
          exact ⟨ret_bool hn.out.symm, rfl⟩
        · have hn := plTo_step ha hlt (by unfold pl; exact decide_eq_true (by omega))
          go_wp2
          go_round
          case rel => exact ⟨k + 1, by omega, hn, by go_num⟩
          case measure => simp [intOf]; omega
    · have hn := Lib.hid (plTo_all ha (by omega))
      go_wp2
      go_ret
      exact ⟨ret_bool hn.out.symm, rfl⟩

def ruleB (k : Nat) (d : RuleD) : Bool := inB d.1 2 3 && inB d.2 0 9
def rulesB (l0 : List RuleD) : Bool := allIx ruleB l0 && decide (l0.length ≤ 8)
set_option maxRecDepth 100000 in
set_option maxHeartbeats 1600000 in
theorem rulesOk_any (m : Int) (A0 : Option Addr) (n0 c0 : Nat) (l0 : List RuleD) (A1 : Option Addr) (n1 c1 : Nat) (l1 : List ChunkD) (A2 : Option Addr) (n2 c2 : Nat) (l2 : List SpanD) (A3 : Option Addr) (n3 c3 : Nat) (l3 : List TieD) (w : World) (hl : Hid (LenP n0 l0 n1 l1 n2 l2 n3 l3)) (hr : RdP w A0 n0 l0 A1 n1 l1 A2 n2 l2 A3 n3 l3) (hn : n0 ≤ 1048576) :
    Calls Tryd.prog 91 #[.agg #[.int .i64 m, .slice A0 n0 c0, .slice A1 n1 c1, .slice A2 n2 c2, .slice A3 n3 c3]] w fun e w' => e = .returned (.bool (rulesB l0)) ∧ Below w.heap.size w w' := by
  have HR := Lib.hid (fun W (hW : Below w.heap.size w W) => hr.next hW)
  have HD : Hid (rulesB l0 = (allIx ruleB l0 && decide (l0.length ≤ 8))) := rfl
  have hL := Lib.hid hl.out.1
  clear hr hl
  go_enter Tryd.func91, Tryd.ntmps91
  go_wp2
  go_loopw [8] (fun i wr => ∃ k : Nat, k ≤ n0 ∧ AllK ruleB l0 k ∧ i = .int .i64 k ∧ Blk wr w.heap.size 52 #[.int .i64 m, .slice A0 n0 c0, .slice A1 n1 c1, .slice A2 n2 c2, .slice A3 n3 c3] ∧ Below w.heap.size w wr) (fun i _ => n0 - (intOf i).toNat)
  case atStart => exact ⟨0, Nat.zero_le _, allK_zero _ _, rfl, Blk.new _ _ _, (by repeat' (first | (with_reducible exact Below.refl _ _) | (with_reducible assumption) | (with_reducible refine below_drewN ?_ _) | (with_reducible refine Below.drew ?_) | (with_reducible refine Below.alloc ?_ ?_ _) | (with_reducible refine Below.setCell ?_ ?_ _) | go_size))⟩
  case round =>
    obtain ⟨k, hk, ha, rfl, K, hb⟩ := hrel
    by_cases hlt : k < n0
    · obtain ⟨⟨x0, x1⟩, hd⟩ : ∃ d, l0[k]? = some d := ⟨_, List.getElem?_eq_getElem (by have := hL.out; omega)⟩
      obtain ⟨b, off, hA, hblt, c0, c1⟩ := rule_at (HR.out _ hb).1 hlt hd
      have HA := Lib.hid ha
      have HDk := Lib.hid hd
      have HP : Hid (ruleB k (x0, x1) = (inB x0 2 3 && inB x1 0 9)) := rfl
      have zK := K.lt
      have hz := hb.size
      subst hA
      clear ha hd
      cases h0 : inB x0 2 3 with
      | false =>
        have hf := Lib.hid (show rulesB l0 = false by rw [HD.out, allK_no HDk.out (by rw [HP.out, h0]; rfl)]; rfl)
        go_wp2_with (go_at_call 90; refine (inRange_b _ _ _ _).mono ?_; rintro e w1 ⟨rfl, rfl⟩)
        go_ret
        exact ⟨ret_bool hf.out.symm, (by repeat' (first | (with_reducible exact Below.refl _ _) | (with_reducible assumption) | (with_reducible refine below_drewN ?_ _) | (with_reducible refine Below.drew ?_) | (with_reducible refine Below.alloc ?_ ?_ _) | (with_reducible refine Below.setCell ?_ ?_ _) | go_size))⟩
      | true =>
        cases h1 : inB x1 0 9 with
        | false =>
          have hf := Lib.hid (show rulesB l0 = false by rw [HD.out, allK_no HDk.out (by rw [HP.out, h0, h1]; rfl)]; rfl)
          go_wp2_with (go_at_call 90; refine (inRange_b _ _ _ _).mono ?_; rintro e w1 ⟨rfl, rfl⟩)
          go_ret
          exact ⟨ret_bool hf.out.symm, (by repeat' (first | (with_reducible exact Below.refl _ _) | (with_reducible assumption) | (with_reducible refine below_drewN ?_ _) | (with_reducible refine Below.drew ?_) | (with_reducible refine Below.alloc ?_ ?_ _) | (with_reducible refine Below.setCell ?_ ?_ _) | go_size))⟩
        | true =>
          have hst := allK_step HA.out HDk.out (by rw [HP.out, h0, h1]; rfl)
          go_wp2_with (go_at_call 90; refine (inRange_b _ _ _ _).mono ?_; rintro e w1 ⟨rfl, rfl⟩)
          go_roundw
          case rel => exact ⟨k + 1, by omega, hst, by go_num, K.alloc _, (by repeat' (first | (with_reducible exact Below.refl _ _) | (with_reducible assumption) | (with_reducible refine below_drewN ?_ _) | (with_reducible refine Below.drew ?_) | (with_reducible refine Below.alloc ?_ ?_ _) | (with_reducible refine Below.setCell ?_ ?_ _) | go_size))⟩
          case measure => simp [intOf]; omega
    · have hf := Lib.hid (show rulesB l0 = decide ((n0 : Int) ≤ 8) by rw [HD.out, allK_all ha (by have := hL.out; omega), hL.out, Bool.true_and]; congr 1; exact propext ⟨fun h => by omega, fun h => by omega⟩)
      have cK := K.cell
      have zK := K.lt
      clear ha
      go_wp2
      go_ret
      exact ⟨ret_bool hf.out.symm, hb⟩
end Go.Proofs.YtfapdhfjcnehhaaDoor

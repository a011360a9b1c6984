
/-
  Contracts: where a kept result stands (spec.CacheAt, impl.CacheAt), sizes and copies of caches.
-/
import Derived.Test.YtfapdhfjcnehhaaCacheA
namespace Go.Proofs.Ytfapdhfjcnehhaa
open Go.RowKit
set_option linter.unusedVariables false

/-- The place of the first that is so, from i on; -1 without one. -/
def firstIx {α : Type} (p : α → Bool) : List α → Int → Int
  | [], _ => -1
  | x :: l, i => if p x then i else firstIx p l (i + 1)
def FirstTo {α : Type} (p : α → Bool) (l : List α) (k : Nat) : Prop := firstIx p l 0 = firstIx p (l.drop k) k
theorem firstTo_zero {α : Type} (p : α → Bool) (l : List α) : FirstTo p l 0 := by simp [FirstTo]
theorem drop_at {α : Type} {l : List α} {k : Nat} {d : α} (h : l[k]? = some d) : l.drop k = d :: l.drop (k + 1) := by
  have hk : k < l.length := (List.getElem?_eq_some_iff.1 h).1
  rw [List.drop_eq_getElem_cons hk]
  congr 1
  exact Option.some.inj ((List.getElem?_eq_getElem hk).symm.trans h)
theorem firstTo_step {α : Type} {p : α → Bool} {l : List α} {k : Nat} {d : α} (h : FirstTo p l k) (hd : l[k]? = some d) (hp : p d = false) : FirstTo p l (k + 1) := by
  unfold FirstTo at h ⊢
  rw [h, drop_at hd, firstIx, if_neg (by simp [hp])]
  congr 1
theorem firstTo_here {α : Type} {p : α → Bool} {l : List α} {k : Nat} {d : α} (h : FirstTo p l k) (hd : l[k]? = some d) (hp : p d = true) : firstIx p l 0 = k := by
  unfold FirstTo at h
  rw [h, drop_at hd, firstIx, if_pos hp]
theorem firstTo_none {α : Type} {p : α → Bool} {l : List α} {k : Nat} (h : FirstTo p l k) (hk : l.length ≤ k) : firstIx p l 0 = -1 := by
  unfold FirstTo at h
  rw [h, List.drop_eq_nil_of_le hk, firstIx]

def sameE (t : ByteArray) (a b : Int) (e : EntryD) : Bool := decide (e.1 = t ∧ e.2.1 = a ∧ e.2.2.1 = b)

set_option maxHeartbeats 400000 in
theorem l29Same_any (t x0 x3 : ByteArray) (a b x1 x2 x4 : Int) (w : World) :
    Calls Try.prog 42 #[.agg #[.string x0, .int .i64 x1, .int .i64 x2, .string x3, .int .i64 x4], .string t, .int .i64 a, .int .i64 b] w fun e w' => e = .returned (.bool (sameE t a b (x0, x1, x2, x3, x4))) ∧ Below w.heap.size w w' := by
  by_cases h0 : x0 = t
  · subst h0
    by_cases h1 : x1 = a
    · subst h1
      by_cases h2 : x2 = b
      · subst h2
        rw [show sameE x0 x1 x2 (x0, x1, x2, x3, x4) = true by simp [sameE]]
        go_enter Try.func42, Try.ntmps42
        go_wp2
        go_ret
        exact ⟨rfl, (by repeat' (first | (with_reducible exact Below.refl _ _) | (with_reducible assumption) | (with_reducible refine below_drewN ?_ _) | (with_reducible refine Below.drew ?_) | (with_reducible refine Below.alloc ?_ ?_ _) | (with_reducible refine Below.setCell ?_ ?_ _) | go_size))⟩
      · rw [show sameE x0 x1 b (x0, x1, x2, x3, x4) = false by simp [sameE, h2]]
        have h2' : (x2 == b) = false := by rw [beq_eq_false_iff_ne]; exact h2
        clear h2
        go_enter Try.func42, Try.ntmps42
        go_wp2
        go_ret
        exact ⟨rfl, (by repeat' (first | (with_reducible exact Below.refl _ _) | (with_reducible assumption) | (with_reducible refine below_drewN ?_ _) | (with_reducible refine Below.drew ?_) | (with_reducible refine Below.alloc ?_ ?_ _) | (with_reducible refine Below.setCell ?_ ?_ _) | go_size))⟩
    · rw [show sameE x0 a b (x0, x1, x2, x3, x4) = false by simp [sameE, h1]]
      have h1' : (x1 == a) = false := by rw [beq_eq_false_iff_ne]; exact h1
      clear h1
      go_enter Try.func42, Try.ntmps42
      go_wp2
      go_ret
      exact ⟨rfl, (by repeat' (first | (with_reducible exact Below.refl _ _) | (with_reducible assumption) | (with_reducible refine below_drewN ?_ _) | (with_reducible refine Below.drew ?_) | (with_reducible refine Below.alloc ?_ ?_ _) | (with_reducible refine Below.setCell ?_ ?_ _) | go_size))⟩
  · rw [show sameE t a b (x0, x1, x2, x3, x4) = false by simp [sameE, h0]]
    have h0' := str_ne h0
    clear h0
    go_enter Try.func42, Try.ntmps42
    go_wp2
    go_ret
    exact ⟨rfl, (by repeat' (first | (with_reducible exact Below.refl _ _) | (with_reducible assumption) | (with_reducible refine below_drewN ?_ _) | (with_reducible refine Below.drew ?_) | (with_reducible refine Below.alloc ?_ ?_ _) | (with_reducible refine Below.setCell ?_ ?_ _) | go_size))⟩

/-- A cache whose list lies in a block of the call's own. -/
def CacheP (m h k : Int) (n : Nat) (xs : List Value) (w : World) (e : Ending) (w' : World) : Prop :=
  ∃ g : Nat, e = .returned (.agg #[.int .i64 m, .slice (some ⟨g, 0, none⟩) n n, .int .i64 h, .int .i64 k]) ∧ Own w' g 47 (n * 5) xs ∧ w.heap.size ≤ g ∧ Below w.heap.size w w'
set_option maxRecDepth 100000 in
set_option maxHeartbeats 800000 in
theorem toCache_any (m h k : Int) (A : Option Addr) (n c : Nat) (l : List EntryD) (w : World) (hn : n ≤ 1048576) (hl : Hid (l.length = n)) (hr : Rd w 5 A n (l.flatMap entryCells)) :
    Calls Try.prog 21 #[.agg #[.int .i64 m, .slice A n c, .int .i64 h, .int .i64 k]] w (CacheP m h k n (l.flatMap entryCells) w) := by
  have hbw := Below.refl w.heap.size w
  go_enter Try.func21, Try.ntmps21
  go_wp2_with fail
  refine (toEntryS_any A n c l _ hn hl.out (((hr.alloc _).alloc _).alloc _)).mono ?_
  rintro e w2 ⟨rfl, ho, h2⟩
  clear hr
  have K1 := Blk.fresh3 h2
  have K2 := Blk.fresh2 h2
  have K3 := Blk.fresh h2
  replace hbw := below_next3 hbw h2
  simp only [World.size_alloc] at K2 K3 ho
  have z1 := K1.lt
  have z2 := K2.lt
  have z3 := K3.lt
  have f2 := K2.frozen
  have f3 := K3.frozen
  have a1 := K1.cell
  have d0 : w2.cell? ⟨w.heap.size + 1, 0, none⟩ = some (.int .i64 0) := K2.cell 0
  have d1 : w2.cell? ⟨w.heap.size + 1, 1, none⟩ = some (.slice none 0 0) := K2.cell 1
  have d2 : w2.cell? ⟨w.heap.size + 1, 2, none⟩ = some (.int .i64 0) := K2.cell 2
  have d3 : w2.cell? ⟨w.heap.size + 1, 3, none⟩ = some (.int .i64 0) := K2.cell 3
  have e0 : w2.cell? ⟨w.heap.size + 1 + 1, 0, none⟩ = some (.int .i64 m) := K3.cell 0
  have e1 : w2.cell? ⟨w.heap.size + 1 + 1, 1, none⟩ = some (.slice none 0 0) := K3.cell 1
  have e2 : w2.cell? ⟨w.heap.size + 1 + 1, 2, none⟩ = some (.int .i64 0) := K3.cell 2
  have e3 : w2.cell? ⟨w.heap.size + 1 + 1, 3, none⟩ = some (.int .i64 0) := K3.cell 3
  clear K1 K2 K3 h2
  go_wp2
  refine bodyPost_ret (by simp [results, Try.results21, go_sem, d0, d1, d2, d3]; try rfl) rfl ?_
  refine ⟨_, rfl, ?_, ?_, (by repeat' (first | (with_reducible exact Below.refl _ _) | (with_reducible assumption) | (with_reducible refine below_drewN ?_ _) | (with_reducible refine Below.drew ?_) | (with_reducible refine Below.alloc ?_ ?_ _) | (with_reducible refine Below.setCell ?_ ?_ _) | go_size))⟩
  · repeat (first | (with_reducible exact ho) | (with_reducible refine Own.far ?_ (by simp <;> omega) _))
  · omega
end Go.Proofs.Ytfapdhfjcnehhaa

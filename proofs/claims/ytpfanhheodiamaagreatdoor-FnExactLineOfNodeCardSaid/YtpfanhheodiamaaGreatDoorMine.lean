
/-
  Plain words for memory, continued: a slice in a block of the call's own, or nil.
-/
import Derived.Test.YtpfanhheodiamaaGreatDoorMemB
import Derived.Laws.MakeOwn
import Derived.OwnWalk
namespace Go.Proofs.YtpfanhheodiamaaGreatDoor
open Go.RowKit

/-- The slice at A of n elements (size s each) with capacity c is nil, or lies at the head of a block from B on, and reads as xs. -/
def Mine (w : World) (B : Nat) (e : TypeId) (s : Nat) (A : Option Addr) (n c : Nat) (xs : List Value) : Prop := w.ownsRow B e s (.slice A n c) n xs

section
variable {w w' w2 : World} {B : Nat} {e : TypeId} {s : Nat} {A : Option Addr} {n c : Nat} {xs : List Value} {o o' o'' : Obj}
theorem Mine.of {v : Value} (h : w.ownsRow B e s v n xs) : ∃ A c, v = .slice A n c ∧ Mine w B e s A n c xs := by
  obtain ⟨h1, h2⟩ := h
  rcases h2 with ⟨rfl, rfl⟩ | ⟨g, cap, cur, rfl, r⟩
  · exact ⟨none, 0, rfl, h1, .inl ⟨rfl, rfl⟩⟩
  · exact ⟨_, cap, rfl, h1, .inr ⟨g, cap, cur, rfl, r⟩⟩
theorem Mine.len (h : Mine w B e s A n c xs) : xs.length = n * s := h.1
theorem Mine.own (h : Mine w B e s A n c xs) : (A = none ∧ n = 0 ∧ c = 0) ∨ ∃ g, A = some ⟨g, 0, none⟩ ∧ B ≤ g ∧ n ≤ c ∧ c ≤ maxLen ∧ Own w g e (c * s) xs := by
  obtain ⟨h1, h2⟩ := h
  rcases h2 with ⟨h2, h3⟩ | ⟨g, cap, cur, hv, hg, hh, hn, hc, hsz, ht⟩
  · injection h2 with a b d
    exact .inl ⟨a, h3, d⟩
  · injection hv with a b d
    subst a; subst d
    refine .inr ⟨g, rfl, hg, hn, hc, cur.toList.drop (n * s), ?_, ?_⟩
    · have e1 : (xs ++ cur.toList.drop (n * s)).toArray = cur := by rw [← ht, List.take_append_drop]
      rw [e1]; exact hh
    · rw [← ht, List.take_append_drop]; simpa using hsz
theorem Mine.mk_own {g : Nat} (h : Own w g e (c * s) xs) (hl : xs.length = n * s) (hg : B ≤ g) (hn : n ≤ c) (hc : c ≤ maxLen) : Mine w B e s (some ⟨g, 0, none⟩) n c xs := by
  obtain ⟨rest, hb, hs⟩ := h
  refine ⟨hl, .inr ⟨g, c, _, rfl, hg, hb, hn, hc, by simpa using hs, ?_⟩⟩
  rw [← hl]; simp
theorem Mine.mk_nil (w : World) (B : Nat) (e : TypeId) (s : Nat) : Mine w B e s none 0 0 [] := ⟨by simp, .inl ⟨rfl, rfl⟩⟩
theorem Mine.rd (h : Mine w B e s A n c xs) : Rd w s A n xs := by
  rcases h.own with ⟨rfl, rfl, _⟩ | ⟨g, rfl, _, _, _, ho⟩
  · have : xs = [] := List.eq_nil_of_length_eq_zero (by simpa using h.len)
    subst this; exact Rd.none_ _ _ _
  · exact ho.rd h.len
theorem Mine.grown {row : Option Nat} (h : Mine w B e s A n c xs) (hg : w.grownBy w' row) (hne : ∀ g, row = some g → g < B ∨ A.map (·.block) ≠ some g) : Mine w' B e s A n c xs := by
  have hl := h.len
  rcases h.own with ⟨rfl, rfl, rfl⟩ | ⟨g, rfl, hB, hn, hc, rest, hb, hs⟩
  · exact ⟨hl, .inl ⟨rfl, rfl⟩⟩
  · refine Mine.mk_own ⟨rest, hb.grown hg (fun q => ?_), hs⟩ hl hB hn hc
    rcases hne g q.symm with h1 | h1
    · omega
    · exact h1 rfl
theorem Mine.next (h : Mine w B e s A n c xs) (hb : Below w.heap.size w w') : Mine w' B e s A n c xs := by
  have hl := h.len
  rcases h.own with ⟨rfl, rfl, rfl⟩ | ⟨g, rfl, hB, hn, hc, ho⟩
  · exact ⟨hl, .inl ⟨rfl, rfl⟩⟩
  · exact Mine.mk_own (ho.next hb) hl hB hn hc
theorem Mine.alloc (h : Mine w B e s A n c xs) (o : Obj) : Mine (w.alloc o) B e s A n c xs := h.next ((Below.refl _ _).alloc (Nat.le_refl _) o)
theorem Mine.next1 (h : Mine w B e s A n c xs) (hb : Below (w.alloc o).heap.size (w.alloc o) w2) : Mine w2 B e s A n c xs := (h.alloc o).next hb
theorem Mine.next2 (h : Mine w B e s A n c xs) (hb : Below ((w.alloc o).alloc o').heap.size ((w.alloc o).alloc o') w2) : Mine w2 B e s A n c xs := ((h.alloc o).alloc o').next hb
theorem Mine.drewN (h : Mine w B e s A n c xs) (k : Nat) : Mine (w.drewN k) B e s A n c xs := h
theorem Mine.drew (h : Mine w B e s A n c xs) : Mine w.drew B e s A n c xs := h
theorem Mine.more (h : Mine w B e s A n c xs) {B' : Nat} (hB : B' ≤ B) : Mine w B' e s A n c xs := by
  have hl := h.len
  rcases h.own with ⟨rfl, rfl, rfl⟩ | ⟨g, rfl, hg, hn, hc, ho⟩
  · exact ⟨hl, .inl ⟨rfl, rfl⟩⟩
  · exact Mine.mk_own ho hl (by omega) hn hc
theorem own_empty (w : World) (e : TypeId) (s : Nat) : (w.alloc (.cells #[] e)).ownsRow w.heap.size e s (.slice (some ⟨w.heap.size, 0, none⟩) 0 0) 0 [] :=
  ⟨by simp, .inr ⟨w.heap.size, 0, #[], rfl, Nat.le_refl _, heap_alloc_new w _, Nat.le_refl _, Nat.zero_le _, by simp, by simp⟩⟩
/-- Of a slice of the call's own the block, or none. -/
theorem Mine.blk (h : Mine w B e s A n c xs) {g : Nat} (hg : A.map (·.block) = some g) : B ≤ g ∧ g < w.heap.size := by
  rcases h.own with ⟨rfl, _⟩ | ⟨g', rfl, hB, _, _, ho⟩
  · simp at hg
  · simp at hg; subst hg; exact ⟨hB, ho.lt⟩

theorem Rd.lt {size : Nat} (h : Rd w size A n xs) (hn : 0 < n) : ∀ b off, A = some ⟨b, off, none⟩ → b < w.heap.size := fun b off e => by
  obtain ⟨b', off', e', hb, _⟩ := h.2 hn
  rw [e] at e'
  injection e' with e'
  injection e' with e1
  omega
theorem Rd.turned {size : Nat} {row : Option Nat} (h : Rd w size A n xs) (hg : w.grownBy w' row) (hne : 0 < n → ∀ g, row = some g → ∀ b off, A = some ⟨b, off, none⟩ → b ≠ g) : Rd w' size A n xs :=
  ⟨h.1, fun hn => by
    obtain ⟨b, off, e, hb, hc⟩ := h.2 hn
    refine ⟨b, off, e, Nat.lt_of_lt_of_le hb hg.size, fun j u hj => (World.cell?_of_block (a := ⟨b, off + j, none⟩) (hg.block b hb (fun q => ?_))).trans (hc j u hj)⟩
    exact hne hn b q.symm b off e rfl⟩
theorem Blk.turned {g : Nat} {t : TypeId} {cs : Array Value} {row : Option Nat} (h : Blk w g t cs) (hb : w.grownBy w' row) (hg : ∀ q, row = some q → g ≠ q) : Blk w' g t cs :=
  h.grown hb (fun q => hg g q.symm rfl)
theorem Own.grown {g cap : Nat} {t : TypeId} {row : Option Nat} (h : Own w g t cap xs) (hb : w.grownBy w' row) (hg : ∀ q, row = some q → g ≠ q) : Own w' g t cap xs := by
  obtain ⟨rest, h1, h2⟩ := h; exact ⟨rest, h1.turned hb hg, h2⟩
theorem below_turned {W : World} {row : Option Nat} (h : Below W.heap.size W w) (hg : w.grownBy w' row) (hr : ∀ g, row = some g → W.heap.size ≤ g) : Below W.heap.size W w' :=
  h.grown hg h.size hr
end
theorem Mine.apart {w : World} {B B' : Nat} {e e' : TypeId} {s s' : Nat} {A A' : Option Addr} {n c n' c' : Nat} {xs xs' : List Value} (h : Mine w B e s A n c xs) (h' : Mine w B' e' s' A' n' c' xs') (hne : e ≠ e') {g : Nat} (hg : A'.map (·.block) = some g) : A.map (·.block) ≠ some g := by
  intro h2
  rcases h.own with ⟨rfl, _⟩ | ⟨a, rfl, _, _, _, r, hb, _⟩
  · simp at h2
  · rcases h'.own with ⟨rfl, _⟩ | ⟨a', rfl, _, _, _, r', hb', _⟩
    · simp at hg
    · simp at h2 hg
      subst h2; subst hg
      have := hb.symm.trans hb'
      injection this with this
      injection this with _ this
      exact hne this

theorem ownBlk (A : Option Addr) (n c : Nat) : (Value.slice A n c).ownBlock = A.map (·.block) := by cases A <;> rfl
theorem nil_or_snoc {α : Type} (l : List α) : l = [] ∨ ∃ i d, l = i ++ [d] := by
  by_cases h : l = []
  · exact .inl h
  · exact .inr ⟨l.dropLast, l.getLast h, (List.dropLast_concat_getLast h).symm⟩
/-- Texts in a slice of the call's own, or nil. -/
theorem str_at {w : World} {A : Option Addr} {n k : Nat} {l : List ByteArray} {x : ByteArray} (h : Rd w 1 A n (strCells l)) (hk : k < n) (hd : l[k]? = some x) :
    ∃ b off, A = some ⟨b, off, none⟩ ∧ b < w.heap.size ∧ w.cell? ⟨b, off + k, none⟩ = some (.string x) := by
  obtain ⟨b, off, e, hb, hc⟩ := h.at_ (by omega)
  exact ⟨b, off, e, hb, hc k _ (by unfold strCells; rw [List.getElem?_map, hd]; rfl)⟩
theorem strCells_len (l : List ByteArray) : (strCells l).length = l.length := by simp [strCells]
end Go.Proofs.YtpfanhheodiamaaGreatDoor

/-
  Plain lemmas: what two texts have alike at their beginnings, and then at their ends.
-/
namespace Go.Proofs.Ytbddfbgbjlfocaa

/-- Alike in the first k places. -/
def Pre (a b : ByteArray) (k : Nat) : Prop := k ≤ a.size ∧ k ≤ b.size ∧ ∀ i, i < k → a.data[i]? = b.data[i]?
/-- As far as it goes. -/
def IsCom (a b : ByteArray) (k : Nat) : Prop := Pre a b k ∧ (k < a.size → k < b.size → a.data[k]? ≠ b.data[k]?)
/-- Alike in the last m places, which lie behind the first n. -/
def Suf (a b : ByteArray) (n m : Nat) : Prop := m ≤ a.size - n ∧ m ≤ b.size - n ∧ ∀ i, i < m → a.data[a.size - 1 - i]? = b.data[b.size - 1 - i]?
def IsEnd (a b : ByteArray) (n m : Nat) : Prop := Suf a b n m ∧ (m < a.size - n → m < b.size - n → a.data[a.size - 1 - m]? ≠ b.data[b.size - 1 - m]?)

theorem pre_zero (a b : ByteArray) : Pre a b 0 := ⟨Nat.zero_le _, Nat.zero_le _, fun i hi => absurd hi (by omega)⟩
theorem suf_zero (a b : ByteArray) (n : Nat) : Suf a b n 0 := ⟨Nat.zero_le _, Nat.zero_le _, fun i hi => absurd hi (by omega)⟩
theorem at_eq {a : ByteArray} {i : Nat} (h : i < a.size) : a.data[i]? = some a[i] := by
  rw [Array.getElem?_eq_getElem (by simpa using h)]; rfl
theorem byte_eq {x y : UInt8} (h : ((x.toNat : Int) == (y.toNat : Int)) = true) : x = y := by
  have h2 := eq_of_beq h
  exact UInt8.toNat_inj.1 (by omega)
theorem byte_ne {x y : UInt8} (h : ((x.toNat : Int) == (y.toNat : Int)) = false) : x ≠ y := by
  rintro rfl
  simp at h

theorem pre_step {a b : ByteArray} {k : Nat} (hp : Pre a b k) (h1 : k < a.size) (h2 : k < b.size) (hq : ((a[k].toNat : Int) == (b[k].toNat : Int)) = true) : Pre a b (k + 1) := by
  refine ⟨h1, h2, fun i hi => ?_⟩
  by_cases e : i = k
  · subst e; rw [at_eq h1, at_eq h2, byte_eq hq]
  · exact hp.2.2 i (by omega)
theorem com_here {a b : ByteArray} {k : Nat} (hp : Pre a b k) (h1 : k < a.size) (h2 : k < b.size) (hq : ((a[k].toNat : Int) == (b[k].toNat : Int)) = false) : IsCom a b k :=
  ⟨hp, fun g1 g2 h => by rw [at_eq g1, at_eq g2] at h; exact byte_ne hq (Option.some.inj h)⟩
theorem com_end {a b : ByteArray} {k : Nat} (hp : Pre a b k) (h : ¬ (k < a.size ∧ k < b.size)) : IsCom a b k := ⟨hp, fun g1 g2 => absurd ⟨g1, g2⟩ h⟩

theorem suf_step {a b : ByteArray} {n k i j : Nat} (hp : Suf a b n k) (h1 : k < a.size - n) (h2 : k < b.size - n) (hi : i = a.size - 1 - k) (hj : j = b.size - 1 - k) (gi : i < a.size) (gj : j < b.size)
    (hq : ((a[i].toNat : Int) == (b[j].toNat : Int)) = true) : Suf a b n (k + 1) := by
  refine ⟨h1, h2, fun x hx => ?_⟩
  by_cases e : x = k
  · subst e; subst hi; subst hj; rw [at_eq gi, at_eq gj, byte_eq hq]
  · exact hp.2.2 x (by omega)
theorem end_here {a b : ByteArray} {n k i j : Nat} (hp : Suf a b n k) (hi : i = a.size - 1 - k) (hj : j = b.size - 1 - k) (gi : i < a.size) (gj : j < b.size)
    (hq : ((a[i].toNat : Int) == (b[j].toNat : Int)) = false) : IsEnd a b n k :=
  ⟨hp, fun g1 g2 h => by subst hi; subst hj; rw [at_eq gi, at_eq gj] at h; exact byte_ne hq (Option.some.inj h)⟩
theorem end_end {a b : ByteArray} {n k : Nat} (hp : Suf a b n k) (h : ¬ (k < a.size - n ∧ k < b.size - n)) : IsEnd a b n k := ⟨hp, fun g1 g2 => absurd ⟨g1, g2⟩ h⟩

theorem com_one {a b : ByteArray} {k l : Nat} (h : IsCom a b k) (g : IsCom a b l) : k = l := by
  obtain ⟨⟨h1, h2, h3⟩, h4⟩ := h
  obtain ⟨⟨g1, g2, g3⟩, g4⟩ := g
  rcases Nat.lt_trichotomy k l with e | e | e
  · exact absurd (g3 k e) (h4 (by omega) (by omega))
  · exact e
  · exact absurd (h3 l e) (g4 (by omega) (by omega))
theorem end_one {a b : ByteArray} {n k l : Nat} (h : IsEnd a b n k) (g : IsEnd a b n l) : k = l := by
  obtain ⟨⟨h1, h2, h3⟩, h4⟩ := h
  obtain ⟨⟨g1, g2, g3⟩, g4⟩ := g
  rcases Nat.lt_trichotomy k l with e | e | e
  · exact absurd (g3 k e) (h4 (by omega) (by omega))
  · exact e
  · exact absurd (h3 l e) (g4 (by omega) (by omega))

/-- What makes b of a: From, To, and the text. -/
def IsChangeOf (a b : ByteArray) (n m : Nat) : Prop := IsCom a b n ∧ IsEnd a b n m
end Go.Proofs.Ytbddfbgbjlfocaa

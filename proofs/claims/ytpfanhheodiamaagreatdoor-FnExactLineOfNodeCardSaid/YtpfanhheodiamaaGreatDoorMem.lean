
/-
  Plain words for memory: a slice that reads as a list of cells (an element has 'size' of them); a block of the call's own that is filled cell by cell.
-/
import Derived.Test.YtpfanhheodiamaaGreatDoorBase
import Derived.Laws.MakeOwn
namespace Go.Proofs.YtpfanhheodiamaaGreatDoor
open Go.RowKit

/-- The slice at A of n elements reads as these cells. -/
def Rd (w : World) (size : Nat) (A : Option Addr) (n : Nat) (xs : List Value) : Prop :=
  xs.length = n * size ∧ (0 < n → ∃ b off, A = some ⟨b, off, none⟩ ∧ b < w.heap.size ∧ ∀ j u, xs[j]? = some u → w.cell? ⟨b, off + j, none⟩ = some u)

section
variable {w w' : World} {size n : Nat} {A : Option Addr} {xs : List Value}
theorem Rd.none_ (w : World) (size : Nat) (A : Option Addr) : Rd w size A 0 [] := ⟨by simp, fun h => absurd h (by omega)⟩
theorem Rd.keep (h : Rd w size A n xs) (hz : w.heap.size ≤ w'.heap.size) (hk : ∀ b o, b < w.heap.size → w'.cell? ⟨b, o, none⟩ = w.cell? ⟨b, o, none⟩) : Rd w' size A n xs :=
  ⟨h.1, fun hne => by
    obtain ⟨b, off, e, hb, hc⟩ := h.2 hne
    exact ⟨b, off, e, by omega, fun j u hj => (hk b _ hb).trans (hc j u hj)⟩⟩
theorem Rd.below (h : Rd w size A n xs) (hb : Below w.heap.size w w') : Rd w' size A n xs := h.keep hb.size (bcell hb).1
theorem Rd.next (h : Rd w size A n xs) (hb : Below w.heap.size w w') : Rd w' size A n xs := h.below hb
theorem Rd.alloc (h : Rd w size A n xs) (o : Obj) : Rd (w.alloc o) size A n xs := h.below ((Below.refl _ _).alloc (Nat.le_refl _) o)
theorem Rd.next1 {o : Obj} (h : Rd w size A n xs) (hb : Below (w.alloc o).heap.size (w.alloc o) w') : Rd w' size A n xs := (h.alloc o).next hb
theorem Rd.next2 {o o' : Obj} (h : Rd w size A n xs) (hb : Below ((w.alloc o).alloc o').heap.size ((w.alloc o).alloc o') w') : Rd w' size A n xs := ((h.alloc o).alloc o').next hb
theorem Rd.drewN (h : Rd w size A n xs) (k : Nat) : Rd (w.drewN k) size A n xs := h
theorem Rd.drew (h : Rd w size A n xs) : Rd w.drew size A n xs := h
theorem Rd.at_ (h : Rd w size A n xs) (hk : 0 < n) : ∃ b off, A = some ⟨b, off, none⟩ ∧ b < w.heap.size ∧ ∀ j u, xs[j]? = some u → w.cell? ⟨b, off + j, none⟩ = some u := h.2 hk
end

/-- What the first k of a list come to. -/
def sumK {α : Type} (f : α → Nat) (l : List α) (k : Nat) : Nat := ((l.take k).map f).sum
theorem sumK_zero {α : Type} (f : α → Nat) (l : List α) : sumK f l 0 = 0 := by simp [sumK]
theorem sumK_succ {α : Type} (f : α → Nat) (l : List α) (k : Nat) (d : α) (h : l[k]? = some d) : sumK f l (k + 1) = sumK f l k + f d := by
  unfold sumK; rw [List.take_add_one, h]; simp
theorem sumK_le {α : Type} (f : α → Nat) (l : List α) (k : Nat) : sumK f l k ≤ (l.map f).sum := by
  have h : (l.map f).sum = ((l.take k).map f).sum + ((l.drop k).map f).sum := by
    rw [← List.sum_append, ← List.map_append, List.take_append_drop]
  unfold sumK; omega
theorem sumK_all {α : Type} (f : α → Nat) (l : List α) (k : Nat) (h : l.length ≤ k) : sumK f l k = (l.map f).sum := by
  unfold sumK; rw [List.take_of_length_le h]
theorem mem_le_sum {α : Type} (f : α → Nat) {l : List α} {d : α} (h : d ∈ l) : f d ≤ (l.map f).sum := by
  induction l with
  | nil => cases h
  | cons x l ih =>
    simp only [List.map_cons, List.sum_cons]
    rcases List.mem_cons.1 h with rfl | h
    · omega
    · have := ih h; omega
/-- The cells of a list of elements. -/
theorem flat_len {α : Type} (f : α → List Value) {size : Nat} (hf : ∀ d, (f d).length = size) (l : List α) : (l.flatMap f).length = l.length * size := by
  induction l with
  | nil => simp
  | cons d l ih => simp only [List.flatMap_cons, List.length_append, List.length_cons, ih, hf, Nat.add_mul]; omega
theorem flat_get {α : Type} (f : α → List Value) {size : Nat} (hf : ∀ d, (f d).length = size) : ∀ {l : List α} {i : Nat} {d : α}, l[i]? = some d → ∀ {j : Nat} {v : Value}, (f d)[j]? = some v → (l.flatMap f)[i * size + j]? = some v := by
  intro l
  induction l with
  | nil => intro i d h; simp at h
  | cons x l ih =>
    intro i d h j v hj
    cases i with
    | zero =>
      simp at h; subst h
      have hlt : j < (f x).length := (List.getElem?_eq_some_iff.1 hj).1
      simp only [List.flatMap_cons, Nat.zero_mul, Nat.zero_add]
      rw [List.getElem?_append_left hlt]; exact hj
    | succ i =>
      simp at h
      simp only [List.flatMap_cons]
      rw [List.getElem?_append_right (by rw [hf, Nat.add_mul]; omega)]
      rw [hf, show (i + 1) * size + j - size = i * size + j from by rw [Nat.add_mul]; omega]
      exact ih h hj

theorem flat_inv {α : Type} (f : α → List Value) {size : Nat} (hf : ∀ d, (f d).length = size) (hs : 0 < size) : ∀ (l : List α) (x : Nat), (l.flatMap f)[x]? = l[x / size]?.bind (fun d => (f d)[x % size]?) := by
  intro l
  induction l with
  | nil => intro x; simp
  | cons d l ih =>
    intro x
    simp only [List.flatMap_cons]
    by_cases h : x < size
    · rw [List.getElem?_append_left (by rw [hf]; exact h), Nat.div_eq_of_lt h, Nat.mod_eq_of_lt h]; simp
    · rw [List.getElem?_append_right (by rw [hf]; omega), hf, ih]
      have e1 : x / size = (x - size) / size + 1 := by
        have h2 : x = (x - size) + size := by omega
        conv => lhs; rw [h2]
        exact Nat.add_div_right _ hs
      have e2 : x % size = (x - size) % size := by
        have h2 : x = (x - size) + size := by omega
        conv => lhs; rw [h2]
        exact Nat.add_mod_right _ _
      rw [e1, e2, List.getElem?_cons_succ]

theorem block_of_cell {w : World} {b o : Nat} {v : Value} (h : w.cell? ⟨b, o, none⟩ = some v) : b < w.heap.size := by
  rcases Nat.lt_or_ge b w.heap.size with hl | hl
  · exact hl
  · exfalso
    have h2 : w.heap[b]? = none := Array.getElem?_eq_none hl
    simp [World.cell?, h2] at h

/-- A slice each element of which reads as something reads as a list. -/
theorem rd_of_elems {α : Type} {W : World} {a : Addr} {n size : Nat} (cells : α → List Value) (Pr : α → Prop) (hlen : ∀ d, (cells d).length = size) (hsz : 0 < size)
    (h : ∀ i, i < n → ∃ d : α, Pr d ∧ ∀ j v, (cells d)[j]? = some v → W.cell? (a.add (i * size + j)) = some v) :
    ∃ l : List α, l.length = n ∧ Rd W size (some a) n (l.flatMap cells) ∧ ∀ d ∈ l, Pr d := by
  refine ⟨List.ofFn (fun i : Fin n => Classical.choose (h i.1 i.2)), by simp, ⟨by rw [flat_len cells hlen]; simp, fun hn => ?_⟩, ?_⟩
  · have hall : ∀ j u, ((List.ofFn (fun i : Fin n => Classical.choose (h i.1 i.2))).flatMap cells)[j]? = some u → W.cell? (a.add j) = some u := by
      intro j u hj
      rw [flat_inv cells hlen hsz] at hj
      obtain ⟨d, hd, hu⟩ := Option.bind_eq_some_iff.1 hj
      rw [List.getElem?_ofFn] at hd
      split at hd
      · rename_i hlt
        obtain rfl := Option.some.inj hd
        have h2 := (Classical.choose_spec (h (j / size) hlt)).2 (j % size) u hu
        rwa [show j / size * size + j % size = j from by rw [Nat.mul_comm]; exact Nat.div_add_mod j size] at h2
      · cases hd
    obtain ⟨b, off, spot⟩ := a
    have hne : ∃ u, ((List.ofFn (fun i : Fin n => Classical.choose (h i.1 i.2))).flatMap cells)[0]? = some u := by
      have hl : 0 < ((List.ofFn (fun i : Fin n => Classical.choose (h i.1 i.2))).flatMap cells).length := by
        rw [flat_len cells hlen]; simp only [List.length_ofFn]; exact Nat.mul_pos hn hsz
      exact ⟨_, List.getElem?_eq_getElem hl⟩
    obtain ⟨u, hu⟩ := hne
    have hspot : spot = none := by simpa [Addr.add] using World.cell?_spot (hall 0 u hu)
    subst hspot
    have hall2 : ∀ j u, ((List.ofFn (fun i : Fin n => Classical.choose (h i.1 i.2))).flatMap cells)[j]? = some u → W.cell? ⟨b, off + j, none⟩ = some u := fun j u hj => by
      rw [← Go.WideShapes.add_plain]; exact hall j u hj
    exact ⟨b, off, rfl, block_of_cell (hall2 0 u hu), hall2⟩
  · intro d hd
    obtain ⟨i, hi⟩ := List.mem_iff_getElem?.1 hd
    rw [List.getElem?_ofFn] at hi
    split at hi
    · rename_i hlt
      obtain rfl := Option.some.inj hi
      exact (Classical.choose_spec (h i hlt)).1
    · cases hi

/-- Block g holds 'cap' cells of element type t, of which the first are xs. -/
def Own (w : World) (g : Nat) (t : TypeId) (cap : Nat) (xs : List Value) : Prop :=
  ∃ rest : List Value, Blk w g t (xs ++ rest).toArray ∧ (xs ++ rest).length = cap

section
variable {w w' : World} {g : Nat} {t : TypeId} {cap : Nat} {xs : List Value} {o : Obj}
theorem Own.lt (h : Own w g t cap xs) : g < w.heap.size := by obtain ⟨cs, hb, _⟩ := h; exact hb.lt
theorem Own.next (h : Own w g t cap xs) (hb : Below w.heap.size w w') : Own w' g t cap xs := by
  obtain ⟨cs, hb', h'⟩ := h; exact ⟨cs, hb'.next hb, h'⟩
theorem Own.next1 (h : Own w g t cap xs) (hb : Below (w.alloc o).heap.size (w.alloc o) w') : Own w' g t cap xs := by
  obtain ⟨cs, hb', h'⟩ := h; exact ⟨cs, hb'.next1 hb, h'⟩
theorem Own.drewN (h : Own w g t cap xs) (k : Nat) : Own (w.drewN k) g t cap xs := h
theorem Own.drew (h : Own w g t cap xs) : Own w.drew g t cap xs := h
theorem Own.there (h : Own w g t cap xs) {i : Nat} (hi : i < cap) : ∃ v, w.cell? ⟨g, i, none⟩ = some v := by
  obtain ⟨rest, hb, hs⟩ := h
  exact ⟨(xs ++ rest)[i]'(by omega), by rw [hb.cell]; simp⟩
theorem Own.frozen (h : Own w g t cap xs) (i : Nat) : w.frozen? ⟨g, i, none⟩ = false := by obtain ⟨cs, hb, _⟩ := h; exact hb.frozen i
theorem Own.push (h : Own w g t cap xs) (hk : xs.length < cap) {i : Nat} (hi : i = xs.length) (u : Value) : Own (w.setCell ⟨g, i, none⟩ u) g t cap (xs ++ [u]) := by
  subst hi
  obtain ⟨rest, hb, hs⟩ := h
  match rest, hb, hs with
  | [], _, hs => simp at hs; omega
  | r :: rest, hb, hs =>
    refine ⟨rest, ?_, by simpa using hs⟩
    have h2 := hb.set_ xs.length u
    have e : ((xs ++ r :: rest).toArray).setIfInBounds xs.length u = ((xs ++ [u]) ++ rest).toArray := by
      simp
    rwa [e] at h2
theorem Own.rd {size n : Nat} (h : Own w g t cap xs) (hl : xs.length = n * size) : Rd w size (some ⟨g, 0, none⟩) n xs := ⟨hl, fun _ => by
  obtain ⟨rest, hb, hs⟩ := h
  refine ⟨g, 0, rfl, hb.lt, fun j u hj => ?_⟩
  rw [hb.cell, Nat.zero_add]
  have hlt : j < xs.length := (List.getElem?_eq_some_iff.1 hj).1
  simpa [List.getElem?_append_left hlt] using hj⟩
end

/-- A slice that has just been made of these cells. -/
theorem Rd.fresh {size n : Nat} (w : World) (t : TypeId) (xs : List Value) (hl : xs.length = n * size) : Rd (w.alloc (.cells xs.toArray t)) size (some ⟨w.heap.size, 0, none⟩) n xs :=
  ⟨hl, fun _ => ⟨w.heap.size, 0, rfl, (Blk.new w t xs.toArray).lt, fun j u hj => by rw [(Blk.new w t xs.toArray).cell, Nat.zero_add]; simpa using hj⟩⟩
theorem Own.alloc {w : World} {g : Nat} {t : TypeId} {cap : Nat} {xs : List Value} (h : Own w g t cap xs) (o : Obj) : Own (w.alloc o) g t cap xs := by
  obtain ⟨rest, hb, hs⟩ := h; exact ⟨rest, hb.alloc o, hs⟩
theorem Own.far {w : World} {g : Nat} {t : TypeId} {cap : Nat} {xs : List Value} (h : Own w g t cap xs) {p : Addr} (hp : g ≠ p.block) (u : Value) : Own (w.setCell p u) g t cap xs := by
  obtain ⟨rest, hb, hs⟩ := h; exact ⟨rest, hb.far hp u, hs⟩
theorem Blk.fresh3 {w w2 : World} {t : TypeId} {cs : Array Value} {o o' : Obj} (h : Below (((w.alloc (.cells cs t)).alloc o).alloc o').heap.size (((w.alloc (.cells cs t)).alloc o).alloc o') w2) : Blk w2 w.heap.size t cs :=
  (((Blk.new w t cs).alloc o).alloc o').next h
theorem below_next3 {W w w2 : World} {o o' o'' : Obj} (h1 : Below W.heap.size W w) (h2 : Below (((w.alloc o).alloc o').alloc o'').heap.size (((w.alloc o).alloc o').alloc o'') w2) : Below W.heap.size W w2 := below_next2 (h1.alloc h1.size o) h2
theorem str_ne {x t : ByteArray} (h : x ≠ t) : (x.toList == t.toList) = false := by
  rw [beq_eq_false_iff_ne]
  intro e
  rw [ByteArray.toList_eq, ByteArray.toList_eq] at e
  exact h (Go.WideShapes.bytes_inj e)
theorem grownBy_trans' {a b c : World} {row : Option Nat} (h : a.grownBy b row) (k : b.grownBy c row) : a.grownBy c row :=
  ⟨k.os.trans h.os, k.tape.trans h.tape, k.output.trans h.output, Nat.le_trans h.size k.size, fun i hi hne => (k.block i (Nat.lt_of_lt_of_le hi h.size) hne).trans (h.block i hi hne)⟩
/-- make([]T, n) where T has any number of cells. -/
theorem run_make_rowN {P : Program} (t e : TypeId) (i : TypeInfo) (z : Value) (ht : P.underlying t = some (.slice e)) (hi : P.info? e = some i) (hz : i.zero = some z)
    (kl kc : IntKind) (n c : Nat) (hnc : n ≤ c) (hbytes : i.bytes * c ≤ 281474976710656) (h63 : c ≤ 9223372036854775807) (w : World) :
    (Instr.makeSlice t (.int kl (n : Int)) (.int kc (c : Int))).run P w = .ok (.slice (some ⟨w.heap.size, 0, none⟩) n c) (w.alloc (.cells (madeCells z.cells (c * i.size)) e)) := by
  have hb : (i.bytes : Int) * (c : Int) ≤ 281474976710656 := by
    have h : ((i.bytes * c : Nat) : Int) ≤ 281474976710656 := by omega
    rwa [Int.natCast_mul] at h
  have hr := run_make (P := P) w t e i z ht hi hz kl kc n c (by omega) (by omega) hb (by omega)
  simp only [Int.toNat_natCast] at hr
  exact hr
theorem Own.made {w : World} {e : TypeId} {cs : Array Value} {cap : Nat} (h : cs.size = cap) : Own (w.alloc (.cells cs e)) w.heap.size e cap [] :=
  ⟨cs.toList, by simpa using Blk.new w e cs, by simpa using h⟩
end Go.Proofs.YtpfanhheodiamaaGreatDoor

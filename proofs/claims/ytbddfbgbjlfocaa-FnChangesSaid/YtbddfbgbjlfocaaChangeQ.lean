/-
  Plain lemmas: what makes one text of another one does, and can be changed back.
-/
import Derived.Test.YtbddfbgbjlfocaaChangeD
namespace Go.Proofs.Ytbddfbgbjlfocaa

theorem ext_list (x : ByteArray) (i j : Nat) : (x.extract i j).data.toList = (x.data.toList.take j).drop i := by
  rw [ByteArray.data_extract, Array.toList_extract, List.extract_eq_take_drop]
  rw [List.take_drop, List.drop_take]
  simp [List.drop_take]
theorem ba_ext {x y : ByteArray} (h : x.data.toList = y.data.toList) : x = y := by
  apply ByteArray.ext
  exact Array.toList_inj.1 h
theorem ba_app (x y : ByteArray) : (x ++ y).data.toList = x.data.toList ++ y.data.toList := by rw [ByteArray.data_append]; simp
theorem ba_len (x : ByteArray) : x.data.toList.length = x.size := by rw [Array.length_toList]; rfl

theorem parts_list (l : List UInt8) (n j : Nat) (h : n ≤ j) : l.take n ++ (l.take j).drop n ++ l.drop j = l := by
  have e : l.take n = (l.take j).take n := by rw [List.take_take, Nat.min_eq_left h]
  rw [e, List.take_append_drop, List.take_append_drop]
theorem pre_take {a b : ByteArray} {n : Nat} (h : Pre a b n) : a.data.toList.take n = b.data.toList.take n := by
  obtain ⟨h1, h2, h3⟩ := h
  apply List.ext_getElem?
  intro i
  rw [List.getElem?_take, List.getElem?_take]
  by_cases hi : i < n
  · have := h3 i hi
    simpa [hi] using this
  · simp [hi]
theorem suf_drop {a b : ByteArray} {n m : Nat} (h : Suf a b n m) : a.data.toList.drop (a.size - m) = b.data.toList.drop (b.size - m) := by
  obtain ⟨h1, h2, h3⟩ := h
  apply List.ext_getElem?
  intro i
  rw [List.getElem?_drop, List.getElem?_drop]
  by_cases hi : i < m
  · have h4 := h3 (m - 1 - i) (by omega)
    rw [show a.size - 1 - (m - 1 - i) = a.size - m + i from by omega, show b.size - 1 - (m - 1 - i) = b.size - m + i from by omega] at h4
    simpa using h4
  · rw [List.getElem?_eq_none (by rw [ba_len]; omega), List.getElem?_eq_none (by rw [ba_len]; omega)]

theorem chDo_nat (t s : ByteArray) (i j : Nat) : (chDo t s i j).data.toList = t.data.toList.take i ++ s.data.toList ++ t.data.toList.drop j := by
  unfold chDo
  rw [ba_app, ba_app, ext_list, ext_list]
  simp only [Int.toNat_natCast, List.drop_zero]
  rw [List.take_of_length_le (l := t.data.toList) (i := t.size) (by rw [ba_len]; omega)]

theorem cut_size (b : ByteArray) (n m : Nat) (h : n + m ≤ b.size) : (b.extract n (b.size - m)).size = b.size - m - n := by
  rw [ByteArray.size_extract]; omega
/-- What is known of the change of a into b. -/
theorem change_does {a b : ByteArray} {n m : Nat} (h : IsChangeOf a b n m) :
    n + m ≤ a.size ∧ n + m ≤ b.size ∧ chDo a (b.extract n (b.size - m)) n (a.size - m : Nat) = b ∧ chDo b (a.extract n (a.size - m)) n (b.size - m : Nat) = a := by
  obtain ⟨⟨hp, _⟩, hs, _⟩ := h
  have q1 : n ≤ a.size := hp.1
  have q2 : n ≤ b.size := hp.2.1
  have q3 : m ≤ a.size - n := hs.1
  have q4 : m ≤ b.size - n := hs.2.1
  refine ⟨by omega, by omega, ?_, ?_⟩
  · apply ba_ext
    rw [chDo_nat, ext_list, pre_take hp, suf_drop hs]
    exact parts_list _ _ _ (by omega)
  · apply ba_ext
    rw [chDo_nat, ext_list, ← pre_take hp, ← suf_drop hs]
    exact parts_list _ _ _ (by omega)

/-- Where a byte that stays has gone. -/
theorem change_moves {a b : ByteArray} {n m i : Nat} (h : IsChangeOf a b n m) (hi : i < a.size) (ho : i < n ∨ a.size - m ≤ i) :
    ∃ j : Nat, j < b.size ∧ a.data[i]? = b.data[j]? ∧ (j : Int) = (if i < n then (i : Int) else (i : Int) + b.size - a.size) := by
  obtain ⟨⟨hp, _⟩, hs, _⟩ := h
  have q1 : n ≤ a.size := hp.1
  have q2 : n ≤ b.size := hp.2.1
  have q3 : m ≤ a.size - n := hs.1
  have q4 : m ≤ b.size - n := hs.2.1
  by_cases h1 : i < n
  · exact ⟨i, by omega, hp.2.2 i h1, by rw [if_pos h1]⟩
  · have h2 := hs.2.2 (a.size - 1 - i) (by omega)
    rw [show a.size - 1 - (a.size - 1 - i) = i from by omega] at h2
    exact ⟨b.size - 1 - (a.size - 1 - i), by omega, h2, by rw [if_neg h1]; omega⟩
end Go.Proofs.Ytbddfbgbjlfocaa

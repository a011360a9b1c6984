/-
  Contracts: changes one behind the other (chapter 28), and the law on them.
-/
import Derived.Test.YtbddfbgbjlfocaaChangeC
import Derived.Test.YtbddfbgbjlfocaaFamChange
namespace Go.Proofs.Ytbddfbgbjlfocaa
open Go.RowKit
set_option linter.unusedVariables false

/-- One behind the other; nothing when one is not right then. -/
def chGo (t : ByteArray) : List ChangeD → Option ByteArray
  | [] => some t
  | d :: l => if chOk t.size d.1 d.2.1 then chGo (chDo t d.2.2 d.1 d.2.1) l else none
def chAllT (t : ByteArray) (l : List ChangeD) : ByteArray := (chGo t l).getD t
def chAllB (t : ByteArray) (l : List ChangeD) : Bool := (chGo t l).isSome
/-- u is what t has become behind the first k. -/
def ChAt (t : ByteArray) (l : List ChangeD) (k : Nat) (u : ByteArray) : Prop := chGo t l = chGo u (l.drop k) ∧ u.size ≤ t.size + sumK szChange l k
theorem chAt_zero (t : ByteArray) (l : List ChangeD) : ChAt t l 0 t := ⟨by simp, by omega⟩
theorem chDo_size (t s : ByteArray) (a b : Int) (h : chOk t.size a b = true) : (chDo t s a b).size ≤ t.size + s.size := by
  obtain ⟨h0, h1, h2⟩ := of_decide_eq_true h
  unfold chDo
  simp only [ByteArray.size_append, ByteArray.size_extract]
  omega
theorem chAt_step {t : ByteArray} {l : List ChangeD} {k : Nat} {u : ByteArray} {x0 x1 : Int} {x2 : ByteArray} (h : ChAt t l k u) (hd : l[k]? = some (x0, x1, x2)) (hok : chOk u.size x0 x1 = true) : ChAt t l (k + 1) (chDo u x2 x0 x1) := by
  obtain ⟨h1, h2⟩ := h
  have hk : k < l.length := (List.getElem?_eq_some_iff.1 hd).1
  have e : l.drop k = (x0, x1, x2) :: l.drop (k + 1) := by
    rw [List.drop_eq_getElem_cons hk]
    congr 1
    exact Option.some.inj ((List.getElem?_eq_getElem hk).symm.trans hd)
  refine ⟨by rw [h1, e]; simp [chGo, hok], ?_⟩
  have h3 := chDo_size u x2 x0 x1 hok
  rw [sumK_succ szChange l k _ hd]
  have h4 : szChange (x0, x1, x2) = x2.size := rfl
  omega
theorem chAt_no {t : ByteArray} {l : List ChangeD} {k : Nat} {u : ByteArray} {x0 x1 : Int} {x2 : ByteArray} (h : ChAt t l k u) (hd : l[k]? = some (x0, x1, x2)) (hok : chOk u.size x0 x1 = false) : chAllT t l = t ∧ chAllB t l = false := by
  obtain ⟨h1, h2⟩ := h
  have hk : k < l.length := (List.getElem?_eq_some_iff.1 hd).1
  have e : l.drop k = (x0, x1, x2) :: l.drop (k + 1) := by
    rw [List.drop_eq_getElem_cons hk]
    congr 1
    exact Option.some.inj ((List.getElem?_eq_getElem hk).symm.trans hd)
  have h3 : chGo t l = none := by rw [h1, e]; simp [chGo, hok]
  simp [chAllT, chAllB, h3]
theorem chAt_all {t : ByteArray} {l : List ChangeD} {k : Nat} {u : ByteArray} (h : ChAt t l k u) (hk : l.length ≤ k) : chAllT t l = u ∧ chAllB t l = true := by
  have h3 : chGo t l = some u := by rw [h.1, List.drop_eq_nil_of_le hk]; rfl
  simp [chAllT, chAllB, h3]
theorem ret_pair {a a' : ByteArray} {b b' : Bool} (h : a = a' ∧ b = b') : Ending.returned (.tuple #[.string a', .bool b']) = .returned (.tuple #[.string a, .bool b]) := by rw [h.1, h.2]

set_option maxHeartbeats 800000 in
theorem specChangedAll_any (t : ByteArray) (A : Option Addr) (n c : Nat) (l : List ChangeD) (w : World) (ht : t.size ≤ 1048576) (hn : n ≤ 1048576) (hl : l.length = n) (hsz : (l.map szChange).sum ≤ 1048576) (hr : Rd w 3 A n (l.flatMap changeCells)) :
    Calls Try.prog 44 #[.string t, .slice A n c] w fun e w' => e = .returned (.tuple #[.string (chAllT t l), .bool (chAllB t l)]) ∧ Below w.heap.size w w' := by
  have HL := Lib.hid hl
  have HZ := Lib.hid hsz
  clear hl hsz
  go_enter Try.func44, Try.ntmps44
  go_wp2
  go_loopw [6, 7] (fun o i wr => ∃ (k : Nat) (u : ByteArray), k ≤ n ∧ ChAt t l k u ∧ i = .int .i64 k ∧ o = .string u ∧ Below w.heap.size w wr) (fun _ i _ => n - (intOf i).toNat)
  case atStart => exact ⟨0, t, Nat.zero_le _, chAt_zero t l, rfl, rfl, Below.refl _ _⟩
  case round =>
    obtain ⟨k, u, hk, hat, rfl, rfl, hb⟩ := hrel
    by_cases hkn : k < n
    · obtain ⟨⟨x0, x1, x2⟩, hd⟩ : ∃ d, l[k]? = some d := ⟨_, List.getElem?_eq_getElem (by have := HL.out; omega)⟩
      obtain ⟨b, off, rfl, hblt, c0, c1, c2⟩ := change_at (hr.below hb) hkn hd
      have hu : u.size ≤ 4194304 := by have h1 := hat.2; have h2 := sumK_le szChange l k; have := HZ.out; omega
      have hx : x2.size ≤ 4194304 := by have h1 := mem_le_sum szChange (List.mem_of_getElem? hd); have h2 : szChange (x0, x1, x2) = x2.size := rfl; have := HZ.out; omega
      have hzb := hb.size
      cases hok : chOk u.size x0 x1 with
      | true =>
        have hst := chAt_step hat hd hok
        have HO := Lib.hid hok
        clear hr hd hok
        go_wp2_with fail
        refine (specChanged_yes _ _ _ _ _ hu hx (of_decide_eq_true HO.out).1 (of_decide_eq_true HO.out).2.1 (of_decide_eq_true HO.out).2.2).mono ?_
        rintro e w2 ⟨rfl, h2⟩
        have hb2 : Below w.heap.size w w2 := hb.trans (h2.mono hb.size)
        clear hblt c0 c1 c2
        go_wp2
        go_roundw
        case rel => exact ⟨k + 1, _, by omega, hst, by go_num, rfl, hb2⟩
        case measure => simp [intOf]; omega
      | false =>
        have hst := chAt_no hat hd hok
        have HO := Lib.hid hok
        clear hr hd hok
        go_wp2_with fail
        refine (specChanged_no _ _ _ _ _ hu HO.out).mono ?_
        rintro e w2 ⟨rfl, h2⟩
        have hb2 : Below w.heap.size w w2 := hb.trans (h2.mono hb.size)
        clear hblt c0 c1 c2
        go_wp2
        go_ret2
        exact ⟨ret_pair hst, hb2⟩
    · have hst := chAt_all hat (by have := HL.out; omega)
      go_wp2
      go_ret2
      exact ⟨ret_pair hst, hb⟩
set_option maxHeartbeats 800000 in
theorem implChangedAll_any (t : ByteArray) (A : Option Addr) (n c : Nat) (l : List ChangeD) (w : World) (ht : t.size ≤ 1048576) (hn : n ≤ 1048576) (hl : l.length = n) (hsz : (l.map szChange).sum ≤ 1048576) (hr : Rd w 3 A n (l.flatMap changeCells)) :
    Calls Try.prog 46 #[.string t, .slice A n c] w fun e w' => e = .returned (.tuple #[.string (chAllT t l), .bool (chAllB t l)]) ∧ Below w.heap.size w w' := by
  have HL := Lib.hid hl
  have HZ := Lib.hid hsz
  clear hl hsz
  go_enter Try.func46, Try.ntmps46
  go_wp2
  go_loopw [6, 14] (fun o i wr => ∃ (k : Nat) (u : ByteArray), k ≤ n ∧ ChAt t l k u ∧ i = .int .i64 k ∧ o = .string u ∧ Below w.heap.size w wr) (fun _ i _ => n - (intOf i).toNat)
  case atStart => exact ⟨0, t, Nat.zero_le _, chAt_zero t l, rfl, rfl, Below.refl _ _⟩
  case round =>
    obtain ⟨k, u, hk, hat, rfl, rfl, hb⟩ := hrel
    by_cases hkn : k < n
    · obtain ⟨⟨x0, x1, x2⟩, hd⟩ : ∃ d, l[k]? = some d := ⟨_, List.getElem?_eq_getElem (by have := HL.out; omega)⟩
      obtain ⟨b, off, rfl, hblt, c0, c1, c2⟩ := change_at (hr.below hb) hkn hd
      have hu : u.size ≤ 4194304 := by have h1 := hat.2; have h2 := sumK_le szChange l k; have := HZ.out; omega
      have hx : x2.size ≤ 4194304 := by have h1 := mem_le_sum szChange (List.mem_of_getElem? hd); have h2 : szChange (x0, x1, x2) = x2.size := rfl; have := HZ.out; omega
      have hzb := hb.size
      cases hok : chOk u.size x0 x1 with
      | true =>
        have hst := chAt_step hat hd hok
        have HO := Lib.hid hok
        clear hr hd hok
        go_wp2_with fail
        refine (implChanged_yes _ _ _ _ _ hu hx (of_decide_eq_true HO.out).1 (of_decide_eq_true HO.out).2.1 (of_decide_eq_true HO.out).2.2).mono ?_
        rintro e w2 ⟨rfl, h2⟩
        have hb2 : Below w.heap.size w w2 := below_next1 hb h2
        clear hblt c0 c1 c2
        go_wp2
        go_roundw
        case rel => exact ⟨k + 1, _, by omega, hst, by go_num, rfl, hb2⟩
        case measure => simp [intOf]; omega
      | false =>
        have hst := chAt_no hat hd hok
        have HO := Lib.hid hok
        clear hr hd hok
        go_wp2_with fail
        refine (implChanged_no _ _ _ _ _ HO.out).mono ?_
        rintro e w2 ⟨rfl, h2⟩
        have hb2 : Below w.heap.size w w2 := below_next1 hb h2
        clear hblt c0 c1 c2
        go_wp2
        go_ret2
        exact ⟨ret_pair hst, hb2⟩
    · have hst := chAt_all hat (by have := HL.out; omega)
      go_wp2
      go_ret2
      exact ⟨ret_pair hst, hb⟩

theorem szChangeS_fit (A : Option Addr) (n c : Nat) (l : List ChangeD) (w : World) (hl : l.length = n) (hr : Rd w 3 A n (l.flatMap changeCells)) (hle : szChangeL l ≤ 1048576) :
    Calls Try.prog 43 #[.slice A n c, .int .i64 1048576] w fun e w' => e = .returned (.int .i64 (1048576 - (szChangeL l : Nat))) ∧ Below w.heap.size w w' :=
  szChangeS_ok A n c l 1048576 w (by omega) hl hr (by omega)
theorem szChangeS_over (A : Option Addr) (n c : Nat) (l : List ChangeD) (w : World) (hn : n ≤ maxLen) (hl : l.length = n) (hr : Rd w 3 A n (l.flatMap changeCells)) (hs : ∀ d ∈ l, OkChange d) (hle : 1048576 < szChangeL l) :
    Calls Try.prog 43 #[.slice A n c, .int .i64 1048576] w fun e w' => e = .returned (.int .i64 (-1)) ∧ Below w.heap.size w w' :=
  szChangeS_big A n c l 1048576 w (by omega) (by omega) hn hl hr hs (by omega)

set_option maxHeartbeats 800000 in
theorem lawChangedAll (t : ByteArray) (A : Option Addr) (n c : Nat) (l : List ChangeD) (w : World) (ht : t.size ≤ maxLen) (hh : l.length = n ∧ n ≤ maxLen ∧ Rd w 3 A n (l.flatMap changeCells) ∧ ∀ d ∈ l, OkChange d) :
    Calls Try.prog 11 #[.string t, .slice A n c] w fun e w' => e = .returned (.bool true) ∧ Below w.heap.size w w' := by
  obtain ⟨hl, hn, hr, hs⟩ := hh
  by_cases h0 : 1048576 < t.size
  · clear hl hn hs hr
    unfold maxLen at ht
    go_enter Try.func11, Try.ntmps11
    go_wp2
    go_ret
    exact ⟨rfl, (by repeat' (first | (with_reducible exact Below.refl _ _) | (with_reducible assumption) | (with_reducible refine below_drewN ?_ _) | (with_reducible refine Below.drew ?_) | (with_reducible refine Below.alloc ?_ ?_ _) | (with_reducible refine Below.setCell ?_ ?_ _) | go_size))⟩
  have HT : t.size ≤ 1048576 := by omega
  have HL := Lib.hid hl
  have HS := Lib.hid hs
  have HN := Lib.hid hn
  have hb := Below.refl w.heap.size w
  clear hl hs hn ht h0
  by_cases hsz : szChangeL l ≤ 1048576
  · have HZ := Lib.hid hsz
    have HM := Lib.hid (show (l.map szChange).sum ≤ 1048576 by unfold szChangeL at hsz; omega)
    have g0 : (0 : Int) ≤ 1048576 - (szChangeL l : Nat) := by omega
    have g1 : n ≤ 1048576 := by unfold szChangeL at hsz; have := HL.out; omega
    clear hsz
    go_enter Try.func11, Try.ntmps11
    go_wp2_with fail
    refine (szChangeS_fit _ _ _ _ _ HL.out hr HZ.out).mono ?_
    rintro e w2 ⟨rfl, h2⟩
    replace hr := by first | exact hr.next h2 | exact hr.next1 h2 | exact hr.next2 h2
    replace hb := by first | exact below_next hb h2 | exact below_next1 hb h2 | exact below_next2 hb h2
    clear h2
    go_wp2_with fail
    refine (toChangeS_any _ _ _ _ _ g1 HL.out hr).mono ?_
    rintro e w2 ⟨rfl, o1, h2⟩
    replace hr := by first | exact hr.next h2 | exact hr.next1 h2 | exact hr.next2 h2
    replace hb := by first | exact below_next hb h2 | exact below_next1 hb h2 | exact below_next2 hb h2
    clear h2
    have r1 := Own.rd (size := 3) (n := n) o1 (by rw [flat_len changeCells changeCells_len, HL.out])
    go_wp2_with fail
    refine (specChangedAll_any _ _ _ _ _ _ HT g1 HL.out HM.out r1).mono ?_
    rintro e w2 ⟨rfl, h2⟩
    replace hr := by first | exact hr.next h2 | exact hr.next1 h2 | exact hr.next2 h2
    replace hb := by first | exact below_next hb h2 | exact below_next1 hb h2 | exact below_next2 hb h2
    clear h2
    clear r1 o1
    go_wp2_with fail
    refine (toChangeS_any _ _ _ _ _ g1 HL.out hr).mono ?_
    rintro e w2 ⟨rfl, o1, h2⟩
    replace hr := by first | exact hr.next h2 | exact hr.next1 h2 | exact hr.next2 h2
    replace hb := by first | exact below_next hb h2 | exact below_next1 hb h2 | exact below_next2 hb h2
    clear h2
    have r1 := Own.rd (size := 3) (n := n) o1 (by rw [flat_len changeCells changeCells_len, HL.out])
    go_wp2_with fail
    refine (implChangedAll_any _ _ _ _ _ _ HT g1 HL.out HM.out r1).mono ?_
    rintro e w2 ⟨rfl, h2⟩
    replace hr := by first | exact hr.next h2 | exact hr.next1 h2 | exact hr.next2 h2
    replace r1 := by first | exact r1.next h2 | exact r1.next1 h2 | exact r1.next2 h2
    replace hb := by first | exact below_next hb h2 | exact below_next1 hb h2 | exact below_next2 hb h2
    clear h2
    clear o1
    go_wp2_with fail
    refine (toChangeS_any _ _ _ _ _ g1 HL.out hr).mono ?_
    rintro e w2 ⟨rfl, o2, h2⟩
    replace r1 := by first | exact r1.next h2 | exact r1.next1 h2 | exact r1.next2 h2
    replace hb := by first | exact below_next hb h2 | exact below_next1 hb h2 | exact below_next2 hb h2
    clear h2
    have r2 := Own.rd (size := 3) (n := n) o2 (by rw [flat_len changeCells changeCells_len, HL.out])
    go_wp2_with fail
    refine (eqChangeS_same _ _ _ _ _ _ _ (by omega) HL.out r1 r2).mono ?_
    rintro e w2 ⟨rfl, h2⟩
    replace hb := by first | exact below_next hb h2 | exact below_next1 hb h2 | exact below_next2 hb h2
    clear h2
    go_wp2
    go_ret
    exact ⟨rfl, (by repeat' (first | (with_reducible exact Below.refl _ _) | (with_reducible assumption) | (with_reducible refine below_drewN ?_ _) | (with_reducible refine Below.drew ?_) | (with_reducible refine Below.alloc ?_ ?_ _) | (with_reducible refine Below.setCell ?_ ?_ _) | go_size))⟩
  · go_enter Try.func11, Try.ntmps11
    go_wp2_with fail
    refine (szChangeS_over _ _ _ _ _ HN.out HL.out hr HS.out (by omega)).mono ?_
    rintro e w2 ⟨rfl, h2⟩
    replace hb := by first | exact below_next hb h2 | exact below_next1 hb h2 | exact below_next2 hb h2
    clear h2
    go_wp2
    go_ret
    exact ⟨rfl, (by repeat' (first | (with_reducible exact Below.refl _ _) | (with_reducible assumption) | (with_reducible refine below_drewN ?_ _) | (with_reducible refine Below.drew ?_) | (with_reducible refine Below.alloc ?_ ?_ _) | (with_reducible refine Below.setCell ?_ ?_ _) | go_size))⟩
end Go.Proofs.Ytbddfbgbjlfocaa

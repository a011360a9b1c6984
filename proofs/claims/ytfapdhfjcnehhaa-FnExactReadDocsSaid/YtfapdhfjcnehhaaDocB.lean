
/-
  Contracts: whether files are right (chapter 31), and the law on it.
-/
import Derived.Test.YtfapdhfjcnehhaaOptions
import Derived.Test.YtfapdhfjcnehhaaFamDoc
import Derived.WalkLawsBesides
namespace Go.Proofs.Ytfapdhfjcnehhaa
open Go.RowKit
set_option linter.unusedVariables false

def lc (c : UInt8) : Bool := decide (97 ≤ c.toNat ∧ c.toNat ≤ 122)
def nmAll (s : ByteArray) : Bool := s.data.toList.all lc
def AllTo (s : ByteArray) (k : Nat) : Prop := (s.data.toList.take k).all lc = true
theorem allTo_zero (s : ByteArray) : AllTo s 0 := by simp [AllTo]
theorem allTo_step {s : ByteArray} {k : Nat} (h : AllTo s k) (hk : k < s.size) (hc : lc s[k] = true) : AllTo s (k + 1) := by
  unfold AllTo at h ⊢
  rw [List.take_succ_eq_append_getElem (by simpa using hk), List.all_append, h]
  simp only [Bool.true_and, List.all_cons, List.all_nil, Bool.and_true]
  exact hc
theorem allTo_no {s : ByteArray} {k : Nat} (hk : k < s.size) (hc : lc s[k] = false) : nmAll s = false := by
  unfold nmAll
  rw [List.all_eq_false]
  exact ⟨s[k], by rw [show s[k] = s.data.toList[k]'(by simpa using hk) from rfl]; exact List.getElem_mem _, by simp [hc]⟩
theorem allTo_all {s : ByteArray} {k : Nat} (h : AllTo s k) (hk : k = s.size) : nmAll s = true := by
  unfold AllTo at h; unfold nmAll
  rwa [List.take_of_length_le (by simp [hk])] at h
def nmOk (s : ByteArray) : Bool := nmAll s && inB s.size 1 12

set_option maxHeartbeats 400000 in
theorem l31Name_any (s : ByteArray) (w : World) (hs : s.size ≤ maxLen) : Calls Try.prog 57 #[.string s] w fun e w' => e = .returned (.bool (nmOk s)) ∧ w = w' := by
  unfold maxLen at hs
  go_enter Try.func57, Try.ntmps57
  go_wp2
  go_loop [3] (fun i => ∃ k : Nat, k ≤ s.size ∧ AllTo s k ∧ i = .int .i64 k) (fun i => s.size - (intOf i).toNat)
  case atStart => exact ⟨0, Nat.zero_le _, allTo_zero s, rfl⟩
  case round =>
    obtain ⟨k, hk, ha, rfl⟩ := hrel
    by_cases hlt : k < s.size
    · by_cases h1 : (s[k].toNat : Int) < 97
      · have hn := Lib.hid (allTo_no hlt (by unfold lc; exact decide_eq_false (by omega)))
        go_wp2
        go_ret
        exact ⟨by rw [nmOk, hn.out]; rfl, rfl⟩
      · by_cases h2 : (122 : Int) < s[k].toNat
        · have hn := Lib.hid (allTo_no hlt (by unfold lc; exact decide_eq_false (by omega)))
          go_wp2
          go_ret
          exact ⟨by rw [nmOk, hn.out]; rfl, rfl⟩
        · have hn := allTo_step ha hlt (by unfold lc; exact decide_eq_true (by omega))
          go_wp2
          go_round
          case rel => exact ⟨k + 1, by omega, hn, by go_num⟩
          case measure => simp [intOf]; omega
    · have hn := Lib.hid (allTo_all ha (by omega))
      go_wp2_with (go_at_call 66; refine (l01In_b _ _ _ _).mono ?_; rintro e w1 ⟨rfl, rfl⟩)
      go_ret
      exact ⟨by rw [nmOk, hn.out]; rfl, rfl⟩
set_option maxHeartbeats 400000 in
theorem isDocName_any (s : ByteArray) (w : World) (hs : s.size ≤ maxLen) : Calls Try.prog 55 #[.string s] w fun e w' => e = .returned (.bool (nmOk s)) ∧ w = w' := by
  unfold maxLen at hs
  go_enter Try.func55, Try.ntmps55
  go_wp2
  go_loop [3] (fun i => ∃ k : Nat, k ≤ s.size ∧ AllTo s k ∧ i = .int .i64 k) (fun i => s.size - (intOf i).toNat)
  case atStart => exact ⟨0, Nat.zero_le _, allTo_zero s, rfl⟩
  case round =>
    obtain ⟨k, hk, ha, rfl⟩ := hrel
    by_cases hlt : k < s.size
    · by_cases h1 : (s[k].toNat : Int) < 97
      · have hn := Lib.hid (allTo_no hlt (by unfold lc; exact decide_eq_false (by omega)))
        go_wp2
        go_ret
        exact ⟨by rw [nmOk, hn.out]; rfl, rfl⟩
      · by_cases h2 : (122 : Int) < s[k].toNat
        · have hn := Lib.hid (allTo_no hlt (by unfold lc; exact decide_eq_false (by omega)))
          go_wp2
          go_ret
          exact ⟨by rw [nmOk, hn.out]; rfl, rfl⟩
        · have hn := allTo_step ha hlt (by unfold lc; exact decide_eq_true (by omega))
          go_wp2
          go_round
          case rel => exact ⟨k + 1, by omega, hn, by go_num⟩
          case measure => simp [intOf]; omega
    · have hn := Lib.hid (allTo_all ha (by omega))
      go_wp2_with (go_at_call 65; refine (inRange_b _ _ _ _).mono ?_; rintro e w1 ⟨rfl, rfl⟩)
      go_ret
      exact ⟨by rw [nmOk, hn.out]; rfl, rfl⟩

/-- What is wrong with file k: its name; its text; its place. -/
def docBad (p : Option DocD) (d : DocD) : Bool := !nmOk d.1 || decide (3000 < d.2.size) || (match p with | none => false | some q => !Op.bytesLess q.1.toList d.1.toList)
def docAt (l : List DocD) (k : Nat) : Bool := match l[k]? with | none => false | some d => docBad (if k = 0 then none else l[k - 1]?) d
def docsGood (l : List DocD) : Bool := (List.range l.length).all (fun k => !docAt l k)
def GoodTo (l : List DocD) (k : Nat) : Prop := ∀ j, j < k → docAt l j = false
def docsOkB (l : List DocD) : Bool := docsGood l && decide (l.length ≤ 6)
theorem goodTo_step {l : List DocD} {k : Nat} (h : GoodTo l k) (hk : docAt l k = false) : GoodTo l (k + 1) := fun j hj => by
  by_cases e : j = k
  · subst e; exact hk
  · exact h j (by omega)
theorem goodTo_all {l : List DocD} {k : Nat} (h : GoodTo l k) (hk : k = l.length) : docsGood l = true := by
  unfold docsGood
  rw [List.all_eq_true]
  intro j hj
  rw [h j (by have := List.mem_range.1 hj; omega)]; rfl
theorem goodTo_no {l : List DocD} {k : Nat} (hk : k < l.length) (h : docAt l k = true) : docsOkB l = false := by
  unfold docsOkB docsGood
  rw [show (List.range l.length).all (fun k => !docAt l k) = false from List.all_eq_false.2 ⟨k, List.mem_range.2 hk, by simp [h]⟩]; rfl

set_option maxRecDepth 100000 in
set_option maxHeartbeats 800000 in
theorem specDocsOk_any (A : Option Addr) (n c : Nat) (l : List DocD) (w : World) (hn : n ≤ 4194304) (hl : l.length = n) (hr : Rd w 2 A n (l.flatMap docCells)) (hs : ∀ d ∈ l, OkDoc d) :
    Calls Try.prog 35 #[.slice A n c] w fun e w' => e = .returned (.bool (docsOkB l)) ∧ Below w.heap.size w w' := by
  have HL := Lib.hid hl
  have HS := Lib.hid hs
  clear hl hs
  go_enter Try.func35, Try.ntmps35
  go_wp2
  go_loopw [3] (fun i wr => ∃ k : Nat, k ≤ n ∧ GoodTo l k ∧ i = .int .i64 k ∧ Below w.heap.size w wr) (fun i _ => n - (intOf i).toNat)
  case atStart => exact ⟨0, Nat.zero_le _, fun j hj => absurd hj (by omega), rfl, Below.refl _ _⟩
  case round =>
    obtain ⟨k, hk, hg, rfl, hb⟩ := hrel
    by_cases hkn : k < n
    · obtain ⟨⟨x0, x1⟩, hd⟩ : ∃ d, l[k]? = some d := ⟨_, List.getElem?_eq_getElem (by have := HL.out; omega)⟩
      obtain ⟨b, off, rfl, hblt, c0, c1⟩ := doc_at (hr.below hb) hkn hd
      have hx := Lib.hid (HS.out _ (List.mem_of_getElem? hd))
      have HD := Lib.hid hd
      cases hnm : nmOk x0 with
      | false =>
        have hbad := Lib.hid (goodTo_no (l := l) (k := k) (by have := HL.out; omega) (by simp [docAt, HD.out, docBad, hnm]))
        clear hd hr
        go_wp2_with fail
        go_quiet ((go_at_call 57; exact Calls.quiet_of_same ((l31Name_any _ _ hx.out.1).mono fun _ _ h => ⟨h.1, h.2.symm⟩)))
        go_wp2
        go_ret
        exact ⟨by rw [hbad.out]; rfl, (by repeat' (first | (with_reducible exact Below.refl _ _) | (with_reducible assumption) | (with_reducible refine below_drewN ?_ _) | (with_reducible refine Below.drew ?_) | (with_reducible refine Below.alloc ?_ ?_ _) | (with_reducible refine Below.setCell ?_ ?_ _) | go_size))⟩
      | true =>
        by_cases ht : 3000 < x1.size
        · have hbad := Lib.hid (goodTo_no (l := l) (k := k) (by have := HL.out; omega) (by simp [docAt, HD.out, docBad, ht]))
          clear hd hr
          go_wp2_with fail
          have d1 : decide ((3000 : Int) < x1.size) = true := decide_eq_true (by omega)
          go_quiet ((go_at_call 57; exact Calls.quiet_of_same ((l31Name_any _ _ hx.out.1).mono fun _ _ h => ⟨h.1, h.2.symm⟩)))
          go_wp2
          go_ret
          exact ⟨by rw [hbad.out]; rfl, (by repeat' (first | (with_reducible exact Below.refl _ _) | (with_reducible assumption) | (with_reducible refine below_drewN ?_ _) | (with_reducible refine Below.drew ?_) | (with_reducible refine Below.alloc ?_ ?_ _) | (with_reducible refine Below.setCell ?_ ?_ _) | go_size))⟩
        · by_cases hk0 : k = 0
          · have hgood := Lib.hid (goodTo_step hg (by subst hk0; simp [docAt, HD.out, docBad, hnm, ht]))
            have d1 : decide ((3000 : Int) < x1.size) = false := decide_eq_false (by omega)
            have d2 : decide (0 < k) = false := decide_eq_false (by omega)
            clear hd hr ht hk0
            go_wp2_with fail
            go_quiet ((go_at_call 57; exact Calls.quiet_of_same ((l31Name_any _ _ hx.out.1).mono fun _ _ h => ⟨h.1, h.2.symm⟩)))
            go_wp2
            go_roundw
            case rel => exact ⟨k + 1, by omega, hgood.out, by go_num, (by repeat' (first | (with_reducible exact Below.refl _ _) | (with_reducible assumption) | (with_reducible refine below_drewN ?_ _) | (with_reducible refine Below.drew ?_) | (with_reducible refine Below.alloc ?_ ?_ _) | (with_reducible refine Below.setCell ?_ ?_ _) | go_size))⟩
            case measure => simp [intOf]; omega
          · obtain ⟨⟨y0, y1⟩, hd'⟩ : ∃ d, l[k - 1]? = some d := ⟨_, List.getElem?_eq_getElem (by have := HL.out; omega)⟩
            obtain ⟨b', off', hA, hblt', p0, p1⟩ := doc_at (hr.below hb) (by omega) hd'
            simp only [Option.some.injEq, Addr.mk.injEq, and_true] at hA
            obtain ⟨rfl, rfl⟩ := hA
            have w1 : IntKind.i64.wrap ((k : Int) - 1) = k - 1 := IntWalk.i64_in _ (by omega)
            have i1 : (1 : Int) ≤ k := by omega
            have i2 : (k : Int) - 1 < n := by omega
            have i3 : ((k : Int) - 1).toNat = k - 1 := by omega
            have d1 : decide ((3000 : Int) < x1.size) = false := decide_eq_false (by omega)
            have d2 : decide (0 < k) = true := decide_eq_true (by omega)
            cases hbl : Op.bytesLess y0.toList x0.toList with
            | true =>
              have hgood := Lib.hid (goodTo_step hg (by simp [docAt, HD.out, docBad, hnm, ht, hk0, hd', hbl]))
              clear hd hr ht hk0 hd'
              go_wp2_with fail
              go_quiet ((go_at_call 57; exact Calls.quiet_of_same ((l31Name_any _ _ hx.out.1).mono fun _ _ h => ⟨h.1, h.2.symm⟩)))
              go_wp2
              go_roundw
              case rel => exact ⟨k + 1, by omega, hgood.out, by go_num, (by repeat' (first | (with_reducible exact Below.refl _ _) | (with_reducible assumption) | (with_reducible refine below_drewN ?_ _) | (with_reducible refine Below.drew ?_) | (with_reducible refine Below.alloc ?_ ?_ _) | (with_reducible refine Below.setCell ?_ ?_ _) | go_size))⟩
              case measure => simp [intOf]; omega
            | false =>
              have hbad := Lib.hid (goodTo_no (l := l) (k := k) (by have := HL.out; omega) (by simp [docAt, HD.out, docBad, hk0, hd', hbl]))
              clear hd hr ht hk0 hd'
              go_wp2_with fail
              go_quiet ((go_at_call 57; exact Calls.quiet_of_same ((l31Name_any _ _ hx.out.1).mono fun _ _ h => ⟨h.1, h.2.symm⟩)))
              go_wp2
              go_ret
              exact ⟨by rw [hbad.out]; rfl, (by repeat' (first | (with_reducible exact Below.refl _ _) | (with_reducible assumption) | (with_reducible refine below_drewN ?_ _) | (with_reducible refine Below.drew ?_) | (with_reducible refine Below.alloc ?_ ?_ _) | (with_reducible refine Below.setCell ?_ ?_ _) | go_size))⟩
    · have hgood := Lib.hid (goodTo_all hg (by have := HL.out; omega))
      have d1 := Lib.hid (show (decide ((n : Int) ≤ 6)) = docsOkB l by unfold docsOkB; rw [hgood.out, HL.out]; simp; omega)
      go_wp2
      go_ret
      exact ⟨ret_bool d1.out, (by repeat' (first | (with_reducible exact Below.refl _ _) | (with_reducible assumption) | (with_reducible refine below_drewN ?_ _) | (with_reducible refine Below.drew ?_) | (with_reducible refine Below.alloc ?_ ?_ _) | (with_reducible refine Below.setCell ?_ ?_ _) | go_size))⟩

set_option maxRecDepth 100000 in
set_option maxHeartbeats 800000 in
theorem implDocsOk_any (A : Option Addr) (n c : Nat) (l : List DocD) (w : World) (hn : n ≤ 4194304) (hl : l.length = n) (hr : Rd w 2 A n (l.flatMap docCells)) (hs : ∀ d ∈ l, OkDoc d) :
    Calls Try.prog 36 #[.slice A n c] w fun e w' => e = .returned (.bool (docsOkB l)) ∧ Below w.heap.size w w' := by
  have HL := Lib.hid hl
  have HS := Lib.hid hs
  clear hl hs
  go_enter Try.func36, Try.ntmps36
  go_wp2
  go_loopw [7] (fun i wr => ∃ k : Nat, k ≤ n ∧ GoodTo l k ∧ i = .int .i64 k ∧ Below w.heap.size w wr) (fun i _ => n - (intOf i).toNat)
  case atStart => exact ⟨0, Nat.zero_le _, fun j hj => absurd hj (by omega), rfl, Below.refl _ _⟩
  case round =>
    obtain ⟨k, hk, hg, rfl, hb⟩ := hrel
    by_cases hkn : k < n
    · obtain ⟨⟨x0, x1⟩, hd⟩ : ∃ d, l[k]? = some d := ⟨_, List.getElem?_eq_getElem (by have := HL.out; omega)⟩
      obtain ⟨b, off, rfl, hblt, c0, c1⟩ := doc_at (hr.below hb) hkn hd
      have hx := Lib.hid (HS.out _ (List.mem_of_getElem? hd))
      have hz0 := hb.size
      have HD := Lib.hid hd
      cases hnm : nmOk x0 with
      | false =>
        have hbad := Lib.hid (goodTo_no (l := l) (k := k) (by have := HL.out; omega) (by simp [docAt, HD.out, docBad, hnm]))
        clear hd hr
        go_wp2_with fail
        go_quiet ((go_at_call 55; exact Calls.quiet_of_same ((isDocName_any _ _ hx.out.1).mono fun _ _ h => ⟨h.1, h.2.symm⟩)))
        go_wp2
        go_ret
        exact ⟨by rw [hbad.out]; rfl, (by repeat' (first | (with_reducible exact Below.refl _ _) | (with_reducible assumption) | (with_reducible refine below_drewN ?_ _) | (with_reducible refine Below.drew ?_) | (with_reducible refine Below.alloc ?_ ?_ _) | (with_reducible refine Below.setCell ?_ ?_ _) | go_size))⟩
      | true =>
        by_cases ht : 3000 < x1.size
        · have hbad := Lib.hid (goodTo_no (l := l) (k := k) (by have := HL.out; omega) (by simp [docAt, HD.out, docBad, ht]))
          clear hd hr
          go_wp2_with fail
          have d1 : decide ((3000 : Int) < x1.size) = true := decide_eq_true (by omega)
          go_quiet ((go_at_call 55; exact Calls.quiet_of_same ((isDocName_any _ _ hx.out.1).mono fun _ _ h => ⟨h.1, h.2.symm⟩)))
          go_wp2
          go_ret
          exact ⟨by rw [hbad.out]; rfl, (by repeat' (first | (with_reducible exact Below.refl _ _) | (with_reducible assumption) | (with_reducible refine below_drewN ?_ _) | (with_reducible refine Below.drew ?_) | (with_reducible refine Below.alloc ?_ ?_ _) | (with_reducible refine Below.setCell ?_ ?_ _) | go_size))⟩
        · by_cases hk0 : k = 0
          · have hgood := Lib.hid (goodTo_step hg (by subst hk0; simp [docAt, HD.out, docBad, hnm, ht]))
            have d1 : decide ((3000 : Int) < x1.size) = false := decide_eq_false (by omega)
            have d2 : decide (0 < k) = false := decide_eq_false (by omega)
            clear hd hr ht hk0
            go_wp2_with fail
            go_quiet ((go_at_call 55; exact Calls.quiet_of_same ((isDocName_any _ _ hx.out.1).mono fun _ _ h => ⟨h.1, h.2.symm⟩)))
            go_wp2
            go_roundw
            case rel => exact ⟨k + 1, by omega, hgood.out, by go_num, (by repeat' (first | (with_reducible exact Below.refl _ _) | (with_reducible assumption) | (with_reducible refine below_drewN ?_ _) | (with_reducible refine Below.drew ?_) | (with_reducible refine Below.alloc ?_ ?_ _) | (with_reducible refine Below.setCell ?_ ?_ _) | go_size))⟩
            case measure => simp [intOf]; omega
          · obtain ⟨⟨y0, y1⟩, hd'⟩ : ∃ d, l[k - 1]? = some d := ⟨_, List.getElem?_eq_getElem (by have := HL.out; omega)⟩
            obtain ⟨b', off', hA, hblt', p0, p1⟩ := doc_at (hr.below hb) (by omega) hd'
            simp only [Option.some.injEq, Addr.mk.injEq, and_true] at hA
            obtain ⟨rfl, rfl⟩ := hA
            have w1 : IntKind.i64.wrap ((k : Int) - 1) = k - 1 := IntWalk.i64_in _ (by omega)
            have i1 : (1 : Int) ≤ k := by omega
            have i2 : (k : Int) - 1 < n := by omega
            have i3 : ((k : Int) - 1).toNat = k - 1 := by omega
            have d1 : decide ((3000 : Int) < x1.size) = false := decide_eq_false (by omega)
            have d2 : decide (0 < k) = true := decide_eq_true (by omega)
            cases hbl : Op.bytesLess y0.toList x0.toList with
            | true =>
              have hgood := Lib.hid (goodTo_step hg (by simp [docAt, HD.out, docBad, hnm, ht, hk0, hd', hbl]))
              clear hd hr ht hk0 hd'
              go_wp2_with fail
              go_quiet ((go_at_call 55; exact Calls.quiet_of_same ((isDocName_any _ _ hx.out.1).mono fun _ _ h => ⟨h.1, h.2.symm⟩)))
              go_wp2
              go_roundw
              case rel => exact ⟨k + 1, by omega, hgood.out, by go_num, (by repeat' (first | (with_reducible exact Below.refl _ _) | (with_reducible assumption) | (with_reducible refine below_drewN ?_ _) | (with_reducible refine Below.drew ?_) | (with_reducible refine Below.alloc ?_ ?_ _) | (with_reducible refine Below.setCell ?_ ?_ _) | go_size))⟩
              case measure => simp [intOf]; omega
            | false =>
              have hbad := Lib.hid (goodTo_no (l := l) (k := k) (by have := HL.out; omega) (by simp [docAt, HD.out, docBad, hk0, hd', hbl]))
              clear hd hr ht hk0 hd'
              go_wp2_with fail
              go_quiet ((go_at_call 55; exact Calls.quiet_of_same ((isDocName_any _ _ hx.out.1).mono fun _ _ h => ⟨h.1, h.2.symm⟩)))
              go_wp2
              go_ret
              exact ⟨by rw [hbad.out]; rfl, (by repeat' (first | (with_reducible exact Below.refl _ _) | (with_reducible assumption) | (with_reducible refine below_drewN ?_ _) | (with_reducible refine Below.drew ?_) | (with_reducible refine Below.alloc ?_ ?_ _) | (with_reducible refine Below.setCell ?_ ?_ _) | go_size))⟩
    · have hgood := Lib.hid (goodTo_all hg (by have := HL.out; omega))
      have d1 := Lib.hid (show (decide ((n : Int) ≤ 6)) = docsOkB l by unfold docsOkB; rw [hgood.out, HL.out]; simp; omega)
      go_wp2
      go_ret
      exact ⟨ret_bool d1.out, (by repeat' (first | (with_reducible exact Below.refl _ _) | (with_reducible assumption) | (with_reducible refine below_drewN ?_ _) | (with_reducible refine Below.drew ?_) | (with_reducible refine Below.alloc ?_ ?_ _) | (with_reducible refine Below.setCell ?_ ?_ _) | go_size))⟩

theorem szDocS_fit (A : Option Addr) (n c : Nat) (l : List DocD) (w : World) (hl : l.length = n) (hr : Rd w 2 A n (l.flatMap docCells)) (hle : szDocL l ≤ 1048576) :
    Calls Try.prog 7 #[.slice A n c, .int .i64 1048576] w fun e w' => e = .returned (.int .i64 (1048576 - (szDocL l : Nat))) ∧ Below w.heap.size w w' :=
  szDocS_ok A n c l 1048576 w (by omega) hl hr (by omega)
theorem szDocS_over (A : Option Addr) (n c : Nat) (l : List DocD) (w : World) (hn : n ≤ maxLen) (hl : l.length = n) (hr : Rd w 2 A n (l.flatMap docCells)) (hs : ∀ d ∈ l, OkDoc d) (hle : 1048576 < szDocL l) :
    Calls Try.prog 7 #[.slice A n c, .int .i64 1048576] w fun e w' => e = .returned (.int .i64 (-1)) ∧ Below w.heap.size w w' :=
  szDocS_big A n c l 1048576 w (by omega) (by omega) hn hl hr hs (by omega)
theorem ok_of_szDoc {l : List DocD} (h : szDocL l ≤ 1048576) : l.length ≤ 1048576 ∧ ∀ d ∈ l, OkDoc d := by
  unfold szDocL at h
  refine ⟨by omega, fun d hd => ?_⟩
  have h1 : szDoc d ≤ (l.map szDoc).sum := mem_le_sum szDoc hd
  have h2 : szDoc d = d.1.size + d.2.size := rfl
  unfold OkDoc maxLen
  omega

end Go.Proofs.Ytfapdhfjcnehhaa

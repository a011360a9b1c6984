
/-
  Contracts: files as one text (spec.DocsText).
-/
import Derived.Test.YtfapdhfjcnehhaaDocB
import Derived.Test.YtfapdhfjcnehhaaMemB
import Derived.Outline
import Derived.Deep.DeepCutAuto
namespace Go.Proofs.Ytfapdhfjcnehhaa
open Go.RowKit
set_option linter.unusedVariables false

/-- Does a text want a line's end? -/
def needNl (t : ByteArray) : Bool := match t.data.toList.getLast? with | none => false | some c => c != 10
def nlEnd (t : ByteArray) : List UInt8 := if needNl t then [10] else []
/-- A file with its head. -/
def docB (d : DocD) : List UInt8 := [61, 61, 61, 32] ++ d.1.data.toList ++ [10] ++ d.2.data.toList ++ nlEnd d.2
def docsTo (l : List DocD) (k : Nat) : List UInt8 := (l.take k).flatMap docB
def docsText (l : List DocD) : ByteArray := if docsOkB l then ⟨(l.flatMap docB).toArray⟩ else ⟨#[]⟩
theorem docsTo_zero (l : List DocD) : docsTo l 0 = [] := by simp [docsTo]
theorem docsTo_step {l : List DocD} {k : Nat} {d : DocD} (h : l[k]? = some d) : docsTo l (k + 1) = docsTo l k ++ docB d := by
  unfold docsTo; rw [List.take_add_one, h]; simp
theorem docsTo_all {l : List DocD} {k : Nat} (h : l.length ≤ k) : docsTo l k = l.flatMap docB := by
  unfold docsTo; rw [List.take_of_length_le h]
theorem nmOk_size {s : ByteArray} (h : nmOk s = true) : s.size ≤ 12 := by
  unfold nmOk inB at h
  simp only [Bool.and_eq_true, decide_eq_true_eq] at h
  omega
theorem docs_small {l : List DocD} (h : docsOkB l = true) : l.length ≤ 6 ∧ ∀ (k : Nat) (d : DocD), l[k]? = some d → d.1.size ≤ 12 ∧ d.2.size ≤ 3000 := by
  unfold docsOkB at h
  simp only [Bool.and_eq_true, decide_eq_true_eq] at h
  refine ⟨h.2, fun k d hd => ?_⟩
  have h1 := h.1
  unfold docsGood at h1
  rw [List.all_eq_true] at h1
  have hk : k < l.length := (List.getElem?_eq_some_iff.1 hd).1
  have h2 := h1 k (List.mem_range.2 hk)
  simp only [docAt, hd, docBad, Bool.not_eq_true', Bool.or_eq_false_iff, Bool.not_eq_false', decide_eq_false_iff_not] at h2
  exact ⟨nmOk_size h2.1.1, by omega⟩
theorem nlEnd_len (t : ByteArray) : (nlEnd t).length ≤ 1 := by unfold nlEnd; split <;> simp
theorem docB_len (d : DocD) (h : d.1.size ≤ 12 ∧ d.2.size ≤ 3000) : (docB d).length ≤ 3018 := by
  have := nlEnd_len d.2
  unfold docB
  simp only [List.length_append, List.length_cons, List.length_nil, ba_len]
  omega
theorem docsTo_len {l : List DocD} (h : ∀ (k : Nat) (d : DocD), l[k]? = some d → d.1.size ≤ 12 ∧ d.2.size ≤ 3000) : ∀ k, (docsTo l k).length ≤ k * 3018 := by
  intro k
  induction k with
  | zero => simp [docsTo]
  | succ k ih =>
    cases hd : l[k]? with
    | none =>
      have : docsTo l (k + 1) = docsTo l k := by unfold docsTo; rw [List.take_add_one, hd]; simp
      rw [this]
      exact Nat.le_trans ih (Nat.mul_le_mul_right _ (Nat.le_succ k))
    | some d =>
      rw [docsTo_step hd, List.length_append]
      have := docB_len d (h k d hd)
      omega
theorem size_mk (l : List UInt8) : (⟨l.toArray⟩ : ByteArray).size = l.length := by simp [ByteArray.size]
/-- The three kinds of texts: empty; with a line's end; without. -/
theorem nl_empty {t : ByteArray} (h : t.size = 0) : nlEnd t = [] := by
  have : t.data.toList = [] := List.eq_nil_of_length_eq_zero (by rw [ba_len]; exact h)
  simp [nlEnd, needNl, this]
theorem last_at {t : ByteArray} (h : 0 < t.size) : t.data.toList.getLast? = some (t[t.size - 1]) := by
  rw [List.getLast?_eq_getElem?, ba_len, List.getElem?_eq_getElem (by rw [ba_len]; omega)]
  rfl
theorem ne_nil {t : ByteArray} (h : 0 < t.size) : ¬ t.toList = [] := by
  intro e
  have h2 := ba_len t
  rw [← ByteArray.toList_eq, e] at h2
  simp at h2
  omega
theorem nl_yes {t : ByteArray} (h : 0 < t.size) (h2 : t[t.size - 1] = 10) : nlEnd t = [] := by
  simp [nlEnd, needNl, last_at h, h2]
theorem nl_no {t : ByteArray} (h : 0 < t.size) (h2 : t[t.size - 1] ≠ 10) : nlEnd t = [10] := by
  simp [nlEnd, needNl, last_at h, h2]

set_option maxRecDepth 100000 in
set_option maxHeartbeats 1600000 in
theorem specDocsText_any (A : Option Addr) (n c : Nat) (l : List DocD) (w : World) (hn : n ≤ 4194304) (hl : Hid (l.length = n)) (hr : Rd w 2 A n (l.flatMap docCells)) (hs : Hid (∀ d ∈ l, OkDoc d)) :
    Calls Try.prog 16 #[.slice A n c] w fun e w' => e = .returned (.string (docsText l)) ∧ Below w.heap.size w w' := by
  have HR := Lib.hid hr
  have hbw := Below.refl w.heap.size w
  have HC := Lib.hid (fun (s : Bool) (hs' : docsOkB l = s) => show Calls Try.prog 35 #[.slice A n c] w fun e w' => e = .returned (.bool s) ∧ Below w.heap.size w w' by
    have h := specDocsOk_any A n c l w hn hl.out hr hs.out
    rwa [hs'] at h)
  clear hr
  cases hok : docsOkB l with
  | false =>
    have HE := Lib.hid (show docsText l = ⟨#[]⟩ by rw [docsText, hok]; rfl)
    have H9 := Lib.hid (HC.out _ hok)
    clear hok
    go_enter Try.func16, Try.ntmps16
    go_wp2_with fail
    refine (H9.out).mono ?_
    rintro e w2 ⟨rfl, h2⟩
    go_wp2
    go_ret
    exact ⟨ret_str HE.out.symm, h2⟩
  | true =>
    have HE := Lib.hid (show docsText l = ⟨(l.flatMap docB).toArray⟩ by rw [docsText, hok]; rfl)
    have H9 := Lib.hid (HC.out _ hok)
    have HS := Lib.hid (docs_small hok)
    have hn6 : n ≤ 6 := by have := HS.out.1; have := hl.out; omega
    clear hok HC
    go_enter Try.func16, Try.ntmps16
    go_wp2_with fail
    refine (H9.out).mono ?_
    rintro e w1 ⟨rfl, h1⟩
    replace hbw := below_next hbw h1
    clear H9 h1
    go_wp2
    go_loopw [3, 4, 5] (fun s i t wr => ∃ k : Nat, k ≤ n ∧ i = .int .i64 k ∧ (∃ out : ByteArray, s = .string out ∧ Hid (out.data.toList = docsTo l k)) ∧ Below w.heap.size w wr) (fun _ i _ _ => n - (intOf i).toNat)
    case atStart => exact ⟨0, Nat.zero_le _, rfl, ⟨_, rfl, (show _ = _ by rw [docsTo_zero])⟩, hbw⟩
    case round =>
      obtain ⟨k, hk, rfl, ⟨out, rfl, HO⟩, hb⟩ := hrel
      by_cases hkn : k < n
      · obtain ⟨⟨x0, x1⟩, hd⟩ : ∃ d, l[k]? = some d := ⟨_, List.getElem?_eq_getElem (by have := hl.out; omega)⟩
        obtain ⟨b', off, rfl, hblt, c0, c1⟩ := doc_at (HR.out.below hb) hkn hd
        have hst := Lib.hid (docsTo_step hd)
        have hz := HS.out.2 _ _ hd
        have hz0 : x0.size ≤ 12 := hz.1
        have hz1 : x1.size ≤ 3000 := hz.2
        have hzk := docsTo_len HS.out.2 k
        have hzz : out.size ≤ 20000 := by rw [← ba_len, HO.out]; omega
        clear hd hz hzk
        by_cases ht : x1.size = 0
        · obtain rfl : x1 = ⟨#[]⟩ := ba_ext (List.eq_nil_of_length_eq_zero (by rw [ba_len]; exact ht))
          clear ht hz1
          go_wp2
          go_roundw
          case rel => exact ⟨k + 1, by omega, by go_num, ⟨_, rfl, (show _ = _ by rw [hst.out]; simp only [ba_app, HO.out, docB, nl_empty (t := ⟨#[]⟩) rfl]; simp)⟩, hb⟩
          case measure => simp [intOf]; omega
        · have ht0 : 0 < x1.size := by omega
          have hne := ne_nil ht0
          have hne2 : (!x1.toList.isEmpty) = true := by rw [List.isEmpty_eq_false_iff.2 hne]; rfl
          have ht1 : (1 : Int) ≤ x1.size := by omega
          by_cases h10 : x1[x1.size - 1] = 10
          · have hnl := Lib.hid (nl_yes ht0 h10)
            have h11 : ((x1[x1.size - 1].toNat : Int) != 10) = false := by rw [h10]; rfl
            clear h10
            go_wp2
            go_roundw
            case rel => exact ⟨k + 1, by omega, by go_num, ⟨_, rfl, (show _ = _ by rw [hst.out]; simp only [ba_app, HO.out, docB, hnl.out]; simp)⟩, hb⟩
            case measure => simp [intOf]; omega
          · have hnl := Lib.hid (nl_no ht0 h10)
            have h11 : ((x1[x1.size - 1].toNat : Int) != 10) = true := by
              rw [bne_iff_ne]
              intro e
              exact h10 (UInt8.toNat_inj.1 (by simpa using (show x1[x1.size - 1].toNat = 10 by omega)))
            clear h10
            go_wp2
            go_roundw
            case rel => exact ⟨k + 1, by omega, by go_num, ⟨_, rfl, (show _ = _ by rw [hst.out]; simp only [ba_app, HO.out, docB, hnl.out]; simp)⟩, hb⟩
            case measure => simp [intOf]; omega
      · have hst := Lib.hid (docsTo_all (l := l) (k := k) (by have := hl.out; omega))
        go_wp2
        go_ret
        exact ⟨ret_str (by rw [HE.out, ← hst.out, ← HO.out]), hb⟩
end Go.Proofs.Ytfapdhfjcnehhaa

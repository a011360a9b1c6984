
/-
  Contracts: files as one text, the program's way (impl.DocsText).
-/
import Derived.Test.YtfapdhfjcnehhaaDocT
import Derived.Test.YtfapdhfjcnehhaaBuilder
namespace Go.Proofs.Ytfapdhfjcnehhaa
open Go.RowKit
set_option linter.unusedVariables false

theorem suf_nl {t : ByteArray} (h : 0 < t.size) : Lib.hasSuffix t.data.toList [10] = (t[t.size - 1] == 10) := by
  obtain ⟨ys, hy⟩ := List.getLast?_eq_some_iff.1 (last_at h)
  rw [hy]
  simp only [Lib.hasSuffix, List.isSuffixOf, List.reverse_append, List.reverse_singleton, List.singleton_append, List.isPrefixOf, Bool.and_true]
  exact BEq.comm
theorem hasSuf_any (t : ByteArray) (s : Bool) (hs : Lib.hasSuffix t.data.toList [10] = s) (ht : t.size ≤ 4194304) (w : World) :
    Calls Try.prog 38 #[.string t, .string ⟨#[10]⟩] w fun e w' => e = .returned (.bool s) ∧ w = w' := by
  refine (Try.strings_HasSuffix t ⟨#[10]⟩ w (by omega)).mono ?_
  rintro e w' ⟨he, hw⟩
  exact ⟨by rw [he]; exact ret_bool hs, hw.symm⟩
theorem docB_flat0 {l : List DocD} {x0 x1 : ByteArray} (k : Nat) (h : nlEnd x1 = []) : docsTo l k ++ docB (x0, x1) = docsTo l k ++ ((⟨#[61, 61, 61, 32]⟩ : ByteArray) ++ x0 ++ ⟨#[10]⟩ ++ x1).data.toList := by
  simp only [ba_app, docB, h, List.append_nil]
theorem docB_flat1 {l : List DocD} {x0 x1 : ByteArray} (k : Nat) (h : nlEnd x1 = [10]) : docsTo l k ++ docB (x0, x1) = docsTo l k ++ ((⟨#[61, 61, 61, 32]⟩ : ByteArray) ++ x0 ++ ⟨#[10]⟩ ++ x1).data.toList ++ [10] := by
  simp only [ba_app, docB, h, List.append_assoc]
set_option maxRecDepth 100000 in
set_option maxHeartbeats 1600000 in
theorem implDocsText_any (A : Option Addr) (n c : Nat) (l : List DocD) (w : World) (hn : n ≤ 4194304) (hl : Hid (l.length = n)) (hr : Rd w 2 A n (l.flatMap docCells)) (hs : Hid (∀ d ∈ l, OkDoc d)) :
    Calls Try.prog 17 #[.slice A n c] w fun e w' => e = .returned (.string (docsText l)) ∧ Below w.heap.size w w' := by
  have HR := Lib.hid hr
  have hbw := Below.refl w.heap.size w
  have HC := Lib.hid (fun (s : Bool) (hs' : docsOkB l = s) => show Calls Try.prog 36 #[.slice A n c] w fun e w' => e = .returned (.bool s) ∧ Below w.heap.size w w' by
    have h := implDocsOk_any A n c l w hn hl.out hr hs.out
    rwa [hs'] at h)
  clear hr
  cases hok : docsOkB l with
  | false =>
    have HE := Lib.hid (show docsText l = ⟨#[]⟩ by rw [docsText, hok]; rfl)
    have H9 := Lib.hid (HC.out _ hok)
    clear hok
    go_enter Try.func17, Try.ntmps17
    go_wp2_with fail
    refine (H9.out).mono ?_
    rintro e w2 ⟨rfl, h2⟩
    go_wp2
    go_ret
    exact ⟨ret_str HE.out.symm, h2⟩
  | true =>
    have HE := Lib.hid (show docsText l = ⟨(l.flatMap docB).toArray⟩ by rw [docsText, hok]; rfl)
    have H9 := Lib.hid (HC.out _ hok)
    have HS := Lib.hid (docs_small hok)
    have hn6 : n ≤ 6 := by have := HS.out.1; have := hl.out; omega
    clear hok HC
    go_enter Try.func17, Try.ntmps17
    go_wp2_with fail
    refine (H9.out).mono ?_
    rintro e w1 ⟨rfl, h1⟩
    replace hbw := below_next hbw h1
    have hz1 := hbw.size
    have hB0 := Bld.fresh w1 (B := w.heap.size) hbw.size
    clear H9 h1
    go_wp2
    go_loopw [11] (fun i wr => ∃ k : Nat, k ≤ n ∧ i = .int .i64 k ∧ Bld wr w.heap.size w1.heap.size (docsTo l k) ∧ Below w.heap.size w wr) (fun i _ => n - (intOf i).toNat)
    case atStart => exact ⟨0, Nat.zero_le _, rfl, hB0, (by repeat' (first | (with_reducible exact Below.refl _ _) | (with_reducible assumption) | (with_reducible refine below_drewN ?_ _) | (with_reducible refine Below.drew ?_) | (with_reducible refine Below.alloc ?_ ?_ _) | (with_reducible refine Below.setCell ?_ ?_ _) | go_size))⟩
    case round =>
      clear hB0
      obtain ⟨k, hk, rfl, HB, hb⟩ := hrel
      by_cases hkn : k < n
      · obtain ⟨⟨x0, x1⟩, hd⟩ : ∃ d, l[k]? = some d := ⟨_, List.getElem?_eq_getElem (by have := hl.out; omega)⟩
        obtain ⟨b', off, rfl, hblt, c0, c1⟩ := doc_at (HR.out.below hb) hkn hd
        have hst := Lib.hid (docsTo_step hd)
        have hz := HS.out.2 _ _ hd
        have hz0 : x0.size ≤ 12 := hz.1
        have hz1 : x1.size ≤ 3000 := hz.2
        have hzk := docsTo_len HS.out.2 k
        have hzz : (docsTo l k).length ≤ 20000 := by omega
        clear hd hz hzk
        have HB' := Lib.hid HB
        clear HB
        have hlt := HB'.out
        have hbl : w1.heap.size < wr.heap.size := by rcases HB'.out with h | h <;> exact h.lt
        clear hlt
        go_wp2_with fail
        refine (bldStr _ _ _ _ _ (HB'.out.alloc _) (by simp only [ByteArray.size_append]; have e1 : (⟨#[61, 61, 61, 32]⟩ : ByteArray).size = 4 := rfl; have e2 : (⟨#[10]⟩ : ByteArray).size = 1 := rfl; omega) (by have := hb.size; simp; omega)).mono ?_
        rintro e w2 ⟨rfl, HB2, h2, hk2⟩
        have K1 := (Blk.new wr 58 #[.string x0, .string x1]).kept hk2 (by decide) (by omega)
        have d1 : w2.cell? ⟨wr.heap.size, 1, none⟩ = some (.string x1) := K1.cell 1
        have zK := K1.lt
        replace hb := (hb.alloc hb.size (.cells #[.string x0, .string x1] 58)).trans h2
        replace HB2 := Lib.hid HB2
        clear h2 hk2 HB' c0 c1 hblt K1 hbl
        by_cases ht : x1.size = 0
        · obtain rfl : x1 = ⟨#[]⟩ := ba_ext (List.eq_nil_of_length_eq_zero (by rw [ba_len]; exact ht))
          clear ht hz1
          go_wp2
          go_roundw
          case rel => exact ⟨k + 1, by omega, by go_num, (by rw [hst.out, docB_flat0 k (nl_empty rfl)]; exact HB2.out), hb⟩
          case measure => simp [intOf]; omega
        · have ht0 : 0 < x1.size := by omega
          have hne := ne_nil ht0
          have hne2 : (!x1.toList.isEmpty) = true := by rw [List.isEmpty_eq_false_iff.2 hne]; rfl
          by_cases h10 : x1[x1.size - 1] = 10
          · have hnl := Lib.hid (nl_yes ht0 h10)
            have H8 := Lib.hid (hasSuf_any x1 true (by rw [suf_nl ht0, h10]; rfl) (by omega))
            clear h10
            go_wp2_with (go_at_call 38; refine (H8.out _).mono ?_; rintro e w3 ⟨rfl, rfl⟩)
            go_roundw
            case rel => exact ⟨k + 1, by omega, by go_num, (by rw [hst.out, docB_flat0 k hnl.out]; exact HB2.out), hb⟩
            case measure => simp [intOf]; omega
          · have hnl := Lib.hid (nl_no ht0 h10)
            have H8 := Lib.hid (hasSuf_any x1 false (by rw [suf_nl ht0]; exact beq_eq_false_iff_ne.2 h10) (by omega))
            clear h10
            go_wp2_with (first | (go_at_call 38; refine (H8.out _).mono ?_; rintro e w3 ⟨rfl, rfl⟩) | (go_at_call 39; refine (bldByte _ _ _ 10 _ HB2.out (by simp only [List.length_append, ba_len, ByteArray.size_append]; have e1 : (⟨#[61, 61, 61, 32]⟩ : ByteArray).size = 4 := rfl; have e2 : (⟨#[10]⟩ : ByteArray).size = 1 := rfl; omega) hb.size).mono ?_; rintro e w4 ⟨rfl, HB3, h3, hk3⟩))
            go_roundw
            case rel => exact ⟨k + 1, by omega, by go_num, (by rw [hst.out, docB_flat1 k hnl.out]; exact HB3), hb.trans h3⟩
            case measure => simp [intOf]; omega
      · have hst := Lib.hid (docsTo_all (l := l) (k := k) (by have := hl.out; omega))
        go_wp2_with fail
        refine (bldRead _ _ _ _ HB hb.size).mono ?_
        rintro e w2 ⟨rfl, h2⟩
        go_wp2
        go_ret
        exact ⟨ret_str (by rw [HE.out, ← hst.out]), hb.trans h2⟩
end Go.Proofs.Ytfapdhfjcnehhaa

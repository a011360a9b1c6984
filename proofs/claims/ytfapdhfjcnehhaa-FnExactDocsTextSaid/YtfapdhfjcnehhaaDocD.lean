
/-
  Contracts: the names of files that are not among others (impl.ChangedDocs, spec.ChangedDocs).
-/
import Derived.Test.YtfapdhfjcnehhaaDocC
import Derived.Test.YtfapdhfjcnehhaaMemB
import Derived.Laws.AppendOwn
import Derived.OwnWalk
namespace Go.Proofs.Ytfapdhfjcnehhaa
open Go.RowKit
set_option linter.unusedVariables false

theorem infoStr : (Try.prog.info? 9).map (fun i => (i.zero, i.size, i.bytes)) = some (some (.string ⟨#[]⟩), 1, 16) := by kernel_rfl
/-- The names of the first k of a that are not among b. -/
def chgTo (a b : List DocD) (k : Nat) : List ByteArray := ((a.take k).filter (fun d => !memD b d)).map (·.1)
theorem chgTo_zero (a b : List DocD) : chgTo a b 0 = [] := by simp [chgTo]
theorem chgTo_yes {a b : List DocD} {k : Nat} {d : DocD} (hd : a[k]? = some d) (h : memD b d = false) : chgTo a b (k + 1) = chgTo a b k ++ [d.1] := by
  unfold chgTo
  rw [List.take_add_one, hd]
  simp [List.filter_append, h]
theorem chgTo_no {a b : List DocD} {k : Nat} {d : DocD} (hd : a[k]? = some d) (h : memD b d = true) : chgTo a b (k + 1) = chgTo a b k := by
  unfold chgTo
  rw [List.take_add_one, hd]
  simp [List.filter_append, h]
theorem chgTo_len (a b : List DocD) (k : Nat) : (chgTo a b k).length ≤ k := by
  unfold chgTo
  rw [List.length_map]
  exact Nat.le_trans (List.length_filter_le _ _) (by rw [List.length_take]; omega)
theorem cell_one_new (w : World) (u : Value) (t : TypeId) : ∀ j v, [u][j]? = some v → (w.alloc (.cells #[u] t)).cell? ((⟨w.heap.size, 0, none⟩ : Addr).add j) = some v := by
  intro j v hj
  match j, hj with
  | 0, hj =>
    obtain rfl := Option.some.inj hj
    exact (Blk.new w t #[u]).cell 0
  | j + 1, hj => simp at hj
/-- A list of texts in a block of the call's own, or nothing. -/
def StrsP (w : World) (ss : List ByteArray) (e : Ending) (w' : World) : Prop :=
  ∃ v : Value, e = .returned v ∧ w'.ownsRow w.heap.size 9 1 v ss.length (strCells ss) ∧ Below w.heap.size w w'
theorem ownsRow_congr {w : World} {B : Nat} {e : TypeId} {v : Value} {n n' : Nat} {xs xs' : List Value} (h : w.ownsRow B e 1 v n xs) (h1 : n = n') (h2 : xs = xs') : w.ownsRow B e 1 v n' xs' := by subst h1; subst h2; exact h
theorem ownsRow_below {w w' : World} {B : Nat} {e : TypeId} {v : Value} {n : Nat} {xs : List Value} (h : w.ownsRow B e 1 v n xs) (hb : Below w.heap.size w w') : w'.ownsRow B e 1 v n xs := by
  obtain ⟨h1, h2⟩ := h
  refine ⟨h1, ?_⟩
  rcases h2 with h2 | ⟨g, cap, cur, hv, hg, hh, r⟩
  · exact .inl h2
  · refine .inr ⟨g, cap, cur, hv, hg, ?_, r⟩
    have hlt : g < w.heap.size := by
      rcases Nat.lt_or_ge g w.heap.size with h3 | h3
      · exact h3
      · rw [Array.getElem?_eq_none h3] at hh; cases hh
    rw [hb.block g hlt, hh]

theorem block_of_own {w : World} {B : Nat} {e : TypeId} {v : Value} {n : Nat} {xs : List Value} (h : w.ownsRow B e 1 v n xs) {g : Nat} (hg : v.ownBlock = some g) : B ≤ g := by
  rcases h.2 with ⟨rfl, _⟩ | ⟨g', cap, cur, rfl, hg', _⟩
  · simp [Value.ownBlock] at hg
  · simp [Value.ownBlock] at hg; omega
set_option maxRecDepth 100000 in
set_option maxHeartbeats 1600000 in
theorem implChangedDocs_any (A B : Option Addr) (n c n' c' : Nat) (a b : List DocD) (w : World) (hn : n ≤ 1048576) (hn' : n' ≤ 1048576) (hl : Hid (a.length = n)) (hl' : Hid (b.length = n')) (ha : Rd w 2 A n (a.flatMap docCells)) (hb : Rd w 2 B n' (b.flatMap docCells)) :
    Calls Try.prog 10 #[.slice A n c, .slice B n' c'] w (StrsP w (chgTo a b n)) := by
  obtain ⟨i0, hi, hz0, hz1, hz2⟩ := info_parts infoStr
  have HI := Lib.hid (And.intro hi (And.intro hz0 (And.intro hz1 hz2)))
  have HA := Lib.hid ha
  have HB := Lib.hid hb
  clear hi hz0 hz1 hz2 ha hb
  go_enter Try.func10, Try.ntmps10
  go_wp2
  go_loopw [5, 10] (fun o i wr => ∃ k : Nat, k ≤ n ∧ i = .int .i64 k ∧ Hid (wr.ownsRow w.heap.size 9 1 o (chgTo a b k).length (strCells (chgTo a b k))) ∧ Below w.heap.size w wr) (fun _ i _ => n - (intOf i).toNat)
  case atStart => exact ⟨0, Nat.zero_le _, rfl, ⟨by simp [chgTo_zero, strCells], .inl ⟨rfl, by simp [chgTo_zero]⟩⟩, Below.refl _ _⟩
  case round =>
    obtain ⟨k, hk, rfl, HO, hbw⟩ := hrel
    by_cases hkn : k < n
    · obtain ⟨⟨x0, x1⟩, hd⟩ : ∃ d, a[k]? = some d := ⟨_, List.getElem?_eq_getElem (by have := hl.out; omega)⟩
      obtain ⟨b', off, rfl, hblt, c0, c1⟩ := doc_at (HA.out.below hbw) hkn hd
      have HD := Lib.hid hd
      clear hd
      have HC := Lib.hid (fun (s : Bool) (hs : memD b (x0, x1) = s) (wq : World) (hrq : Rd wq 2 B n' (b.flatMap docCells)) => show Calls Try.prog 32 #[.slice B n' c', .agg #[.string x0, .string x1]] wq fun e w' => e = .returned (.bool s) ∧ Below wq.heap.size wq w' by
        have h := containsDoc_any B n' c' b x0 x1 wq (by omega) hl' hrq
        rwa [hs] at h)
      cases hs : memD b (x0, x1) with
      | true =>
        have hst := Lib.hid (chgTo_no HD.out hs)
        have H9 := Lib.hid (HC.out true hs)
        clear hs
        go_wp2_with fail
        refine (H9.out _ ((HB.out.below hbw).alloc _)).mono ?_
        rintro e w2 ⟨rfl, h2⟩
        have hb2 := below_next1 hbw h2
        have ho2 := Lib.hid (ownsRow_below (HO.out.alloc _) h2)
        clear c0 c1 hblt h2
        go_wp2
        go_roundw
        case rel => exact ⟨k + 1, by omega, by go_num, ownsRow_congr ho2.out (by rw [hst.out]) (by rw [hst.out]), hb2⟩
        case measure => simp [intOf]; omega
      | false =>
        have hst := Lib.hid (chgTo_yes HD.out hs)
        have H9 := Lib.hid (HC.out false hs)
        clear hs
        go_wp2_with fail
        refine (H9.out _ ((HB.out.below hbw).alloc _)).mono ?_
        rintro e w2 ⟨rfl, h2⟩
        have hb2 := below_next1 hbw h2
        have K1 := Blk.fresh h2
        have d0 : w2.cell? ⟨wr.heap.size, 0, none⟩ = some (.string x0) := K1.cell 0
        have ho2 := Lib.hid (ownsRow_below (HO.out.alloc _) h2)
        have hlen := Lib.hid (chgTo_len a b k)
        have hz := K1.lt
        clear c0 c1 hblt h2 K1
        go_wp2_with (at_builtin; (refine wpList_append_own _ rfl (.tmp 18) (.tmp 21) _ rfl w.heap.size 9 i0 (.string ⟨#[]⟩) 1 16 Try.underlying24 HI.out.1 HI.out.2.1 HI.out.2.2.1 HI.out.2.2.2 rfl (by decide) _ _ _ rfl (ho2.out.alloc _) ⟨w2.heap.size, 0, none⟩ 1 1 [.string x0] rfl rfl (cell_one_new _ _ _) (fun x hx => by simp at hx; subst hx; rfl) (by have := hlen.out; unfold maxLen; omega) (by have := hlen.out; omega) (by have := hb2.size; simp; omega) ?_); intro v' w3 hown3 hg3 hnil3)
        have hb3 := hb2.alloc hb2.size (.cells #[.string x0] 9)
        have hb4 : Below w.heap.size w w3 := hb3.grown hg3 hb3.size (fun g hg => block_of_own ho2.out hg)
        go_wp2
        go_roundw
        case rel => exact ⟨k + 1, by omega, by go_num, ownsRow_congr hown3 (by rw [hst.out]; simp) (by rw [hst.out]; simp [strCells]), hb4⟩
        case measure => simp [intOf]; omega
    · obtain rfl : k = n := by omega
      go_wp2
      go_ret
      exact ⟨_, rfl, HO.out, hbw⟩
end Go.Proofs.Ytfapdhfjcnehhaa

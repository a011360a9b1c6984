
/-
  The law on files read from a text: the walk.
-/
import Derived.Test.YtfapdhfjcnehhaaReadC
import Derived.Test.YtfapdhfjcnehhaaMkDoc
import Derived.Test.YtfapdhfjcnehhaaFamDoc
namespace Go.Proofs.Ytfapdhfjcnehhaa
open Go.RowKit
set_option linter.unusedVariables false

theorem readDocs_len (t : ByteArray) : (readDocs t).1.length ≤ 6 := by
  unfold readDocs
  split
  · simp
  · rename_i acc h
    by_cases hd : docsOkB acc = true
    · rw [if_pos hd]; exact (docs_small hd).1
    · rw [if_neg hd]; simp
theorem markDocS_mine (A : Option Addr) (n c B : Nat) (k : Int) (xs : List Value) (w : World) (hm : Mine w B 58 2 A n c xs) (h0 : 1 ≤ k) (h1 : k + (2 * n : Nat) ≤ 1073741824) :
    Calls Try.prog 13 #[.slice A n c, .int .i64 k] w fun e w' => e = .returned (.int .i64 (k + (2 * n : Nat))) ∧ Mine w' B 58 2 A n c (marksOf docMk 2 k n) ∧ w.grownBy w' (A.map (·.block)) := by
  have hl := hm.len
  rcases hm.own with ⟨rfl, rfl, rfl⟩ | ⟨g, rfl, hB, hn, hc, ho⟩
  · refine (markDocS_nil none 0 k w).mono ?_
    rintro e w' ⟨rfl, rfl⟩
    exact ⟨by simp, by simpa [marksOf] using Mine.mk_nil _ _ _ _, World.grownBy.refl _ _⟩
  · refine (markDocS_any g n c (c * 2) k xs w ho hl h0 h1).mono ?_
    rintro e w' ⟨rfl, ho', hg⟩
    exact ⟨rfl, Mine.mk_own ho' (by rw [marks_len docMk_len]) hB hn hc, hg⟩
set_option maxRecDepth 100000 in
set_option maxHeartbeats 1600000 in
theorem lawReadDocs (t : ByteArray) (w : World) (ht : t.size ≤ maxLen) : Calls Try.prog 6 #[.string t] w fun e w' => e = .returned (.bool true) ∧ Below w.heap.size w w' := by
  have hb := Below.refl w.heap.size w
  unfold maxLen at ht
  by_cases h1 : 1048576 < t.size
  · go_enter Try.func6, Try.ntmps6
    go_wp2
    go_ret
    exact ⟨rfl, (by repeat' (first | (with_reducible exact Below.refl _ _) | (with_reducible assumption) | (with_reducible refine below_drewN ?_ _) | (with_reducible refine Below.drew ?_) | (with_reducible refine Below.alloc ?_ ?_ _) | (with_reducible refine Below.setCell ?_ ?_ _) | go_size))⟩
  · have h2 : t.size ≤ 1048576 := by omega
    have hn6 := readDocs_len t
    have HI := Lib.hid (fun W => implReadDocs_any t W h2)
    have HP := Lib.hid (fun W => specReadDocs_any t W h2)
    obtain ⟨⟨l, b⟩, hr⟩ : ∃ r, readDocs t = r := ⟨_, rfl⟩
    rw [hr] at HI HP hn6
    change l.length ≤ 6 at hn6
    clear hr ht h1
    go_enter Try.func6, Try.ntmps6
    go_wp2_with fail
    refine (HP.out _).mono ?_
    rintro e w2 ⟨A0, c0, rfl, m0, h2'⟩
    replace hb := below_next hb h2'
    clear h2'
    have q0 := Lib.hid (fun g (hg : A0.map (·.block) = some g) => (m0.blk hg).2)
    have z0 := hb.size
    go_wp2_with fail
    refine (HI.out _).mono ?_
    rintro e w3 ⟨A3, c3, rfl, m3, h2'⟩
    replace m0 := m0.next h2'
    replace hb := below_next hb h2'
    clear h2'
    obtain ⟨H3, hH3⟩ : ∃ H, H = w2.heap.size := ⟨_, rfl⟩
    rw [← hH3] at m3 q0 z0
    have hl1 : (l, b).1 = l := rfl
    simp only [] at m0 m3
    go_wp2_with fail
    refine (eqDocS_same _ _ _ _ _ l _ (by omega) rfl m3.rd m0.rd).mono ?_
    rintro e w2 ⟨rfl, h2⟩
    replace m0 := by first | exact m0.next h2 | exact m0.next1 h2 | exact m0.next2 h2
    replace m3 := by first | exact m3.next h2 | exact m3.next1 h2 | exact m3.next2 h2
    replace hb := by first | exact below_next hb h2 | exact below_next1 hb h2 | exact below_next2 hb h2
    clear h2
    go_wp2_with fail
    refine (markDocS_mine _ _ _ _ _ _ _ m3 (by omega) (by omega)).mono ?_
    rintro e w2 ⟨rfl, m4, hg⟩
    replace m0 := m0.grown hg (fun g e => .inr (fun h => by have := (m3.blk e).1; have := q0.out _ h; omega))
    replace hb := below_turned hb hg (fun g e => by have := (m3.blk e).1; omega)
    clear hg m3
    go_wp2_with fail
    refine (heldDocS_any _ _ _ _ _ m4.rd (by omega) (by omega)).mono ?_
    rintro e w2 ⟨rfl, h2⟩
    replace m0 := by first | exact m0.next h2 | exact m0.next1 h2 | exact m0.next2 h2
    replace m4 := by first | exact m4.next h2 | exact m4.next1 h2 | exact m4.next2 h2
    replace hb := by first | exact below_next hb h2 | exact below_next1 hb h2 | exact below_next2 hb h2
    clear h2
    go_wp2_with fail
    refine (HI.out _).mono ?_
    rintro e w3 ⟨A5, c5, rfl, m5, h2'⟩
    replace m0 := m0.next h2'
    replace m4 := m4.next h2'
    replace hb := below_next hb h2'
    clear h2'
    simp only [] at m5
    go_wp2_with fail
    refine (eqDocS_same _ _ _ _ _ l _ (by omega) rfl m5.rd m0.rd).mono ?_
    rintro e w2 ⟨rfl, h2⟩
    replace m4 := by first | exact m4.next h2 | exact m4.next1 h2 | exact m4.next2 h2
    replace hb := by first | exact below_next hb h2 | exact below_next1 hb h2 | exact below_next2 hb h2
    clear h2
    go_wp2_with fail
    refine (heldDocS_any _ _ _ _ _ m4.rd (by omega) (by omega)).mono ?_
    rintro e w2 ⟨rfl, h2⟩
    replace hb := by first | exact below_next hb h2 | exact below_next1 hb h2 | exact below_next2 hb h2
    clear h2
    go_wp2
    go_ret
    exact ⟨rfl, (by repeat' (first | (with_reducible exact Below.refl _ _) | (with_reducible assumption) | (with_reducible refine below_drewN ?_ _) | (with_reducible refine Below.drew ?_) | (with_reducible refine Below.alloc ?_ ?_ _) | (with_reducible refine Below.setCell ?_ ?_ _) | go_size))⟩
end Go.Proofs.Ytfapdhfjcnehhaa

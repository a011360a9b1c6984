
/-
  The law on a result kept: the walk. Written by program (gen_put.py, putl.frame).
-/
import Derived.Test.YtfapdhfjcnehhaaPutE
import Derived.Test.YtfapdhfjcnehhaaCacheD
import Derived.Test.YtfapdhfjcnehhaaMkEntry
import Derived.Deep.RegionHeld3
namespace Go.Proofs.Ytfapdhfjcnehhaa
open Go.RowKit
set_option linter.unusedVariables false

theorem putL_le (m : Int) (l : List EntryD) (d : EntryD) : (putL m l d).length ≤ l.length + 1 := by
  have h : (outE (sameE d.1 d.2.1 d.2.2.1) l).length ≤ l.length := List.length_filter_le _ _
  unfold putL
  split
  · rw [List.length_tail, List.length_append]; simp; omega
  · rw [List.length_append]; simp; omega
theorem rdE {w : World} {g cap n : Nat} {l : List EntryD} (h : Own w g 47 cap (l.flatMap entryCells)) (hl : l.length = n) : Rd w 5 (some ⟨g, 0, none⟩) n (l.flatMap entryCells) :=
  Own.rd (size := 5) (n := n) h (by rw [flat_len entryCells entryCells_len, hl])
set_option maxRecDepth 100000 in
set_option maxHeartbeats 6400000 in
theorem lawCachePut (m : Int) (A : Option Addr) (n c : Nat) (l : List EntryD) (h k : Int) (t : ByteArray) (a b : Int) (x3 : ByteArray) (x4 : Int) (w : World) (hh : l.length = n ∧ n ≤ maxLen ∧ Rd w 5 A n (l.flatMap entryCells) ∧ ∀ d ∈ l, OkEntry d) (ht : t.size ≤ maxLen) (hx : x3.size ≤ maxLen) :
    Calls Try.prog 5 #[.agg #[.int .i64 m, .slice A n c, .int .i64 h, .int .i64 k], .agg #[.string t, .int .i64 a, .int .i64 b, .string x3, .int .i64 x4]] w fun e w' => e = .returned (.bool true) ∧ Below w.heap.size w w' := by
  obtain ⟨hl, hn, hr, hs⟩ := hh
  have hb := Below.refl w.heap.size w
  have HL := Lib.hid hl
  have HS := Lib.hid hs
  have HN := Lib.hid hn
  by_cases hsz : szEntryL l ≤ 1048576
  · have HZ := Lib.hid hsz
    have g0 : (0 : Int) ≤ 1048576 - (szEntryL l : Nat) := by omega
    have g1 : n ≤ 1048576 := by unfold szEntryL at hsz; omega
    by_cases hse : (szEntry (t, a, b, x3, x4) : Int) ≤ 1048576 - (szEntryL l : Nat)
    · have HE := Lib.hid hse
      have g2 : (0 : Int) ≤ 1048576 - (szEntryL l : Nat) - (szEntry (t, a, b, x3, x4) : Nat) := by omega
      have HRw := Lib.hid (fun (W : World) (hW : Below w.heap.size w W) => (hr.below hW : Rd W 5 A n (l.flatMap entryCells)))
      clear hsz hl hs hn ht hx hse
      go_enter Try.func5, Try.ntmps5
      go_wp2_with fail
      refine (szCache_fit _ _ _ _ _ _ _ _ HL ((hr.alloc _).alloc _) HZ).mono ?_
      rintro e w2 ⟨rfl, h2⟩
      have K1 := Blk.fresh2 h2
      have K2 := Blk.fresh h2
      replace hb := by first | exact below_next hb h2 | exact below_next1 hb h2 | exact below_next2 hb h2
      clear h2
      have cK1 := K1.cell
      have fK1 := K1.frozen
      have zK1 := K1.lt
      have cK2 := K2.cell
      have fK2 := K2.frozen
      have zK2 := K2.lt
      simp only [World.size_alloc] at K2 cK2 fK2 zK2
      go_wp2_with fail
      refine (szEntry_ok _ _ _ _ _ _ _ (by omega) HE.out).mono ?_
      rintro e w2 ⟨rfl, h2⟩
      clear cK1 fK1 zK1
      replace K1 := by first | exact K1.next h2 | exact K1.next1 h2 | exact K1.next2 h2
      clear cK2 fK2 zK2
      replace K2 := by first | exact K2.next h2 | exact K2.next1 h2 | exact K2.next2 h2
      replace hb := by first | exact below_next hb h2 | exact below_next1 hb h2 | exact below_next2 hb h2
      clear h2
      have cK1 := K1.cell
      have fK1 := K1.frozen
      have zK1 := K1.lt
      have cK2 := K2.cell
      have fK2 := K2.frozen
      have zK2 := K2.lt
      clear cK1 fK1 zK1 cK2 fK2 zK2 hr
      revert g0 g2
      generalize szEntryL l = sl
      generalize szEntry (t, a, b, x3, x4) = se
      intro g0 g2
      have HP := Lib.hid (fun (g : Nat) (c : Nat) (W : World) (hr : Rd W 5 (some ⟨g, 0, none⟩) n (l.flatMap entryCells)) => specCachePut_any m h k (some ⟨g, 0, none⟩) n c l t x3 a b x4 W g1 HL hr)
      have HI := Lib.hid (fun (g : Nat) (c : Nat) (W : World) (hr : Rd W 5 (some ⟨g, 0, none⟩) n (l.flatMap entryCells)) => implCachePut_any m h k g n c l t x3 a b x4 W g1 HL hr)
      have HRl : Hid ((putL m l (t, a, b, x3, x4)).length ≤ 1048577) := by
        have h1 := putL_le m l (t, a, b, x3, x4)
        have h2 := HL.out
        exact Lib.hid (show (putL m l (t, a, b, x3, x4)).length ≤ 1048577 by omega)
      revert HP HI HRl
      generalize putL m l (t, a, b, x3, x4) = R
      intro HP HI HRl
      go_upto_region 8 with fail
      have ce0 : w2.cell? ⟨w.heap.size, 0, none⟩ = some (.int .i64 m) := K1.cell 0
      have ce1 : w2.cell? ⟨w.heap.size, 1, none⟩ = some (.slice A n c) := K1.cell 1
      have ce2 : w2.cell? ⟨w.heap.size, 2, none⟩ = some (.int .i64 h) := K1.cell 2
      have ce3 : w2.cell? ⟨w.heap.size, 3, none⟩ = some (.int .i64 k) := K1.cell 3
      have ce4 : w2.cell? ⟨w.heap.size + 1, 0, none⟩ = some (.string t) := K2.cell 0
      have ce5 : w2.cell? ⟨w.heap.size + 1, 1, none⟩ = some (.int .i64 a) := K2.cell 1
      have ce6 : w2.cell? ⟨w.heap.size + 1, 2, none⟩ = some (.int .i64 b) := K2.cell 2
      have ce7 : w2.cell? ⟨w.heap.size + 1, 3, none⟩ = some (.string x3) := K2.cell 3
      have ce8 : w2.cell? ⟨w.heap.size + 1, 4, none⟩ = some (.int .i64 x4) := K2.cell 4
      have z0 := K1.lt
      have z1 := K2.lt
      go_cut [6] (fun s wx => ∃ g6 g7 c7 : Nat, s = .pointer (some ⟨g6, 0, none⟩) ∧ Blk wx g6 44 #[.int .i64 m, .slice (some ⟨g7, 0, none⟩) R.length c7, .int .i64 h, .int .i64 k] ∧ Own wx g7 47 (c7 * 5) (R.flatMap entryCells) ∧ R.length ≤ c7 ∧ c7 ≤ maxLen ∧ w2.heap.size ≤ g6 ∧ w2.heap.size ≤ g7 ∧ Below w2.heap.size w2 wx)
      case first =>
        go_region_held3 (fun w' => w'.cell? ⟨w.heap.size, 0, none⟩ = some (.int .i64 m) ∧ w'.cell? ⟨w.heap.size, 1, none⟩ = some (.slice A n c) ∧ w'.cell? ⟨w.heap.size, 2, none⟩ = some (.int .i64 h) ∧ w'.cell? ⟨w.heap.size, 3, none⟩ = some (.int .i64 k) ∧ w'.cell? ⟨w.heap.size + 1, 0, none⟩ = some (.string t) ∧ w'.cell? ⟨w.heap.size + 1, 1, none⟩ = some (.int .i64 a) ∧ w'.cell? ⟨w.heap.size + 1, 2, none⟩ = some (.int .i64 b) ∧ w'.cell? ⟨w.heap.size + 1, 3, none⟩ = some (.string x3) ∧ w'.cell? ⟨w.heap.size + 1, 4, none⟩ = some (.int .i64 x4))
          (first | (with_reducible exact ⟨l70, l71, l72, l73, l74, l75, l76, l77, l78⟩) | (with_reducible exact ⟨l80, l81, l82, l83, l84, l85, l86, l87, l88⟩) | (with_reducible exact ⟨l90, l91, l92, l93, l94, l95, l96, l97, l98⟩) | (with_reducible exact ⟨la70 _, la71 _, la72 _, la73 _, la74 _, la75 _, la76 _, la77 _, la78 _⟩) | (with_reducible exact ⟨la80 _, la81 _, la82 _, la83 _, la84 _, la85 _, la86 _, la87 _, la88 _⟩) | (with_reducible exact ⟨la90 _, la91 _, la92 _, la93 _, la94 _, la95 _, la96 _, la97 _, la98 _⟩) | (refine ⟨?_, ?_, ?_, ?_, ?_, ?_, ?_, ?_, ?_⟩ <;> go_cell) | go_keep)
          (first
            | (go_at_call 21; refine (toCache_any _ _ _ _ _ _ _ _ g1 HL (HRw.out _ (below_next hb (by repeat' (first | (with_reducible exact Below.refl _ _) | (with_reducible assumption) | (with_reducible refine below_drewN ?_ _) | (with_reducible refine Below.drew ?_) | (with_reducible refine Below.alloc ?_ ?_ _) | (with_reducible refine Below.setCell ?_ ?_ _) | go_size))))).mono ?_; rintro e w9 ⟨g9, rfl, o9, hg9, h9⟩
               have q9 : Below w2.heap.size w2 w9 := below_next (by repeat' (first | (with_reducible exact Below.refl _ _) | (with_reducible assumption) | (with_reducible refine below_drewN ?_ _) | (with_reducible refine Below.drew ?_) | (with_reducible refine Below.alloc ?_ ?_ _) | (with_reducible refine Below.setCell ?_ ?_ _) | go_size)) h9
               have s9 := q9.size
               have K19 := K1.next q9
               have K29 := K2.next q9
               have l90 : w9.cell? ⟨w.heap.size, 0, none⟩ = some (.int .i64 m) := K19.cell 0
               have la90 : ∀ o, (w9.alloc o).cell? ⟨w.heap.size, 0, none⟩ = some (.int .i64 m) := fun o => (K19.alloc o).cell 0
               have l91 : w9.cell? ⟨w.heap.size, 1, none⟩ = some (.slice A n c) := K19.cell 1
               have la91 : ∀ o, (w9.alloc o).cell? ⟨w.heap.size, 1, none⟩ = some (.slice A n c) := fun o => (K19.alloc o).cell 1
               have l92 : w9.cell? ⟨w.heap.size, 2, none⟩ = some (.int .i64 h) := K19.cell 2
               have la92 : ∀ o, (w9.alloc o).cell? ⟨w.heap.size, 2, none⟩ = some (.int .i64 h) := fun o => (K19.alloc o).cell 2
               have l93 : w9.cell? ⟨w.heap.size, 3, none⟩ = some (.int .i64 k) := K19.cell 3
               have la93 : ∀ o, (w9.alloc o).cell? ⟨w.heap.size, 3, none⟩ = some (.int .i64 k) := fun o => (K19.alloc o).cell 3
               have l94 : w9.cell? ⟨w.heap.size + 1, 0, none⟩ = some (.string t) := K29.cell 0
               have la94 : ∀ o, (w9.alloc o).cell? ⟨w.heap.size + 1, 0, none⟩ = some (.string t) := fun o => (K29.alloc o).cell 0
               have l95 : w9.cell? ⟨w.heap.size + 1, 1, none⟩ = some (.int .i64 a) := K29.cell 1
               have la95 : ∀ o, (w9.alloc o).cell? ⟨w.heap.size + 1, 1, none⟩ = some (.int .i64 a) := fun o => (K29.alloc o).cell 1
               have l96 : w9.cell? ⟨w.heap.size + 1, 2, none⟩ = some (.int .i64 b) := K29.cell 2
               have la96 : ∀ o, (w9.alloc o).cell? ⟨w.heap.size + 1, 2, none⟩ = some (.int .i64 b) := fun o => (K29.alloc o).cell 2
               have l97 : w9.cell? ⟨w.heap.size + 1, 3, none⟩ = some (.string x3) := K29.cell 3
               have la97 : ∀ o, (w9.alloc o).cell? ⟨w.heap.size + 1, 3, none⟩ = some (.string x3) := fun o => (K29.alloc o).cell 3
               have l98 : w9.cell? ⟨w.heap.size + 1, 4, none⟩ = some (.int .i64 x4) := K29.cell 4
               have la98 : ∀ o, (w9.alloc o).cell? ⟨w.heap.size + 1, 4, none⟩ = some (.int .i64 x4) := fun o => (K29.alloc o).cell 4
               first | (with_reducible have A9 := ((Blk.new w2 44 #[.int .i64 0, .slice none 0 0, .int .i64 0, .int .i64 0]).drew).next h9) | (with_reducible have A9 := ((Blk.new w2.drew 44 #[.int .i64 0, .slice none 0 0, .int .i64 0, .int .i64 0])).next h9) | (with_reducible have A9 := Blk.fresh h9; try (change Blk w9 w2.heap.size _ _ at A9)) | (with_reducible have A9 := A8.next h9) | skip
               try (change Blk w9 w2.heap.size _ _ at A9)
               first | (have y90 : w9.cell? ⟨_, 0, none⟩ = some (.int .i64 0) := A9.cell 0; have y91 : w9.cell? ⟨_, 1, none⟩ = some (.slice none 0 0) := A9.cell 1; have y92 : w9.cell? ⟨_, 2, none⟩ = some (.int .i64 0) := A9.cell 2; have y93 : w9.cell? ⟨_, 3, none⟩ = some (.int .i64 0) := A9.cell 3; have yf9 := A9.frozen; have yz9 := A9.lt) | skip
               have R9 := Lib.hid (fun W (hW : Below w9.heap.size w9 W) => Own.rd (size := 5) (n := n) (o9.next hW) (by rw [flat_len entryCells entryCells_len, HL.out])))
            | (go_at_call 22; refine (toEntry_any _ _ _ _ _ _).mono ?_; rintro e w8 ⟨rfl, h8⟩
               have q8 : Below w2.heap.size w2 w8 := below_next (by repeat' (first | (with_reducible exact Below.refl _ _) | (with_reducible assumption) | (with_reducible refine below_drewN ?_ _) | (with_reducible refine Below.drew ?_) | (with_reducible refine Below.alloc ?_ ?_ _) | (with_reducible refine Below.setCell ?_ ?_ _) | go_size)) h8
               have s8 := q8.size
               have K18 := K1.next q8
               have K28 := K2.next q8
               have l80 : w8.cell? ⟨w.heap.size, 0, none⟩ = some (.int .i64 m) := K18.cell 0
               have la80 : ∀ o, (w8.alloc o).cell? ⟨w.heap.size, 0, none⟩ = some (.int .i64 m) := fun o => (K18.alloc o).cell 0
               have l81 : w8.cell? ⟨w.heap.size, 1, none⟩ = some (.slice A n c) := K18.cell 1
               have la81 : ∀ o, (w8.alloc o).cell? ⟨w.heap.size, 1, none⟩ = some (.slice A n c) := fun o => (K18.alloc o).cell 1
               have l82 : w8.cell? ⟨w.heap.size, 2, none⟩ = some (.int .i64 h) := K18.cell 2
               have la82 : ∀ o, (w8.alloc o).cell? ⟨w.heap.size, 2, none⟩ = some (.int .i64 h) := fun o => (K18.alloc o).cell 2
               have l83 : w8.cell? ⟨w.heap.size, 3, none⟩ = some (.int .i64 k) := K18.cell 3
               have la83 : ∀ o, (w8.alloc o).cell? ⟨w.heap.size, 3, none⟩ = some (.int .i64 k) := fun o => (K18.alloc o).cell 3
               have l84 : w8.cell? ⟨w.heap.size + 1, 0, none⟩ = some (.string t) := K28.cell 0
               have la84 : ∀ o, (w8.alloc o).cell? ⟨w.heap.size + 1, 0, none⟩ = some (.string t) := fun o => (K28.alloc o).cell 0
               have l85 : w8.cell? ⟨w.heap.size + 1, 1, none⟩ = some (.int .i64 a) := K28.cell 1
               have la85 : ∀ o, (w8.alloc o).cell? ⟨w.heap.size + 1, 1, none⟩ = some (.int .i64 a) := fun o => (K28.alloc o).cell 1
               have l86 : w8.cell? ⟨w.heap.size + 1, 2, none⟩ = some (.int .i64 b) := K28.cell 2
               have la86 : ∀ o, (w8.alloc o).cell? ⟨w.heap.size + 1, 2, none⟩ = some (.int .i64 b) := fun o => (K28.alloc o).cell 2
               have l87 : w8.cell? ⟨w.heap.size + 1, 3, none⟩ = some (.string x3) := K28.cell 3
               have la87 : ∀ o, (w8.alloc o).cell? ⟨w.heap.size + 1, 3, none⟩ = some (.string x3) := fun o => (K28.alloc o).cell 3
               have l88 : w8.cell? ⟨w.heap.size + 1, 4, none⟩ = some (.int .i64 x4) := K28.cell 4
               have la88 : ∀ o, (w8.alloc o).cell? ⟨w.heap.size + 1, 4, none⟩ = some (.int .i64 x4) := fun o => (K28.alloc o).cell 4
               first | (with_reducible have A8 := ((Blk.new w2 44 #[.int .i64 0, .slice none 0 0, .int .i64 0, .int .i64 0]).drew).next h8) | (with_reducible have A8 := ((Blk.new w2.drew 44 #[.int .i64 0, .slice none 0 0, .int .i64 0, .int .i64 0])).next h8) | (with_reducible have A8 := Blk.fresh h8; try (change Blk w8 w2.heap.size _ _ at A8)) | (with_reducible have A8 := A9.next h8) | skip
               try (change Blk w8 w2.heap.size _ _ at A8)
               first | (have y80 : w8.cell? ⟨_, 0, none⟩ = some (.int .i64 0) := A8.cell 0; have y81 : w8.cell? ⟨_, 1, none⟩ = some (.slice none 0 0) := A8.cell 1; have y82 : w8.cell? ⟨_, 2, none⟩ = some (.int .i64 0) := A8.cell 2; have y83 : w8.cell? ⟨_, 3, none⟩ = some (.int .i64 0) := A8.cell 3; have yf8 := A8.frozen; have yz8 := A8.lt) | skip
               first | (have q98 : Below w9.heap.size w9 w8 := below_next (by repeat' (first | (with_reducible exact Below.refl _ _) | (with_reducible assumption) | (with_reducible refine below_drewN ?_ _) | (with_reducible refine Below.drew ?_) | (with_reducible refine Below.alloc ?_ ?_ _) | (with_reducible refine Below.setCell ?_ ?_ _) | go_size)) h8; have s98 := q98.size) | skip)
            | (go_at_call 20; refine (HP.out g9 n _ (R9.out _ (by repeat' (first | (with_reducible exact Below.refl _ _) | (with_reducible assumption) | (with_reducible refine below_drewN ?_ _) | (with_reducible refine Below.drew ?_) | (with_reducible refine Below.alloc ?_ ?_ _) | (with_reducible refine Below.setCell ?_ ?_ _) | go_size)))).mono ?_; rintro e w7 ⟨g7, c7, rfl, o7, hg7, hl7, hc7, h7⟩
               have q7 : Below w2.heap.size w2 w7 := below_next (by repeat' (first | (with_reducible exact Below.refl _ _) | (with_reducible assumption) | (with_reducible refine below_drewN ?_ _) | (with_reducible refine Below.drew ?_) | (with_reducible refine Below.alloc ?_ ?_ _) | (with_reducible refine Below.setCell ?_ ?_ _) | go_size)) h7
               have s7 := q7.size
               have K17 := K1.next q7
               have K27 := K2.next q7
               have l70 : w7.cell? ⟨w.heap.size, 0, none⟩ = some (.int .i64 m) := K17.cell 0
               have la70 : ∀ o, (w7.alloc o).cell? ⟨w.heap.size, 0, none⟩ = some (.int .i64 m) := fun o => (K17.alloc o).cell 0
               have l71 : w7.cell? ⟨w.heap.size, 1, none⟩ = some (.slice A n c) := K17.cell 1
               have la71 : ∀ o, (w7.alloc o).cell? ⟨w.heap.size, 1, none⟩ = some (.slice A n c) := fun o => (K17.alloc o).cell 1
               have l72 : w7.cell? ⟨w.heap.size, 2, none⟩ = some (.int .i64 h) := K17.cell 2
               have la72 : ∀ o, (w7.alloc o).cell? ⟨w.heap.size, 2, none⟩ = some (.int .i64 h) := fun o => (K17.alloc o).cell 2
               have l73 : w7.cell? ⟨w.heap.size, 3, none⟩ = some (.int .i64 k) := K17.cell 3
               have la73 : ∀ o, (w7.alloc o).cell? ⟨w.heap.size, 3, none⟩ = some (.int .i64 k) := fun o => (K17.alloc o).cell 3
               have l74 : w7.cell? ⟨w.heap.size + 1, 0, none⟩ = some (.string t) := K27.cell 0
               have la74 : ∀ o, (w7.alloc o).cell? ⟨w.heap.size + 1, 0, none⟩ = some (.string t) := fun o => (K27.alloc o).cell 0
               have l75 : w7.cell? ⟨w.heap.size + 1, 1, none⟩ = some (.int .i64 a) := K27.cell 1
               have la75 : ∀ o, (w7.alloc o).cell? ⟨w.heap.size + 1, 1, none⟩ = some (.int .i64 a) := fun o => (K27.alloc o).cell 1
               have l76 : w7.cell? ⟨w.heap.size + 1, 2, none⟩ = some (.int .i64 b) := K27.cell 2
               have la76 : ∀ o, (w7.alloc o).cell? ⟨w.heap.size + 1, 2, none⟩ = some (.int .i64 b) := fun o => (K27.alloc o).cell 2
               have l77 : w7.cell? ⟨w.heap.size + 1, 3, none⟩ = some (.string x3) := K27.cell 3
               have la77 : ∀ o, (w7.alloc o).cell? ⟨w.heap.size + 1, 3, none⟩ = some (.string x3) := fun o => (K27.alloc o).cell 3
               have l78 : w7.cell? ⟨w.heap.size + 1, 4, none⟩ = some (.int .i64 x4) := K27.cell 4
               have la78 : ∀ o, (w7.alloc o).cell? ⟨w.heap.size + 1, 4, none⟩ = some (.int .i64 x4) := fun o => (K27.alloc o).cell 4
               first | (with_reducible have A7 := ((Blk.new w2 44 #[.int .i64 0, .slice none 0 0, .int .i64 0, .int .i64 0]).drew).next h7) | (with_reducible have A7 := ((Blk.new w2.drew 44 #[.int .i64 0, .slice none 0 0, .int .i64 0, .int .i64 0])).next h7) | (with_reducible have A7 := Blk.fresh h7; try (change Blk w7 w2.heap.size _ _ at A7)) | (with_reducible have A7 := A8.next h7) | (with_reducible have A7 := A9.next h7) | skip
               try (change Blk w7 w2.heap.size _ _ at A7)
               first | (have y70 : w7.cell? ⟨_, 0, none⟩ = some (.int .i64 0) := A7.cell 0; have y71 : w7.cell? ⟨_, 1, none⟩ = some (.slice none 0 0) := A7.cell 1; have y72 : w7.cell? ⟨_, 2, none⟩ = some (.int .i64 0) := A7.cell 2; have y73 : w7.cell? ⟨_, 3, none⟩ = some (.int .i64 0) := A7.cell 3; have yf7 := A7.frozen; have yz7 := A7.lt) | skip))
        all_goals
          have hg7' : w2.heap.size ≤ g7 := by (try simp at hg7); omega
          go_wp2_with fail
          go_meet
          first
            | (with_reducible refine ⟨w7.heap.size, g7, c7, rfl, Blk.new w7 _ _, o7.alloc _, hl7, hc7, ?_, hg7', ?_⟩
               · omega
               · exact (by repeat' (first | (with_reducible exact Below.refl _ _) | (with_reducible assumption) | (with_reducible refine below_drewN ?_ _) | (with_reducible refine Below.drew ?_) | (with_reducible refine Below.alloc ?_ ?_ _) | (with_reducible refine Below.setCell ?_ ?_ _) | go_size)))
            | (have hne := own_ne o7 A7 (by decide)
               have hAz := A7.lt
               exact ⟨_, g7, c7, rfl, blk_put (blk_put (blk_put (blk_put A7 rfl) rfl) rfl) rfl, (((o7.far hne _).far hne _).far hne _).far hne _, hl7, hc7, by omega, hg7', (by repeat' (first | (with_reducible exact Below.refl _ _) | (with_reducible assumption) | (with_reducible refine below_drewN ?_ _) | (with_reducible refine Below.drew ?_) | (with_reducible refine Below.alloc ?_ ?_ _) | (with_reducible refine Below.setCell ?_ ?_ _) | go_size))⟩)
      case rest =>
        obtain ⟨g6, g7, c7, rfl, K6, o7, hl7, hc7, hg6, hg7, hq⟩ := hcut
        replace K1 := K1.next hq
        replace K2 := K2.next hq
        replace hb := below_next hb hq
        clear ce0 ce1 ce2 ce3 ce4 ce5 ce6 ce7 ce8 z0 z1
        obtain ⟨nR, hnR⟩ : ∃ nR, R.length = nR := ⟨_, rfl⟩
        have HnR := Lib.hid hnR
        have hnb : nR ≤ 1048577 := by rw [← hnR]; exact HRl.out
        rw [hnR] at K6 hl7
        clear hnR HRl
        have z7 := o7.lt
        have zK6 := K6.lt
        have zK1 := K1.lt
        have zK2 := K2.lt
        have cK1 := K1.cell
        have cK2 := K2.cell
        have cK6 := K6.cell
        have fK1 := K1.frozen
        have fK2 := K2.frozen
        have fK6 := K6.frozen
        have hs2 := hq.size
        clear hq
        obtain ⟨wA, hwA⟩ : ∃ wA, wA = wc := ⟨_, rfl⟩
        subst hwA
        have p1 : w.heap.size + 1 < wA.heap.size := zK2
        have p6 : g6 < wA.heap.size := zK6
        go_wp2_with fail
        refine (toCache_any _ _ _ _ _ _ _ _ g1 HL (HRw.out _ hb)).mono ?_
        rintro e w2 ⟨g8, rfl, o8, hg8, h2⟩
        clear cK1 fK1 zK1
        replace K1 := by first | exact K1.next h2 | exact K1.next1 h2 | exact K1.next2 h2
        clear cK2 fK2 zK2
        replace K2 := by first | exact K2.next h2 | exact K2.next1 h2 | exact K2.next2 h2
        clear cK6 fK6 zK6
        replace K6 := by first | exact K6.next h2 | exact K6.next1 h2 | exact K6.next2 h2
        replace o7 := by first | exact o7.next h2 | exact o7.next1 h2 | exact o7.next2 h2
        replace hb := by first | exact below_next hb h2 | exact below_next1 hb h2 | exact below_next2 hb h2
        clear h2
        have cK1 := K1.cell
        have fK1 := K1.frozen
        have zK1 := K1.lt
        have cK2 := K2.cell
        have fK2 := K2.frozen
        have zK2 := K2.lt
        have cK6 := K6.cell
        have fK6 := K6.frozen
        have zK6 := K6.lt
        obtain ⟨wB, hwB⟩ : ∃ wB, wB = w2 := ⟨_, rfl⟩
        subst hwB
        go_upto_region 10 with fail
        obtain ⟨w3, hw3⟩ : ∃ w3, w3 = wB.alloc (.cells #[.int .i64 m, .slice (some ⟨g8, 0, none⟩) n n, .int .i64 h, .int .i64 k] 44) := ⟨_, rfl⟩
        rw [← hw3]
        have K7 : Blk w3 wB.heap.size 44 #[.int .i64 m, .slice (some ⟨g8, 0, none⟩) n n, .int .i64 h, .int .i64 k] := by rw [hw3]; exact Blk.new _ _ _
        clear cK1 fK1 zK1 cK2 fK2 zK2 cK6 fK6 zK6
        have z8 := o8.lt
        have hA3 : Below wB.heap.size wB w3 := by rw [hw3]; exact (Below.refl _ _).alloc (Nat.le_refl _) _
        replace K1 := K1.next hA3
        replace K2 := K2.next hA3
        replace K6 := K6.next hA3
        replace o7 := o7.next hA3
        replace o8 := o8.next hA3
        replace hb := below_next hb hA3
        clear hA3
        have hs3 : wB.heap.size + 1 = w3.heap.size := by rw [hw3]; simp
        clear hw3
        go_upto_region 10 with fail
        have ce0 : w3.cell? ⟨wB.heap.size, 0, none⟩ = some (.int .i64 m) := K7.cell 0
        have ce1 : w3.cell? ⟨wB.heap.size, 1, none⟩ = some (.slice (some ⟨g8, 0, none⟩) n n) := K7.cell 1
        have ce2 : w3.cell? ⟨wB.heap.size, 2, none⟩ = some (.int .i64 h) := K7.cell 2
        have ce3 : w3.cell? ⟨wB.heap.size, 3, none⟩ = some (.int .i64 k) := K7.cell 3
        have ce4 : w3.cell? ⟨w.heap.size + 1, 0, none⟩ = some (.string t) := K2.cell 0
        have ce5 : w3.cell? ⟨w.heap.size + 1, 1, none⟩ = some (.int .i64 a) := K2.cell 1
        have ce6 : w3.cell? ⟨w.heap.size + 1, 2, none⟩ = some (.int .i64 b) := K2.cell 2
        have ce7 : w3.cell? ⟨w.heap.size + 1, 3, none⟩ = some (.string x3) := K2.cell 3
        have ce8 : w3.cell? ⟨w.heap.size + 1, 4, none⟩ = some (.int .i64 x4) := K2.cell 4
        have z0 := K7.lt
        have z1 := K2.lt
        go_cut [8] (fun s wx => ∃ g6 g7 c7 : Nat, s = .pointer (some ⟨g6, 0, none⟩) ∧ Blk wx g6 44 #[.int .i64 m, .slice (some ⟨g7, 0, none⟩) R.length c7, .int .i64 h, .int .i64 k] ∧ Own wx g7 47 (c7 * 5) (R.flatMap entryCells) ∧ R.length ≤ c7 ∧ c7 ≤ maxLen ∧ w3.heap.size ≤ g6 ∧ w3.heap.size ≤ g7 ∧ Below w3.heap.size w3 wx)
        case first =>
          go_region_held3 (fun w' => w'.cell? ⟨wB.heap.size, 0, none⟩ = some (.int .i64 m) ∧ w'.cell? ⟨wB.heap.size, 1, none⟩ = some (.slice (some ⟨g8, 0, none⟩) n n) ∧ w'.cell? ⟨wB.heap.size, 2, none⟩ = some (.int .i64 h) ∧ w'.cell? ⟨wB.heap.size, 3, none⟩ = some (.int .i64 k) ∧ w'.cell? ⟨w.heap.size + 1, 0, none⟩ = some (.string t) ∧ w'.cell? ⟨w.heap.size + 1, 1, none⟩ = some (.int .i64 a) ∧ w'.cell? ⟨w.heap.size + 1, 2, none⟩ = some (.int .i64 b) ∧ w'.cell? ⟨w.heap.size + 1, 3, none⟩ = some (.string x3) ∧ w'.cell? ⟨w.heap.size + 1, 4, none⟩ = some (.int .i64 x4))
            (first | (with_reducible exact ⟨l70, l71, l72, l73, l74, l75, l76, l77, l78⟩) | (with_reducible exact ⟨l80, l81, l82, l83, l84, l85, l86, l87, l88⟩) | (with_reducible exact ⟨la70 _, la71 _, la72 _, la73 _, la74 _, la75 _, la76 _, la77 _, la78 _⟩) | (with_reducible exact ⟨la80 _, la81 _, la82 _, la83 _, la84 _, la85 _, la86 _, la87 _, la88 _⟩) | (refine ⟨?_, ?_, ?_, ?_, ?_, ?_, ?_, ?_, ?_⟩ <;> go_cell) | go_keep)
            (first
              | (go_at_call 22; refine (toEntry_any _ _ _ _ _ _).mono ?_; rintro e w8 ⟨rfl, h8⟩
                 have q8 : Below w3.heap.size w3 w8 := below_next (by repeat' (first | (with_reducible exact Below.refl _ _) | (with_reducible assumption) | (with_reducible refine below_drewN ?_ _) | (with_reducible refine Below.drew ?_) | (with_reducible refine Below.alloc ?_ ?_ _) | (with_reducible refine Below.setCell ?_ ?_ _) | go_size)) h8
                 have s8 := q8.size
                 have K78 := K7.next q8
                 have K28 := K2.next q8
                 have l80 : w8.cell? ⟨wB.heap.size, 0, none⟩ = some (.int .i64 m) := K78.cell 0
                 have la80 : ∀ o, (w8.alloc o).cell? ⟨wB.heap.size, 0, none⟩ = some (.int .i64 m) := fun o => (K78.alloc o).cell 0
                 have l81 : w8.cell? ⟨wB.heap.size, 1, none⟩ = some (.slice (some ⟨g8, 0, none⟩) n n) := K78.cell 1
                 have la81 : ∀ o, (w8.alloc o).cell? ⟨wB.heap.size, 1, none⟩ = some (.slice (some ⟨g8, 0, none⟩) n n) := fun o => (K78.alloc o).cell 1
                 have l82 : w8.cell? ⟨wB.heap.size, 2, none⟩ = some (.int .i64 h) := K78.cell 2
                 have la82 : ∀ o, (w8.alloc o).cell? ⟨wB.heap.size, 2, none⟩ = some (.int .i64 h) := fun o => (K78.alloc o).cell 2
                 have l83 : w8.cell? ⟨wB.heap.size, 3, none⟩ = some (.int .i64 k) := K78.cell 3
                 have la83 : ∀ o, (w8.alloc o).cell? ⟨wB.heap.size, 3, none⟩ = some (.int .i64 k) := fun o => (K78.alloc o).cell 3
                 have l84 : w8.cell? ⟨w.heap.size + 1, 0, none⟩ = some (.string t) := K28.cell 0
                 have la84 : ∀ o, (w8.alloc o).cell? ⟨w.heap.size + 1, 0, none⟩ = some (.string t) := fun o => (K28.alloc o).cell 0
                 have l85 : w8.cell? ⟨w.heap.size + 1, 1, none⟩ = some (.int .i64 a) := K28.cell 1
                 have la85 : ∀ o, (w8.alloc o).cell? ⟨w.heap.size + 1, 1, none⟩ = some (.int .i64 a) := fun o => (K28.alloc o).cell 1
                 have l86 : w8.cell? ⟨w.heap.size + 1, 2, none⟩ = some (.int .i64 b) := K28.cell 2
                 have la86 : ∀ o, (w8.alloc o).cell? ⟨w.heap.size + 1, 2, none⟩ = some (.int .i64 b) := fun o => (K28.alloc o).cell 2
                 have l87 : w8.cell? ⟨w.heap.size + 1, 3, none⟩ = some (.string x3) := K28.cell 3
                 have la87 : ∀ o, (w8.alloc o).cell? ⟨w.heap.size + 1, 3, none⟩ = some (.string x3) := fun o => (K28.alloc o).cell 3
                 have l88 : w8.cell? ⟨w.heap.size + 1, 4, none⟩ = some (.int .i64 x4) := K28.cell 4
                 have la88 : ∀ o, (w8.alloc o).cell? ⟨w.heap.size + 1, 4, none⟩ = some (.int .i64 x4) := fun o => (K28.alloc o).cell 4
                 first | (with_reducible have A8 := ((Blk.new w3 44 #[.int .i64 0, .slice none 0 0, .int .i64 0, .int .i64 0]).drew).next h8) | (with_reducible have A8 := ((Blk.new w3.drew 44 #[.int .i64 0, .slice none 0 0, .int .i64 0, .int .i64 0])).next h8) | (with_reducible have A8 := Blk.fresh h8; try (change Blk w8 w3.heap.size _ _ at A8)) | skip
                 try (change Blk w8 w3.heap.size _ _ at A8)
                 first | (have y80 : w8.cell? ⟨_, 0, none⟩ = some (.int .i64 0) := A8.cell 0; have y81 : w8.cell? ⟨_, 1, none⟩ = some (.slice none 0 0) := A8.cell 1; have y82 : w8.cell? ⟨_, 2, none⟩ = some (.int .i64 0) := A8.cell 2; have y83 : w8.cell? ⟨_, 3, none⟩ = some (.int .i64 0) := A8.cell 3; have yf8 := A8.frozen; have yz8 := A8.lt) | skip
                 first | (have q98 : Below w9.heap.size w9 w8 := below_next (by repeat' (first | (with_reducible exact Below.refl _ _) | (with_reducible assumption) | (with_reducible refine below_drewN ?_ _) | (with_reducible refine Below.drew ?_) | (with_reducible refine Below.alloc ?_ ?_ _) | (with_reducible refine Below.setCell ?_ ?_ _) | go_size)) h8; have s98 := q98.size) | skip)
              | (go_at_call 23; refine (HI.out g8 n _ (rdE (o8.next (by repeat' (first | (with_reducible exact Below.refl _ _) | (with_reducible assumption) | (with_reducible refine below_drewN ?_ _) | (with_reducible refine Below.drew ?_) | (with_reducible refine Below.alloc ?_ ?_ _) | (with_reducible refine Below.setCell ?_ ?_ _) | go_size))) HL.out)).mono ?_; rintro e w7 ⟨g7, c7, rfl, o7, hg7, hl7, hc7, h7⟩
                 have q7 : Below w3.heap.size w3 w7 := below_next (by repeat' (first | (with_reducible exact Below.refl _ _) | (with_reducible assumption) | (with_reducible refine below_drewN ?_ _) | (with_reducible refine Below.drew ?_) | (with_reducible refine Below.alloc ?_ ?_ _) | (with_reducible refine Below.setCell ?_ ?_ _) | go_size)) h7
                 have s7 := q7.size
                 have K77 := K7.next q7
                 have K27 := K2.next q7
                 have l70 : w7.cell? ⟨wB.heap.size, 0, none⟩ = some (.int .i64 m) := K77.cell 0
                 have la70 : ∀ o, (w7.alloc o).cell? ⟨wB.heap.size, 0, none⟩ = some (.int .i64 m) := fun o => (K77.alloc o).cell 0
                 have l71 : w7.cell? ⟨wB.heap.size, 1, none⟩ = some (.slice (some ⟨g8, 0, none⟩) n n) := K77.cell 1
                 have la71 : ∀ o, (w7.alloc o).cell? ⟨wB.heap.size, 1, none⟩ = some (.slice (some ⟨g8, 0, none⟩) n n) := fun o => (K77.alloc o).cell 1
                 have l72 : w7.cell? ⟨wB.heap.size, 2, none⟩ = some (.int .i64 h) := K77.cell 2
                 have la72 : ∀ o, (w7.alloc o).cell? ⟨wB.heap.size, 2, none⟩ = some (.int .i64 h) := fun o => (K77.alloc o).cell 2
                 have l73 : w7.cell? ⟨wB.heap.size, 3, none⟩ = some (.int .i64 k) := K77.cell 3
                 have la73 : ∀ o, (w7.alloc o).cell? ⟨wB.heap.size, 3, none⟩ = some (.int .i64 k) := fun o => (K77.alloc o).cell 3
                 have l74 : w7.cell? ⟨w.heap.size + 1, 0, none⟩ = some (.string t) := K27.cell 0
                 have la74 : ∀ o, (w7.alloc o).cell? ⟨w.heap.size + 1, 0, none⟩ = some (.string t) := fun o => (K27.alloc o).cell 0
                 have l75 : w7.cell? ⟨w.heap.size + 1, 1, none⟩ = some (.int .i64 a) := K27.cell 1
                 have la75 : ∀ o, (w7.alloc o).cell? ⟨w.heap.size + 1, 1, none⟩ = some (.int .i64 a) := fun o => (K27.alloc o).cell 1
                 have l76 : w7.cell? ⟨w.heap.size + 1, 2, none⟩ = some (.int .i64 b) := K27.cell 2
                 have la76 : ∀ o, (w7.alloc o).cell? ⟨w.heap.size + 1, 2, none⟩ = some (.int .i64 b) := fun o => (K27.alloc o).cell 2
                 have l77 : w7.cell? ⟨w.heap.size + 1, 3, none⟩ = some (.string x3) := K27.cell 3
                 have la77 : ∀ o, (w7.alloc o).cell? ⟨w.heap.size + 1, 3, none⟩ = some (.string x3) := fun o => (K27.alloc o).cell 3
                 have l78 : w7.cell? ⟨w.heap.size + 1, 4, none⟩ = some (.int .i64 x4) := K27.cell 4
                 have la78 : ∀ o, (w7.alloc o).cell? ⟨w.heap.size + 1, 4, none⟩ = some (.int .i64 x4) := fun o => (K27.alloc o).cell 4
                 first | (with_reducible have A7 := ((Blk.new w3 44 #[.int .i64 0, .slice none 0 0, .int .i64 0, .int .i64 0]).drew).next h7) | (with_reducible have A7 := ((Blk.new w3.drew 44 #[.int .i64 0, .slice none 0 0, .int .i64 0, .int .i64 0])).next h7) | (with_reducible have A7 := Blk.fresh h7; try (change Blk w7 w3.heap.size _ _ at A7)) | (with_reducible have A7 := A8.next h7) | skip
                 try (change Blk w7 w3.heap.size _ _ at A7)
                 first | (have y70 : w7.cell? ⟨_, 0, none⟩ = some (.int .i64 0) := A7.cell 0; have y71 : w7.cell? ⟨_, 1, none⟩ = some (.slice none 0 0) := A7.cell 1; have y72 : w7.cell? ⟨_, 2, none⟩ = some (.int .i64 0) := A7.cell 2; have y73 : w7.cell? ⟨_, 3, none⟩ = some (.int .i64 0) := A7.cell 3; have yf7 := A7.frozen; have yz7 := A7.lt) | skip))
          all_goals
            have hg7' : w3.heap.size ≤ g7 := by (try simp at hg7); omega
            go_wp2_with fail
            go_meet
            first
              | (with_reducible refine ⟨w7.heap.size, g7, c7, rfl, Blk.new w7 _ _, o7.alloc _, hl7, hc7, ?_, hg7', ?_⟩
                 · omega
                 · exact (by repeat' (first | (with_reducible exact Below.refl _ _) | (with_reducible assumption) | (with_reducible refine below_drewN ?_ _) | (with_reducible refine Below.drew ?_) | (with_reducible refine Below.alloc ?_ ?_ _) | (with_reducible refine Below.setCell ?_ ?_ _) | go_size)))
              | (have hne := own_ne o7 A7 (by decide)
                 have hAz := A7.lt
                 exact ⟨_, g7, c7, rfl, blk_put (blk_put (blk_put (blk_put A7 rfl) rfl) rfl) rfl, (((o7.far hne _).far hne _).far hne _).far hne _, hl7, hc7, by omega, hg7', (by repeat' (first | (with_reducible exact Below.refl _ _) | (with_reducible assumption) | (with_reducible refine below_drewN ?_ _) | (with_reducible refine Below.drew ?_) | (with_reducible refine Below.alloc ?_ ?_ _) | (with_reducible refine Below.setCell ?_ ?_ _) | go_size))⟩)
        case rest =>
          obtain ⟨g10, g11, c11, rfl, K10, o11, hl11, hc11, hg10, hg11, hq⟩ := hcut
          clear ce0 ce1 ce2 ce3 ce4 ce5 ce6 ce7 ce8 z0 z1
          replace K1 := K1.next hq
          replace K2 := K2.next hq
          replace K6 := K6.next hq
          replace K7 := K7.next hq
          replace o7 := o7.next hq
          replace o8 := o8.next hq
          replace hb := below_next hb hq
          rw [HnR.out] at K10 hl11
          have hne := own_ne o11 K10 (by decide)
          clear hq
          obtain ⟨wC, hwC⟩ : ∃ wC, wC = wc := ⟨_, rfl⟩
          subst hwC
          have HO8 := Lib.hid (show (l.flatMap entryCells).length = n * 5 by rw [flat_len entryCells entryCells_len, HL.out])
          have HOR := Lib.hid (show (R.flatMap entryCells).length = nR * 5 by rw [flat_len entryCells entryCells_len, HnR.out])
          have cK1 := K1.cell
          have fK1 := K1.frozen
          have zK1 := K1.lt
          have cK2 := K2.cell
          have fK2 := K2.frozen
          have zK2 := K2.lt
          have cK6 := K6.cell
          have fK6 := K6.frozen
          have zK6 := K6.lt
          have cK7 := K7.cell
          have fK7 := K7.frozen
          have zK7 := K7.lt
          have cK10 := K10.cell
          have fK10 := K10.frozen
          have zK10 := K10.lt
          go_wp2_with fail
          refine (eqCache_same _ _ _ _ _ _ _ _ R _ (by omega) HnR (rdE o11 HnR.out) (rdE o7 HnR.out)).mono ?_
          rintro e w2 ⟨rfl, h2⟩
          clear cK1 fK1 zK1
          replace K1 := by first | exact K1.next h2 | exact K1.next1 h2 | exact K1.next2 h2
          clear cK2 fK2 zK2
          replace K2 := by first | exact K2.next h2 | exact K2.next1 h2 | exact K2.next2 h2
          clear cK6 fK6 zK6
          replace K6 := by first | exact K6.next h2 | exact K6.next1 h2 | exact K6.next2 h2
          clear cK7 fK7 zK7
          replace K7 := by first | exact K7.next h2 | exact K7.next1 h2 | exact K7.next2 h2
          clear cK10 fK10 zK10
          replace K10 := by first | exact K10.next h2 | exact K10.next1 h2 | exact K10.next2 h2
          replace o7 := by first | exact o7.next h2 | exact o7.next1 h2 | exact o7.next2 h2
          replace o8 := by first | exact o8.next h2 | exact o8.next1 h2 | exact o8.next2 h2
          replace o11 := by first | exact o11.next h2 | exact o11.next1 h2 | exact o11.next2 h2
          replace hb := by first | exact below_next hb h2 | exact below_next1 hb h2 | exact below_next2 hb h2
          clear h2
          have cK1 := K1.cell
          have fK1 := K1.frozen
          have zK1 := K1.lt
          have cK2 := K2.cell
          have fK2 := K2.frozen
          have zK2 := K2.lt
          have cK6 := K6.cell
          have fK6 := K6.frozen
          have zK6 := K6.lt
          have cK7 := K7.cell
          have fK7 := K7.frozen
          have zK7 := K7.lt
          have cK10 := K10.cell
          have fK10 := K10.frozen
          have zK10 := K10.lt
          obtain ⟨wD, hwD⟩ : ∃ wD, wD = w2 := ⟨_, rfl⟩
          subst hwD
          go_upto_region 13 with fail
          go_cut [42] (fun s wx => s = .bool false ∧ Below wD.heap.size wD wx)
          case first =>
            go_region_with (first
              | (go_at_call 21; refine (toCache_any _ _ _ _ _ _ _ _ g1 HL (HRw.out _ (below_next hb (by repeat' (first | (with_reducible exact Below.refl _ _) | (with_reducible assumption) | (with_reducible refine below_drewN ?_ _) | (with_reducible refine Below.drew ?_) | (with_reducible refine Below.alloc ?_ ?_ _) | (with_reducible refine Below.setCell ?_ ?_ _) | go_size))))).mono ?_; rintro e w9 ⟨g9, rfl, o9, hg9, h9⟩
                 have h9' : Below wD.heap.size wD w9 := below_next (by repeat' (first | (with_reducible exact Below.refl _ _) | (with_reducible assumption) | (with_reducible refine below_drewN ?_ _) | (with_reducible refine Below.drew ?_) | (with_reducible refine Below.alloc ?_ ?_ _) | (with_reducible refine Below.setCell ?_ ?_ _) | go_size)) h9
                 have r9 := rdE o9 HL.out
                 have r8 := rdE (o8.next h9') HL.out
                 have b2 := K7.next h9'
                 have y2 := b2.cell
                 have zz := b2.lt
                 clear h9)
              | (go_at_call 24; refine (eqCache_same _ _ _ _ _ _ _ _ _ _ (by omega) HL r8 r9).mono ?_; rintro e w10 ⟨rfl, h10⟩
                 have hbb := below_next h9' h10))
            all_goals (go_wp2_with fail; go_meet; exact ⟨rfl, hbb⟩)
          case rest =>
          obtain ⟨rfl, hq⟩ := hcut
          clear cK1 fK1 zK1 cK2 fK2 zK2 cK6 fK6 zK6 cK7 fK7 zK7 cK10 fK10 zK10
          replace K1 := K1.next hq
          replace K2 := K2.next hq
          replace K6 := K6.next hq
          replace K7 := K7.next hq
          replace K10 := K10.next hq
          replace o7 := o7.next hq
          replace o8 := o8.next hq
          replace o11 := o11.next hq
          replace hb := below_next hb hq
          clear hq
          have cK1 := K1.cell
          have fK1 := K1.frozen
          have zK1 := K1.lt
          have cK2 := K2.cell
          have fK2 := K2.frozen
          have zK2 := K2.lt
          have cK6 := K6.cell
          have fK6 := K6.frozen
          have zK6 := K6.lt
          have cK7 := K7.cell
          have fK7 := K7.frozen
          have zK7 := K7.lt
          have cK10 := K10.cell
          have fK10 := K10.frozen
          have zK10 := K10.lt
          go_wp2_with fail
          refine (markCache_any _ _ _ _ g8 n n _ _ _ o8 HO8 (by omega) (by omega)).mono ?_
          rintro e w4 ⟨rfl, o8', hgr⟩
          replace K1 := K1.turned hgr (fun q e => by injection e with e; omega)
          replace K2 := K2.turned hgr (fun q e => by injection e with e; omega)
          replace K6 := K6.turned hgr (fun q e => by injection e with e; omega)
          replace K7 := K7.turned hgr (fun q e => by injection e with e; omega)
          replace K10 := K10.turned hgr (fun q e => by injection e with e; omega)
          replace o7 := o7.grown hgr (fun q e => by injection e with e; omega)
          replace o11 := o11.grown hgr (fun q e => by injection e with e; omega)
          replace hb := below_turned hb hgr (fun q e => by injection e with e; omega)
          clear hgr o8 o8'
          clear cK1 fK1 zK1 cK2 fK2 zK2 cK6 fK6 zK6 cK7 fK7 zK7 cK10 fK10 zK10
          have cK1 := K1.cell
          have fK1 := K1.frozen
          have zK1 := K1.lt
          have cK2 := K2.cell
          have fK2 := K2.frozen
          have zK2 := K2.lt
          have cK6 := K6.cell
          have fK6 := K6.frozen
          have zK6 := K6.lt
          have cK7 := K7.cell
          have fK7 := K7.frozen
          have zK7 := K7.lt
          have cK10 := K10.cell
          have fK10 := K10.frozen
          have zK10 := K10.lt
          go_wp2_with fail
          refine (eqCache_same _ _ _ _ _ _ _ _ R _ (by omega) HnR (rdE o11 HnR.out) (rdE o7 HnR.out)).mono ?_
          rintro e w2 ⟨rfl, h2⟩
          clear cK1 fK1 zK1
          replace K1 := by first | exact K1.next h2 | exact K1.next1 h2 | exact K1.next2 h2
          clear cK2 fK2 zK2
          replace K2 := by first | exact K2.next h2 | exact K2.next1 h2 | exact K2.next2 h2
          clear cK6 fK6 zK6
          replace K6 := by first | exact K6.next h2 | exact K6.next1 h2 | exact K6.next2 h2
          clear cK7 fK7 zK7
          replace K7 := by first | exact K7.next h2 | exact K7.next1 h2 | exact K7.next2 h2
          clear cK10 fK10 zK10
          replace K10 := by first | exact K10.next h2 | exact K10.next1 h2 | exact K10.next2 h2
          replace o7 := by first | exact o7.next h2 | exact o7.next1 h2 | exact o7.next2 h2
          replace o11 := by first | exact o11.next h2 | exact o11.next1 h2 | exact o11.next2 h2
          replace hb := by first | exact below_next hb h2 | exact below_next1 hb h2 | exact below_next2 hb h2
          clear h2
          have cK1 := K1.cell
          have fK1 := K1.frozen
          have zK1 := K1.lt
          have cK2 := K2.cell
          have fK2 := K2.frozen
          have zK2 := K2.lt
          have cK6 := K6.cell
          have fK6 := K6.frozen
          have zK6 := K6.lt
          have cK7 := K7.cell
          have fK7 := K7.frozen
          have zK7 := K7.lt
          have cK10 := K10.cell
          have fK10 := K10.frozen
          have zK10 := K10.lt
          go_wp2_with fail
          refine (markCache_any _ _ _ _ g11 nR c11 _ _ _ o11 HOR (by omega) (by omega)).mono ?_
          rintro e w5 ⟨rfl, o11', hgr⟩
          replace K1 := K1.turned hgr (fun q e => by injection e with e; omega)
          replace K2 := K2.turned hgr (fun q e => by injection e with e; omega)
          replace K6 := K6.turned hgr (fun q e => by injection e with e; omega)
          replace K10 := K10.turned hgr (fun q e => by injection e with e; omega)
          replace o7 := o7.grown hgr (fun q e => by injection e with e; omega)
          replace hb := below_turned hb hgr (fun q e => by injection e with e; omega)
          clear hgr o11 K7
          clear cK1 fK1 zK1 cK2 fK2 zK2 cK6 fK6 zK6 cK7 fK7 zK7 cK10 fK10 zK10
          have cK1 := K1.cell
          have fK1 := K1.frozen
          have zK1 := K1.lt
          have cK2 := K2.cell
          have fK2 := K2.frozen
          have zK2 := K2.lt
          have cK6 := K6.cell
          have fK6 := K6.frozen
          have zK6 := K6.lt
          have cK10 := K10.cell
          have fK10 := K10.frozen
          have zK10 := K10.lt
          have r11 := Own.rd (size := 5) (n := nR) o11' (marks_len entryMk_len _ _)
          go_wp2_with fail
          refine (heldCache_any _ _ _ _ _ _ _ _ r11 (by omega) (by omega)).mono ?_
          rintro e w2 ⟨rfl, h2⟩
          clear cK1 fK1 zK1
          replace K1 := by first | exact K1.next h2 | exact K1.next1 h2 | exact K1.next2 h2
          clear cK2 fK2 zK2
          replace K2 := by first | exact K2.next h2 | exact K2.next1 h2 | exact K2.next2 h2
          clear cK6 fK6 zK6
          replace K6 := by first | exact K6.next h2 | exact K6.next1 h2 | exact K6.next2 h2
          clear cK10 fK10 zK10
          replace K10 := by first | exact K10.next h2 | exact K10.next1 h2 | exact K10.next2 h2
          replace o7 := by first | exact o7.next h2 | exact o7.next1 h2 | exact o7.next2 h2
          replace r11 := by first | exact r11.next h2 | exact r11.next1 h2 | exact r11.next2 h2
          replace hb := by first | exact below_next hb h2 | exact below_next1 hb h2 | exact below_next2 hb h2
          clear h2
          have cK1 := K1.cell
          have fK1 := K1.frozen
          have zK1 := K1.lt
          have cK2 := K2.cell
          have fK2 := K2.frozen
          have zK2 := K2.lt
          have cK6 := K6.cell
          have fK6 := K6.frozen
          have zK6 := K6.lt
          have cK10 := K10.cell
          have fK10 := K10.frozen
          have zK10 := K10.lt
          clear o11'
          obtain ⟨wE, hwE⟩ : ∃ wE, wE = w2 := ⟨_, rfl⟩
          subst hwE
          go_upto_region 27 with fail
          have ce0 : wE.cell? ⟨w.heap.size, 0, none⟩ = some (.int .i64 m) := K1.cell 0
          have ce1 : wE.cell? ⟨w.heap.size, 1, none⟩ = some (.slice A n c) := K1.cell 1
          have ce2 : wE.cell? ⟨w.heap.size, 2, none⟩ = some (.int .i64 h) := K1.cell 2
          have ce3 : wE.cell? ⟨w.heap.size, 3, none⟩ = some (.int .i64 k) := K1.cell 3
          have ce4 : wE.cell? ⟨w.heap.size + 1, 0, none⟩ = some (.string t) := K2.cell 0
          have ce5 : wE.cell? ⟨w.heap.size + 1, 1, none⟩ = some (.int .i64 a) := K2.cell 1
          have ce6 : wE.cell? ⟨w.heap.size + 1, 2, none⟩ = some (.int .i64 b) := K2.cell 2
          have ce7 : wE.cell? ⟨w.heap.size + 1, 3, none⟩ = some (.string x3) := K2.cell 3
          have ce8 : wE.cell? ⟨w.heap.size + 1, 4, none⟩ = some (.int .i64 x4) := K2.cell 4
          have z0 := K1.lt
          have z1 := K2.lt
          go_cut [12] (fun s wx => ∃ g6 g7 c7 : Nat, s = .pointer (some ⟨g6, 0, none⟩) ∧ Blk wx g6 44 #[.int .i64 m, .slice (some ⟨g7, 0, none⟩) R.length c7, .int .i64 h, .int .i64 k] ∧ Own wx g7 47 (c7 * 5) (R.flatMap entryCells) ∧ R.length ≤ c7 ∧ c7 ≤ maxLen ∧ wE.heap.size ≤ g6 ∧ wE.heap.size ≤ g7 ∧ Below wE.heap.size wE wx)
          case first =>
            go_region_held3 (fun w' => w'.cell? ⟨w.heap.size, 0, none⟩ = some (.int .i64 m) ∧ w'.cell? ⟨w.heap.size, 1, none⟩ = some (.slice A n c) ∧ w'.cell? ⟨w.heap.size, 2, none⟩ = some (.int .i64 h) ∧ w'.cell? ⟨w.heap.size, 3, none⟩ = some (.int .i64 k) ∧ w'.cell? ⟨w.heap.size + 1, 0, none⟩ = some (.string t) ∧ w'.cell? ⟨w.heap.size + 1, 1, none⟩ = some (.int .i64 a) ∧ w'.cell? ⟨w.heap.size + 1, 2, none⟩ = some (.int .i64 b) ∧ w'.cell? ⟨w.heap.size + 1, 3, none⟩ = some (.string x3) ∧ w'.cell? ⟨w.heap.size + 1, 4, none⟩ = some (.int .i64 x4))
              (first | (with_reducible exact ⟨l70, l71, l72, l73, l74, l75, l76, l77, l78⟩) | (with_reducible exact ⟨l80, l81, l82, l83, l84, l85, l86, l87, l88⟩) | (with_reducible exact ⟨l90, l91, l92, l93, l94, l95, l96, l97, l98⟩) | (with_reducible exact ⟨la70 _, la71 _, la72 _, la73 _, la74 _, la75 _, la76 _, la77 _, la78 _⟩) | (with_reducible exact ⟨la80 _, la81 _, la82 _, la83 _, la84 _, la85 _, la86 _, la87 _, la88 _⟩) | (with_reducible exact ⟨la90 _, la91 _, la92 _, la93 _, la94 _, la95 _, la96 _, la97 _, la98 _⟩) | (refine ⟨?_, ?_, ?_, ?_, ?_, ?_, ?_, ?_, ?_⟩ <;> go_cell) | go_keep)
              (first
                | (go_at_call 21; refine (toCache_any _ _ _ _ _ _ _ _ g1 HL (HRw.out _ (below_next hb (by repeat' (first | (with_reducible exact Below.refl _ _) | (with_reducible assumption) | (with_reducible refine below_drewN ?_ _) | (with_reducible refine Below.drew ?_) | (with_reducible refine Below.alloc ?_ ?_ _) | (with_reducible refine Below.setCell ?_ ?_ _) | go_size))))).mono ?_; rintro e w9 ⟨g9, rfl, o9, hg9, h9⟩
                   have q9 : Below wE.heap.size wE w9 := below_next (by repeat' (first | (with_reducible exact Below.refl _ _) | (with_reducible assumption) | (with_reducible refine below_drewN ?_ _) | (with_reducible refine Below.drew ?_) | (with_reducible refine Below.alloc ?_ ?_ _) | (with_reducible refine Below.setCell ?_ ?_ _) | go_size)) h9
                   have s9 := q9.size
                   have K19 := K1.next q9
                   have K29 := K2.next q9
                   have l90 : w9.cell? ⟨w.heap.size, 0, none⟩ = some (.int .i64 m) := K19.cell 0
                   have la90 : ∀ o, (w9.alloc o).cell? ⟨w.heap.size, 0, none⟩ = some (.int .i64 m) := fun o => (K19.alloc o).cell 0
                   have l91 : w9.cell? ⟨w.heap.size, 1, none⟩ = some (.slice A n c) := K19.cell 1
                   have la91 : ∀ o, (w9.alloc o).cell? ⟨w.heap.size, 1, none⟩ = some (.slice A n c) := fun o => (K19.alloc o).cell 1
                   have l92 : w9.cell? ⟨w.heap.size, 2, none⟩ = some (.int .i64 h) := K19.cell 2
                   have la92 : ∀ o, (w9.alloc o).cell? ⟨w.heap.size, 2, none⟩ = some (.int .i64 h) := fun o => (K19.alloc o).cell 2
                   have l93 : w9.cell? ⟨w.heap.size, 3, none⟩ = some (.int .i64 k) := K19.cell 3
                   have la93 : ∀ o, (w9.alloc o).cell? ⟨w.heap.size, 3, none⟩ = some (.int .i64 k) := fun o => (K19.alloc o).cell 3
                   have l94 : w9.cell? ⟨w.heap.size + 1, 0, none⟩ = some (.string t) := K29.cell 0
                   have la94 : ∀ o, (w9.alloc o).cell? ⟨w.heap.size + 1, 0, none⟩ = some (.string t) := fun o => (K29.alloc o).cell 0
                   have l95 : w9.cell? ⟨w.heap.size + 1, 1, none⟩ = some (.int .i64 a) := K29.cell 1
                   have la95 : ∀ o, (w9.alloc o).cell? ⟨w.heap.size + 1, 1, none⟩ = some (.int .i64 a) := fun o => (K29.alloc o).cell 1
                   have l96 : w9.cell? ⟨w.heap.size + 1, 2, none⟩ = some (.int .i64 b) := K29.cell 2
                   have la96 : ∀ o, (w9.alloc o).cell? ⟨w.heap.size + 1, 2, none⟩ = some (.int .i64 b) := fun o => (K29.alloc o).cell 2
                   have l97 : w9.cell? ⟨w.heap.size + 1, 3, none⟩ = some (.string x3) := K29.cell 3
                   have la97 : ∀ o, (w9.alloc o).cell? ⟨w.heap.size + 1, 3, none⟩ = some (.string x3) := fun o => (K29.alloc o).cell 3
                   have l98 : w9.cell? ⟨w.heap.size + 1, 4, none⟩ = some (.int .i64 x4) := K29.cell 4
                   have la98 : ∀ o, (w9.alloc o).cell? ⟨w.heap.size + 1, 4, none⟩ = some (.int .i64 x4) := fun o => (K29.alloc o).cell 4
                   first | (with_reducible have A9 := ((Blk.new wE 44 #[.int .i64 0, .slice none 0 0, .int .i64 0, .int .i64 0]).drew).next h9) | (with_reducible have A9 := ((Blk.new wE.drew 44 #[.int .i64 0, .slice none 0 0, .int .i64 0, .int .i64 0])).next h9) | (with_reducible have A9 := Blk.fresh h9; try (change Blk w9 wE.heap.size _ _ at A9)) | (with_reducible have A9 := A8.next h9) | skip
                   try (change Blk w9 wE.heap.size _ _ at A9)
                   first | (have y90 : w9.cell? ⟨_, 0, none⟩ = some (.int .i64 0) := A9.cell 0; have y91 : w9.cell? ⟨_, 1, none⟩ = some (.slice none 0 0) := A9.cell 1; have y92 : w9.cell? ⟨_, 2, none⟩ = some (.int .i64 0) := A9.cell 2; have y93 : w9.cell? ⟨_, 3, none⟩ = some (.int .i64 0) := A9.cell 3; have yf9 := A9.frozen; have yz9 := A9.lt) | skip
                   have R9 := Lib.hid (fun W (hW : Below w9.heap.size w9 W) => Own.rd (size := 5) (n := n) (o9.next hW) (by rw [flat_len entryCells entryCells_len, HL.out])))
                | (go_at_call 22; refine (toEntry_any _ _ _ _ _ _).mono ?_; rintro e w8 ⟨rfl, h8⟩
                   have q8 : Below wE.heap.size wE w8 := below_next (by repeat' (first | (with_reducible exact Below.refl _ _) | (with_reducible assumption) | (with_reducible refine below_drewN ?_ _) | (with_reducible refine Below.drew ?_) | (with_reducible refine Below.alloc ?_ ?_ _) | (with_reducible refine Below.setCell ?_ ?_ _) | go_size)) h8
                   have s8 := q8.size
                   have K18 := K1.next q8
                   have K28 := K2.next q8
                   have l80 : w8.cell? ⟨w.heap.size, 0, none⟩ = some (.int .i64 m) := K18.cell 0
                   have la80 : ∀ o, (w8.alloc o).cell? ⟨w.heap.size, 0, none⟩ = some (.int .i64 m) := fun o => (K18.alloc o).cell 0
                   have l81 : w8.cell? ⟨w.heap.size, 1, none⟩ = some (.slice A n c) := K18.cell 1
                   have la81 : ∀ o, (w8.alloc o).cell? ⟨w.heap.size, 1, none⟩ = some (.slice A n c) := fun o => (K18.alloc o).cell 1
                   have l82 : w8.cell? ⟨w.heap.size, 2, none⟩ = some (.int .i64 h) := K18.cell 2
                   have la82 : ∀ o, (w8.alloc o).cell? ⟨w.heap.size, 2, none⟩ = some (.int .i64 h) := fun o => (K18.alloc o).cell 2
                   have l83 : w8.cell? ⟨w.heap.size, 3, none⟩ = some (.int .i64 k) := K18.cell 3
                   have la83 : ∀ o, (w8.alloc o).cell? ⟨w.heap.size, 3, none⟩ = some (.int .i64 k) := fun o => (K18.alloc o).cell 3
                   have l84 : w8.cell? ⟨w.heap.size + 1, 0, none⟩ = some (.string t) := K28.cell 0
                   have la84 : ∀ o, (w8.alloc o).cell? ⟨w.heap.size + 1, 0, none⟩ = some (.string t) := fun o => (K28.alloc o).cell 0
                   have l85 : w8.cell? ⟨w.heap.size + 1, 1, none⟩ = some (.int .i64 a) := K28.cell 1
                   have la85 : ∀ o, (w8.alloc o).cell? ⟨w.heap.size + 1, 1, none⟩ = some (.int .i64 a) := fun o => (K28.alloc o).cell 1
                   have l86 : w8.cell? ⟨w.heap.size + 1, 2, none⟩ = some (.int .i64 b) := K28.cell 2
                   have la86 : ∀ o, (w8.alloc o).cell? ⟨w.heap.size + 1, 2, none⟩ = some (.int .i64 b) := fun o => (K28.alloc o).cell 2
                   have l87 : w8.cell? ⟨w.heap.size + 1, 3, none⟩ = some (.string x3) := K28.cell 3
                   have la87 : ∀ o, (w8.alloc o).cell? ⟨w.heap.size + 1, 3, none⟩ = some (.string x3) := fun o => (K28.alloc o).cell 3
                   have l88 : w8.cell? ⟨w.heap.size + 1, 4, none⟩ = some (.int .i64 x4) := K28.cell 4
                   have la88 : ∀ o, (w8.alloc o).cell? ⟨w.heap.size + 1, 4, none⟩ = some (.int .i64 x4) := fun o => (K28.alloc o).cell 4
                   first | (with_reducible have A8 := ((Blk.new wE 44 #[.int .i64 0, .slice none 0 0, .int .i64 0, .int .i64 0]).drew).next h8) | (with_reducible have A8 := ((Blk.new wE.drew 44 #[.int .i64 0, .slice none 0 0, .int .i64 0, .int .i64 0])).next h8) | (with_reducible have A8 := Blk.fresh h8; try (change Blk w8 wE.heap.size _ _ at A8)) | (with_reducible have A8 := A9.next h8) | skip
                   try (change Blk w8 wE.heap.size _ _ at A8)
                   first | (have y80 : w8.cell? ⟨_, 0, none⟩ = some (.int .i64 0) := A8.cell 0; have y81 : w8.cell? ⟨_, 1, none⟩ = some (.slice none 0 0) := A8.cell 1; have y82 : w8.cell? ⟨_, 2, none⟩ = some (.int .i64 0) := A8.cell 2; have y83 : w8.cell? ⟨_, 3, none⟩ = some (.int .i64 0) := A8.cell 3; have yf8 := A8.frozen; have yz8 := A8.lt) | skip
                   first | (have q98 : Below w9.heap.size w9 w8 := below_next (by repeat' (first | (with_reducible exact Below.refl _ _) | (with_reducible assumption) | (with_reducible refine below_drewN ?_ _) | (with_reducible refine Below.drew ?_) | (with_reducible refine Below.alloc ?_ ?_ _) | (with_reducible refine Below.setCell ?_ ?_ _) | go_size)) h8; have s98 := q98.size) | skip)
                | (go_at_call 23; refine (HI.out g9 n _ (R9.out _ (by repeat' (first | (with_reducible exact Below.refl _ _) | (with_reducible assumption) | (with_reducible refine below_drewN ?_ _) | (with_reducible refine Below.drew ?_) | (with_reducible refine Below.alloc ?_ ?_ _) | (with_reducible refine Below.setCell ?_ ?_ _) | go_size)))).mono ?_; rintro e w7 ⟨g7, c7, rfl, o7, hg7, hl7, hc7, h7⟩
                   have q7 : Below wE.heap.size wE w7 := below_next (by repeat' (first | (with_reducible exact Below.refl _ _) | (with_reducible assumption) | (with_reducible refine below_drewN ?_ _) | (with_reducible refine Below.drew ?_) | (with_reducible refine Below.alloc ?_ ?_ _) | (with_reducible refine Below.setCell ?_ ?_ _) | go_size)) h7
                   have s7 := q7.size
                   have K17 := K1.next q7
                   have K27 := K2.next q7
                   have l70 : w7.cell? ⟨w.heap.size, 0, none⟩ = some (.int .i64 m) := K17.cell 0
                   have la70 : ∀ o, (w7.alloc o).cell? ⟨w.heap.size, 0, none⟩ = some (.int .i64 m) := fun o => (K17.alloc o).cell 0
                   have l71 : w7.cell? ⟨w.heap.size, 1, none⟩ = some (.slice A n c) := K17.cell 1
                   have la71 : ∀ o, (w7.alloc o).cell? ⟨w.heap.size, 1, none⟩ = some (.slice A n c) := fun o => (K17.alloc o).cell 1
                   have l72 : w7.cell? ⟨w.heap.size, 2, none⟩ = some (.int .i64 h) := K17.cell 2
                   have la72 : ∀ o, (w7.alloc o).cell? ⟨w.heap.size, 2, none⟩ = some (.int .i64 h) := fun o => (K17.alloc o).cell 2
                   have l73 : w7.cell? ⟨w.heap.size, 3, none⟩ = some (.int .i64 k) := K17.cell 3
                   have la73 : ∀ o, (w7.alloc o).cell? ⟨w.heap.size, 3, none⟩ = some (.int .i64 k) := fun o => (K17.alloc o).cell 3
                   have l74 : w7.cell? ⟨w.heap.size + 1, 0, none⟩ = some (.string t) := K27.cell 0
                   have la74 : ∀ o, (w7.alloc o).cell? ⟨w.heap.size + 1, 0, none⟩ = some (.string t) := fun o => (K27.alloc o).cell 0
                   have l75 : w7.cell? ⟨w.heap.size + 1, 1, none⟩ = some (.int .i64 a) := K27.cell 1
                   have la75 : ∀ o, (w7.alloc o).cell? ⟨w.heap.size + 1, 1, none⟩ = some (.int .i64 a) := fun o => (K27.alloc o).cell 1
                   have l76 : w7.cell? ⟨w.heap.size + 1, 2, none⟩ = some (.int .i64 b) := K27.cell 2
                   have la76 : ∀ o, (w7.alloc o).cell? ⟨w.heap.size + 1, 2, none⟩ = some (.int .i64 b) := fun o => (K27.alloc o).cell 2
                   have l77 : w7.cell? ⟨w.heap.size + 1, 3, none⟩ = some (.string x3) := K27.cell 3
                   have la77 : ∀ o, (w7.alloc o).cell? ⟨w.heap.size + 1, 3, none⟩ = some (.string x3) := fun o => (K27.alloc o).cell 3
                   have l78 : w7.cell? ⟨w.heap.size + 1, 4, none⟩ = some (.int .i64 x4) := K27.cell 4
                   have la78 : ∀ o, (w7.alloc o).cell? ⟨w.heap.size + 1, 4, none⟩ = some (.int .i64 x4) := fun o => (K27.alloc o).cell 4
                   first | (with_reducible have A7 := ((Blk.new wE 44 #[.int .i64 0, .slice none 0 0, .int .i64 0, .int .i64 0]).drew).next h7) | (with_reducible have A7 := ((Blk.new wE.drew 44 #[.int .i64 0, .slice none 0 0, .int .i64 0, .int .i64 0])).next h7) | (with_reducible have A7 := Blk.fresh h7; try (change Blk w7 wE.heap.size _ _ at A7)) | (with_reducible have A7 := A8.next h7) | (with_reducible have A7 := A9.next h7) | skip
                   try (change Blk w7 wE.heap.size _ _ at A7)
                   first | (have y70 : w7.cell? ⟨_, 0, none⟩ = some (.int .i64 0) := A7.cell 0; have y71 : w7.cell? ⟨_, 1, none⟩ = some (.slice none 0 0) := A7.cell 1; have y72 : w7.cell? ⟨_, 2, none⟩ = some (.int .i64 0) := A7.cell 2; have y73 : w7.cell? ⟨_, 3, none⟩ = some (.int .i64 0) := A7.cell 3; have yf7 := A7.frozen; have yz7 := A7.lt) | skip))
            all_goals
              have hg7' : wE.heap.size ≤ g7 := by (try simp at hg7); omega
              go_wp2_with fail
              go_meet
              first
                | (with_reducible refine ⟨w7.heap.size, g7, c7, rfl, Blk.new w7 _ _, o7.alloc _, hl7, hc7, ?_, hg7', ?_⟩
                   · omega
                   · exact (by repeat' (first | (with_reducible exact Below.refl _ _) | (with_reducible assumption) | (with_reducible refine below_drewN ?_ _) | (with_reducible refine Below.drew ?_) | (with_reducible refine Below.alloc ?_ ?_ _) | (with_reducible refine Below.setCell ?_ ?_ _) | go_size)))
                | (have hne := own_ne o7 A7 (by decide)
                   have hAz := A7.lt
                   exact ⟨_, g7, c7, rfl, blk_put (blk_put (blk_put (blk_put A7 rfl) rfl) rfl) rfl, (((o7.far hne _).far hne _).far hne _).far hne _, hl7, hc7, by omega, hg7', (by repeat' (first | (with_reducible exact Below.refl _ _) | (with_reducible assumption) | (with_reducible refine below_drewN ?_ _) | (with_reducible refine Below.drew ?_) | (with_reducible refine Below.alloc ?_ ?_ _) | (with_reducible refine Below.setCell ?_ ?_ _) | go_size))⟩)
          case rest =>
          obtain ⟨g12, g13, c13, rfl, K12, o13, hl13, hc13, hg12, hg13, hq⟩ := hcut
          clear ce0 ce1 ce2 ce3 ce4 ce5 ce6 ce7 ce8 z0 z1
          clear cK1 fK1 zK1 cK2 fK2 zK2 cK6 fK6 zK6 cK10 fK10 zK10
          replace K6 := K6.next hq
          replace K10 := K10.next hq
          replace o7 := o7.next hq
          replace r11 := r11.next hq
          replace hb := below_next hb hq
          rw [HnR.out] at K12 hl13
          clear hq K1 K2
          have cK6 := K6.cell
          have fK6 := K6.frozen
          have zK6 := K6.lt
          have cK10 := K10.cell
          have fK10 := K10.frozen
          have zK10 := K10.lt
          have cK12 := K12.cell
          have fK12 := K12.frozen
          have zK12 := K12.lt
          go_wp2_with fail
          refine (eqCache_same _ _ _ _ _ _ _ _ R _ (by omega) HnR (rdE o13 HnR.out) (rdE o7 HnR.out)).mono ?_
          rintro e w2 ⟨rfl, h2⟩
          clear cK6 fK6 zK6
          replace K6 := by first | exact K6.next h2 | exact K6.next1 h2 | exact K6.next2 h2
          clear cK10 fK10 zK10
          replace K10 := by first | exact K10.next h2 | exact K10.next1 h2 | exact K10.next2 h2
          clear cK12 fK12 zK12
          replace K12 := by first | exact K12.next h2 | exact K12.next1 h2 | exact K12.next2 h2
          replace r11 := by first | exact r11.next h2 | exact r11.next1 h2 | exact r11.next2 h2
          replace hb := by first | exact below_next hb h2 | exact below_next1 hb h2 | exact below_next2 hb h2
          clear h2
          have cK6 := K6.cell
          have fK6 := K6.frozen
          have zK6 := K6.lt
          have cK10 := K10.cell
          have fK10 := K10.frozen
          have zK10 := K10.lt
          have cK12 := K12.cell
          have fK12 := K12.frozen
          have zK12 := K12.lt
          go_wp2_with fail
          refine (heldCache_any _ _ _ _ _ _ _ _ r11 (by omega) (by omega)).mono ?_
          rintro e w2 ⟨rfl, h2⟩
          clear cK6 fK6 zK6
          replace K6 := by first | exact K6.next h2 | exact K6.next1 h2 | exact K6.next2 h2
          clear cK10 fK10 zK10
          replace K10 := by first | exact K10.next h2 | exact K10.next1 h2 | exact K10.next2 h2
          clear cK12 fK12 zK12
          replace K12 := by first | exact K12.next h2 | exact K12.next1 h2 | exact K12.next2 h2
          replace hb := by first | exact below_next hb h2 | exact below_next1 hb h2 | exact below_next2 hb h2
          clear h2
          have cK6 := K6.cell
          have fK6 := K6.frozen
          have zK6 := K6.lt
          have cK10 := K10.cell
          have fK10 := K10.frozen
          have zK10 := K10.lt
          have cK12 := K12.cell
          have fK12 := K12.frozen
          have zK12 := K12.lt
          go_wp2
          go_ret
          exact ⟨rfl, hb⟩
    · have HE := Lib.hid (show (1048576 - (szEntryL l : Nat) : Int) < (szEntry (t, a, b, x3, x4) : Nat) by omega)
      clear hsz hl hs hn hse
      go_enter Try.func5, Try.ntmps5
      go_wp2_with fail
      refine (szCache_fit _ _ _ _ _ _ _ _ HL ((hr.alloc _).alloc _) HZ).mono ?_
      rintro e w2 ⟨rfl, h2⟩
      have K1 := Blk.fresh2 h2
      have K2 := Blk.fresh h2
      replace hb := by first | exact below_next hb h2 | exact below_next1 hb h2 | exact below_next2 hb h2
      clear h2
      have cK1 := K1.cell
      have fK1 := K1.frozen
      have zK1 := K1.lt
      have cK2 := K2.cell
      have fK2 := K2.frozen
      have zK2 := K2.lt
      simp only [World.size_alloc] at K2 cK2 fK2 zK2
      clear hr
      go_wp2_with fail
      refine (szEntry_big _ _ _ _ _ _ _ g0 (by omega) ht hx HE.out).mono ?_
      rintro e w2 ⟨rfl, h2⟩
      clear cK1 fK1 zK1
      replace K1 := by first | exact K1.next h2 | exact K1.next1 h2 | exact K1.next2 h2
      clear cK2 fK2 zK2
      replace K2 := by first | exact K2.next h2 | exact K2.next1 h2 | exact K2.next2 h2
      replace hb := by first | exact below_next hb h2 | exact below_next1 hb h2 | exact below_next2 hb h2
      clear h2
      have cK1 := K1.cell
      have fK1 := K1.frozen
      have zK1 := K1.lt
      have cK2 := K2.cell
      have fK2 := K2.frozen
      have zK2 := K2.lt
      clear ht hx
      go_wp2
      go_ret
      exact ⟨rfl, (by repeat' (first | (with_reducible exact Below.refl _ _) | (with_reducible assumption) | (with_reducible refine below_drewN ?_ _) | (with_reducible refine Below.drew ?_) | (with_reducible refine Below.alloc ?_ ?_ _) | (with_reducible refine Below.setCell ?_ ?_ _) | go_size))⟩
  · have HZ := Lib.hid (show 1048576 < szEntryL l by omega)
    clear hsz hl hs hn ht hx
    go_enter Try.func5, Try.ntmps5
    go_wp2_with fail
    refine (szCache_over _ _ _ _ _ _ _ _ HN HL ((hr.alloc _).alloc _) HS HZ).mono ?_
    rintro e w2 ⟨rfl, h2⟩
    have K1 := Blk.fresh2 h2
    have K2 := Blk.fresh h2
    replace hb := by first | exact below_next hb h2 | exact below_next1 hb h2 | exact below_next2 hb h2
    clear h2
    have cK1 := K1.cell
    have fK1 := K1.frozen
    have zK1 := K1.lt
    have cK2 := K2.cell
    have fK2 := K2.frozen
    have zK2 := K2.lt
    go_wp2
    go_ret
    exact ⟨rfl, (by repeat' (first | (with_reducible exact Below.refl _ _) | (with_reducible assumption) | (with_reducible refine below_drewN ?_ _) | (with_reducible refine Below.drew ?_) | (with_reducible refine Below.alloc ?_ ?_ _) | (with_reducible refine Below.setCell ?_ ?_ _) | go_size))⟩
end Go.Proofs.Ytfapdhfjcnehhaa

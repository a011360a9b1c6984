
/-
  LawLine put together (merge.py): PlaceG, PlaceH, PlaceI, PlaceJ, PlaceK, PlaceL, LawLine.
-/
import Derived.Test.YtpfanhheodiamaaGreatDoorPlaceS
import Derived.Test.YtpfanhheodiamaaGreatDoorInts
import Derived.Test.YtpfanhheodiamaaGreatDoorLawFirst
namespace Go.Proofs.YtpfanhheodiamaaGreatDoor
open Go.RowKit
set_option linter.unusedVariables false
set_option linter.unusedSimpArgs false

theorem markF_le (l : List UInt8) : ∀ ms : List (List UInt8), (markF ms l).length ≤ l.length := by
  intro ms
  induction ms with
  | nil => simp [markF]
  | cons m ms ih =>
    by_cases hm : m.isPrefixOf l = true
    · rw [markF_yes hm]; exact (List.isPrefixOf_iff_prefix.1 hm).length_le
    · rw [markF_no hm]; exact ih
theorem signZ_le (l : List UInt8) (q : Nat) : (signZ l q).2.2.2 ≤ l.length := by
  unfold signZ
  split
  · exact noteN_le l
  · split
    · exact Nat.zero_le _
    · split
      · split
        · exact Nat.zero_le _
        · exact runN_le _ _
      · split
        · split
          · exact Nat.zero_le _
          · exact runN_le _ _
        · split
          · exact quoN_le _
          · exact markF_le _ _
/-- Signs, with where it went wrong and whether it is right. -/
def SignsM (w : World) (R : List SgP × Int × Bool) (e : Ending) (w' : World) : Prop :=
  ∃ (A : Option Addr) (c : Nat), e = .returned (.tuple #[.slice A R.1.length c, .int .i64 R.2.1, .bool R.2.2]) ∧ Mine w' w.heap.size 73 4 A R.1.length c (R.1.flatMap sgCells) ∧ Below w.heap.size w w'
theorem sg_new (w : World) (a : Int) (b : ByteArray) (c : Int) (d : Bool) (t : TypeId) : ∀ j v, [Value.int .i64 a, .string b, .int .i64 c, .bool d][j]? = some v → (w.alloc (.cells #[.int .i64 a, .string b, .int .i64 c, .bool d] t)).cell? ((⟨w.heap.size, 0, none⟩ : Addr).add j) = some v := by
  intro j v hj
  have hb := Blk.new w t #[.int .i64 a, .string b, .int .i64 c, .bool d]
  match j, hj with
  | 0, hj => obtain rfl := Option.some.inj hj; exact hb.cell 0
  | 1, hj => obtain rfl := Option.some.inj hj; exact hb.cell 1
  | 2, hj => obtain rfl := Option.some.inj hj; exact hb.cell 2
  | 3, hj => obtain rfl := Option.some.inj hj; exact hb.cell 3
  | j + 4, hj => simp at hj
theorem sg_one (a : Int) (b : ByteArray) (c : Int) (d : Bool) : ∀ u ∈ [Value.int .i64 a, .string b, .int .i64 c, .bool d], u.oneCell' = true := by
  intro u hu
  simp at hu
  rcases hu with rfl | rfl | rfl | rfl <;> rfl
theorem snoc_sg (acc : List SgP) (a : Int) (b : ByteArray) (c : Int) (d : Bool) : (acc ++ [(a, b, c, d)]).flatMap sgCells = acc.flatMap sgCells ++ [Value.int .i64 a, .string b, .int .i64 c, .bool d] := by
  simp [sgCells]
theorem blk_sg {w : World} {B : Nat} {e : TypeId} {s : Nat} {v : Value} {n : Nat} {xs : List Value} (h : w.ownsRow B e s v n xs) {g : Nat} (hg : v.ownBlock = some g) : B ≤ g := by
  rcases h.2 with ⟨rfl, _⟩ | ⟨g', cap, cur, rfl, hg', _⟩
  · simp [Value.ownBlock] at hg
  · simp [Value.ownBlock] at hg; omega
theorem infoSgn : (Tryz.prog.info? 73).map (fun i => (i.zero, i.size, i.bytes)) = some (some (.agg #[.int .i64 0, .string ⟨#[]⟩, .int .i64 0, .bool false]), 4, 40) := by kernel_rfl
theorem blank_32 {c : UInt8} (h : c = 32) : ((c.toNat : Int) == 32) = true := by rw [h]; rfl
theorem blank_no {c : UInt8} (h : ¬ c = 32) : ((c.toNat : Int) == 32) = false := by
  rw [beq_eq_false_iff_ne]; intro e; apply h; apply UInt8.toNat_inj.1; show c.toNat = 32; omega
theorem line_10 {c : UInt8} (h : c = 10) : ((c.toNat : Int) == 10) = true := by rw [h]; rfl
set_option maxRecDepth 100000 in
set_option maxHeartbeats 3200000 in
theorem specSignsOf_any (s : ByteArray) (w : World) (hs : s.size ≤ 1048576) : Calls Tryz.prog 56 #[.string s] w (SignsM w (signsP s)) := by
  by_cases h3 : 3000 < s.size
  · rw [signsP_big h3]
    have M0 := own_empty w 73 4
    go_enter Tryz.func56, Tryz.ntmps56
    go_wp2
    refine bodyPost_ret (by simp [results, Tryz.results56, go_sem,]; try rfl) rfl ?_
    exact ⟨_, _, rfl, M0, (by repeat' (first | (with_reducible exact Below.refl _ _) | (with_reducible assumption) | (with_reducible refine below_drewN ?_ _) | (with_reducible refine Below.drew ?_) | (with_reducible refine Below.alloc ?_ ?_ _) | (with_reducible refine Below.setCell ?_ ?_ _) | go_size))⟩
  · have HA0 : Hid (SignsAt s 0 0 [] (signsP s)) := signsAt_init (by omega)
    have h4 : s.size ≤ 3000 := by omega
    generalize signsP s = R at HA0 ⊢
    obtain ⟨i0, hi, hz0, hz1, hz2⟩ := info_parts infoSgn
    have HI := Lib.hid (And.intro hi (And.intro hz0 (And.intro hz1 hz2)))
    clear hi hz0 hz1 hz2
    have M0 : Hid (Mine (w.alloc (.cells #[] 73)) w.heap.size 73 4 (some ⟨w.heap.size, 0, none⟩) ([] : List SgP).length 0 (([] : List SgP).flatMap sgCells)) := own_empty w 73 4
    have hb0 : Below w.heap.size w (w.alloc (.cells #[] 73)) := (by repeat' (first | (with_reducible exact Below.refl _ _) | (with_reducible assumption) | (with_reducible refine below_drewN ?_ _) | (with_reducible refine Below.drew ?_) | (with_reducible refine Below.alloc ?_ ?_ _) | (with_reducible refine Below.setCell ?_ ?_ _) | go_size))
    go_enter Tryz.func56, Tryz.ntmps56
    go_wp2
    generalize w.alloc (.cells #[] 73) = w1 at M0 hb0 ⊢
    go_loopw [5, 6, 7] (fun o i b wr => ∃ (k br : Nat) (acc : List SgP) (A : Option Addr) (c : Nat), k ≤ s.size ∧ br ≤ k ∧ acc.length ≤ k ∧ o = .slice A acc.length c ∧ i = .int .i64 k ∧ b = .int .i64 br ∧ Hid (SignsAt s k br acc R) ∧ Hid (Mine wr w.heap.size 73 4 A acc.length c (acc.flatMap sgCells)) ∧ Below w.heap.size w wr) (fun _ i _ _ => s.size - (intOf i).toNat)
    case atStart => exact ⟨0, 0, [], _, _, by omega, by omega, by simp, rfl, rfl, rfl, HA0, M0, hb0⟩
    case round =>
      clear HA0 M0 hb0
      obtain ⟨k, br, acc, A, c, hk, hbr, hac, rfl, rfl, rfl, HA, HM, hb⟩ := hrel
      obtain ⟨m, hm⟩ : ∃ m, acc.length = m := ⟨_, rfl⟩
      rw [hm] at HM hac
      rw [hm]
      have Hm := Lib.hid hm
      clear hm
      by_cases hlt : k < s.size
      · by_cases h32 : s[k] = 32
        · have hn : Hid (SignsAt s (k + 1) br acc R) := signsAt_blank HA hlt h32
          have e32 := blank_32 h32
          clear h32
          go_wp2
          go_roundw
          case rel => exact ⟨k + 1, br, acc, A, c, by omega, by omega, by have := Hm.out; omega, by rw [Hm.out], by go_num, rfl, hn, by rw [Hm.out]; exact HM, hb⟩
          case measure => simp [intOf]; omega
        · have e32 := blank_no h32
          by_cases h10 : s[k] = 10
          · have hn : Hid (SignsAt s (k + 1) (br + 1) acc R) := signsAt_line HA hlt h10
            have e10 := line_10 h10
            clear h10 h32
            go_wp2
            go_roundw
            case rel => exact ⟨k + 1, br + 1, acc, A, c, by omega, by omega, by have := Hm.out; omega, by rw [Hm.out], by go_num, by go_num, hn, by rw [Hm.out]; exact HM, hb⟩
            case measure => simp [intOf]; omega
          · have e10 := ne_10 h10
            have HB := Lib.hid (fun hz => signsAt_bad HA hlt h32 h10 hz)
            have HG : Hid (∀ (kd : Int) (x : ByteArray) (q : Int) (z : Nat), signZ (s.data.toList.drop k) k = (kd, x, q, z) → 0 < z → SignsAt s (k + z) 0 (acc ++ [(kd, x, q, decide (1 < br))]) R) := (show ∀ (kd : Int) (x : ByteArray) (q : Int) (z : Nat), _ → _ → _ from fun kd x q z h h0 => signsAt_sign HA hlt h32 h10 h h0)
            have HS := Lib.hid (fun W => specSign_any s k W hlt hs)
            have hzl := signZ_le (s.data.toList.drop k) k
            rw [drop_len] at hzl
            revert HB HG HS hzl
            generalize signZ (s.data.toList.drop k) k = Z
            obtain ⟨kd, x, q, z⟩ := Z
            intro HB HG HS hzl
            simp only at hzl
            by_cases hz0 : z = 0
            · subst hz0
              obtain rfl := HB.out rfl
              clear HB HG HM HA Hm h32 h10
              go_wp2_with fail
              refine (HS.out _).mono ?_
              rintro e w2 ⟨rfl, h2⟩
              have hb2 := below_next hb h2
              have hsz2 := hb2.size
              clear HS h2 hb
              have M0 := own_empty (w2.alloc (.cells #[.int .i64 kd, .string x, .int .i64 q, .bool false] 73)) 73 4
              simp only [World.size_alloc] at M0
              go_wp2
              refine bodyPost_ret (by simp [results, Tryz.results56, go_sem,]; try rfl) rfl ?_
              exact ⟨_, _, rfl, Mine.more (B' := w.heap.size) M0 (by omega), (by repeat' (first | (with_reducible exact Below.refl _ _) | (with_reducible assumption) | (with_reducible refine below_drewN ?_ _) | (with_reducible refine Below.drew ?_) | (with_reducible refine Below.alloc ?_ ?_ _) | (with_reducible refine Below.setCell ?_ ?_ _) | go_size))⟩
            · have hn : Hid (SignsAt s (k + z) 0 (acc ++ [(kd, x, q, decide (1 < br))]) R) := HG.out kd x q z rfl (by omega)
              clear HB HG HA h32 h10
              go_wp2_with fail
              refine (HS.out _).mono ?_
              rintro e w2 ⟨rfl, h2⟩
              have hb2 := below_next hb h2
              have hsz2 := hb2.size
              have HM2 := Lib.hid (HM.out.next h2)
              have hz1 : ¬ (z : Int) = 0 := by omega
              clear HS h2 hb HM
              have hu2 : decide (1 < br) = decide ((1 : Int) < br) := by
                by_cases h : 1 < br
                · rw [decide_eq_true h, decide_eq_true (by omega)]
                · rw [decide_eq_false h, decide_eq_false (by omega)]
              rw [hu2] at hn
              have hcn := sg_new (w2.alloc (.cells #[.int .i64 kd, .string x, .int .i64 q, .bool (decide ((1 : Int) < br))] 73)) kd x q (decide ((1 : Int) < br)) 73
              rw [World.size_alloc] at hcn
              have HC := Lib.hid hcn
              clear hcn hu2
              have hz3 : 0 < z := by omega
              go_wp2_with (at_builtin; (refine wpList_append_own _ rfl (.tmp 46) (.tmp 48) _ rfl w.heap.size 73 i0 (.agg #[.int .i64 0, .string ⟨#[]⟩, .int .i64 0, .bool false]) 4 40 Tryz.underlying44 HI.out.1 HI.out.2.1 HI.out.2.2.1 HI.out.2.2.2 rfl (by decide) _ _ _ rfl (Mine.alloc (Mine.alloc HM2.out _) _) ⟨w2.heap.size + 1, 0, none⟩ 1 1 [.int .i64 kd, .string x, .int .i64 q, .bool (decide ((1 : Int) < br))] rfl rfl HC.out (sg_one _ _ _ _) (by unfold maxLen; omega) (by omega) (by have := hb2.size; simp only [World.size_alloc]; omega) ?_); intro v' w3 hown3 hg3 hnil3)
              have hb4 : Below w.heap.size w w3 := Below.grown (show Below w.heap.size w ((w2.alloc (.cells #[.int .i64 kd, .string x, .int .i64 q, .bool (decide ((1 : Int) < br))] 73)).alloc (.cells #[.int .i64 kd, .string x, .int .i64 q, .bool (decide ((1 : Int) < br))] 73)) from (by repeat' (first | (with_reducible exact Below.refl _ _) | (with_reducible assumption) | (with_reducible refine below_drewN ?_ _) | (with_reducible refine Below.drew ?_) | (with_reducible refine Below.alloc ?_ ?_ _) | (with_reducible refine Below.setCell ?_ ?_ _) | go_size))) hg3 (by have := hb2.size; simp only [World.size_alloc]; omega) (fun g hg => blk_sg HM2.out hg)
              obtain ⟨A3, c3, rfl, m3⟩ := Mine.of hown3
              rw [← snoc_sg] at m3
              have HM3 := Lib.hid m3
              clear hown3 m3 hg3 hnil3 HC HM2 hb2
              go_wp2
              go_roundw
              case rel => exact ⟨k + z, 0, acc ++ [(kd, x, q, decide ((1 : Int) < br))], A3, c3, by omega, by omega, by rw [List.length_append, Hm.out]; simp; omega, by rw [List.length_append, Hm.out]; rfl, by go_num, rfl, hn, by rw [List.length_append, Hm.out]; exact HM3, hb4⟩
              case measure => simp [intOf]; omega
      · obtain rfl := signsAt_end HA (by omega)
        go_wp2
        refine bodyPost_ret (by simp [results, Tryz.results56, go_sem,]; try rfl) rfl ?_
        exact ⟨A, c, by rw [Hm.out], by rw [Hm.out]; exact HM.out, hb⟩
set_option maxRecDepth 100000 in
set_option maxHeartbeats 3200000 in
theorem implSignsOf_any (s : ByteArray) (w : World) (hs : s.size ≤ 1048576) : Calls Tryz.prog 58 #[.string s] w (SignsM w (signsP s)) := by
  by_cases h3 : 3000 < s.size
  · rw [signsP_big h3]
    go_enter Tryz.func58, Tryz.ntmps58
    go_wp2
    refine bodyPost_ret (by simp [results, Tryz.results58, go_sem,]; try rfl) rfl ?_
    exact ⟨_, _, rfl, Mine.mk_nil _ _ _ _, (by repeat' (first | (with_reducible exact Below.refl _ _) | (with_reducible assumption) | (with_reducible refine below_drewN ?_ _) | (with_reducible refine Below.drew ?_) | (with_reducible refine Below.alloc ?_ ?_ _) | (with_reducible refine Below.setCell ?_ ?_ _) | go_size))⟩
  · have HA0 : Hid (SignsAt s 0 0 [] (signsP s)) := signsAt_init (by omega)
    have h4 : s.size ≤ 3000 := by omega
    generalize signsP s = R at HA0 ⊢
    obtain ⟨i0, hi, hz0, hz1, hz2⟩ := info_parts infoSgn
    have HI := Lib.hid (And.intro hi (And.intro hz0 (And.intro hz1 hz2)))
    clear hi hz0 hz1 hz2
    have M0 : Hid (Mine w w.heap.size 73 4 none ([] : List SgP).length 0 (([] : List SgP).flatMap sgCells)) := Mine.mk_nil _ _ _ _
    have hb0 : Below w.heap.size w w := Below.refl _ _
    go_enter Tryz.func58, Tryz.ntmps58
    go_wp2
    go_loopw [5, 6, 7] (fun o b i wr => ∃ (k br : Nat) (acc : List SgP) (A : Option Addr) (c : Nat), k ≤ s.size ∧ br ≤ k ∧ acc.length ≤ k ∧ o = .slice A acc.length c ∧ i = .int .i64 k ∧ b = .int .i64 br ∧ Hid (SignsAt s k br acc R) ∧ Hid (Mine wr w.heap.size 73 4 A acc.length c (acc.flatMap sgCells)) ∧ Below w.heap.size w wr) (fun _ _ i _ => s.size - (intOf i).toNat)
    case atStart => exact ⟨0, 0, [], _, _, by omega, by omega, by simp, rfl, rfl, rfl, HA0, M0, hb0⟩
    case round =>
      clear HA0 M0 hb0
      obtain ⟨k, br, acc, A, c, hk, hbr, hac, rfl, rfl, rfl, HA, HM, hb⟩ := hrel
      obtain ⟨m, hm⟩ : ∃ m, acc.length = m := ⟨_, rfl⟩
      rw [hm] at HM hac
      rw [hm]
      have Hm := Lib.hid hm
      clear hm
      by_cases hlt : k < s.size
      · by_cases h32 : s[k] = 32
        · have hn : Hid (SignsAt s (k + 1) br acc R) := signsAt_blank HA hlt h32
          have e32 := blank_32 h32
          clear h32
          go_wp2
          go_roundw
          case rel => exact ⟨k + 1, br, acc, A, c, by omega, by omega, by have := Hm.out; omega, by rw [Hm.out], by go_num, rfl, hn, by rw [Hm.out]; exact HM, hb⟩
          case measure => simp [intOf]; omega
        · have e32 := blank_no h32
          by_cases h10 : s[k] = 10
          · have hn : Hid (SignsAt s (k + 1) (br + 1) acc R) := signsAt_line HA hlt h10
            have e10 := line_10 h10
            clear h10 h32
            go_wp2
            go_roundw
            case rel => exact ⟨k + 1, br + 1, acc, A, c, by omega, by omega, by have := Hm.out; omega, by rw [Hm.out], by go_num, by go_num, hn, by rw [Hm.out]; exact HM, hb⟩
            case measure => simp [intOf]; omega
          · have e10 := ne_10 h10
            have HB := Lib.hid (fun hz => signsAt_bad HA hlt h32 h10 hz)
            have HG : Hid (∀ (kd : Int) (x : ByteArray) (q : Int) (z : Nat), signZ (s.data.toList.drop k) k = (kd, x, q, z) → 0 < z → SignsAt s (k + z) 0 (acc ++ [(kd, x, q, decide (1 < br))]) R) := (show ∀ (kd : Int) (x : ByteArray) (q : Int) (z : Nat), _ → _ → _ from fun kd x q z h h0 => signsAt_sign HA hlt h32 h10 h h0)
            have HS := Lib.hid (fun W => implSign_any (s.extract k s.size) W (by simp; omega) (by unfold maxLen; simp; omega))
            rw [extract_rest] at HS
            have gk : (k : Int) ≤ s.size := by omega
            clear HA h32 h10
            go_wp2_with fail
            refine (HS.out _).mono ?_
            rintro e w2 ⟨kd, x, z, ok, rfl, hok, hzl, h2⟩
            rw [drop_len] at hzl
            have hb2 := below_next hb h2
            have hsz2 := hb2.size
            have HM2 := Lib.hid (HM.out.next h2)
            unfold SgOk at hok
            clear HS h2 hb HM
            cases ok with
            | false =>
              rw [if_neg (by decide)] at hok
              obtain rfl := HB.out (hok k)
              clear HB HG hok HM2 Hm
              go_wp2
              refine bodyPost_ret (by simp [results, Tryz.results58, go_sem,]; try rfl) rfl ?_
              exact ⟨_, _, rfl, Mine.mk_nil _ _ _ _, hb2⟩
            | true =>
              rw [if_pos rfl] at hok
              obtain ⟨hz0, hz1, hok⟩ := hok
              have hn : Hid (SignsAt s (k + z) 0 (acc ++ [(kd, x, (k : Int), decide (1 < br))]) R) := HG.out kd x k z (hok k) hz0
              have hu2 : decide (1 < br) = decide ((1 : Int) < br) := by
                by_cases h : 1 < br
                · rw [decide_eq_true h, decide_eq_true (by omega)]
                · rw [decide_eq_false h, decide_eq_false (by omega)]
              rw [hu2] at hn
              have HC := Lib.hid (sg_new w2 kd x k (decide ((1 : Int) < br)) 73)
              clear HB HG hok hz1 hu2
              go_wp2_with (at_builtin; (refine wpList_append_own _ rfl (.tmp 44) (.tmp 51) _ rfl w.heap.size 73 i0 (.agg #[.int .i64 0, .string ⟨#[]⟩, .int .i64 0, .bool false]) 4 40 Tryz.underlying44 HI.out.1 HI.out.2.1 HI.out.2.2.1 HI.out.2.2.2 rfl (by decide) _ _ _ rfl (Mine.alloc HM2.out _) ⟨w2.heap.size, 0, none⟩ 1 1 [.int .i64 kd, .string x, .int .i64 k, .bool (decide ((1 : Int) < br))] rfl rfl HC.out (sg_one _ _ _ _) (by unfold maxLen; omega) (by omega) (by simp only [World.size_alloc]; omega) ?_); intro v' w3 hown3 hg3 hnil3)
              have hb4 : Below w.heap.size w w3 := Below.grown (show Below w.heap.size w (w2.alloc (.cells #[.int .i64 kd, .string x, .int .i64 k, .bool (decide ((1 : Int) < br))] 73)) from (by repeat' (first | (with_reducible exact Below.refl _ _) | (with_reducible assumption) | (with_reducible refine below_drewN ?_ _) | (with_reducible refine Below.drew ?_) | (with_reducible refine Below.alloc ?_ ?_ _) | (with_reducible refine Below.setCell ?_ ?_ _) | go_size))) hg3 (by simp only [World.size_alloc]; omega) (fun g hg => blk_sg HM2.out hg)
              obtain ⟨A3, c3, rfl, m3⟩ := Mine.of hown3
              rw [← snoc_sg] at m3
              have HM3 := Lib.hid m3
              clear hown3 m3 hg3 hnil3 HC HM2 hb2
              go_wp2
              go_roundw
              case rel => exact ⟨k + z, 0, acc ++ [(kd, x, (k : Int), decide ((1 : Int) < br))], A3, c3, by omega, by omega, by rw [List.length_append, Hm.out]; simp; omega, by rw [List.length_append, Hm.out]; rfl, by go_num, rfl, hn, by rw [List.length_append, Hm.out]; exact HM3, hb4⟩
              case measure => simp [intOf]; omega
      · obtain rfl := signsAt_end HA (by omega)
        go_wp2
        refine bodyPost_ret (by simp [results, Tryz.results58, go_sem,]; try rfl) rfl ?_
        exact ⟨A, c, by rw [Hm.out], by rw [Hm.out]; exact HM.out, hb⟩
theorem sg_at {w : World} {A : Option Addr} {n k : Nat} {l : List SgP} {d : SgP} (h : Rd w 4 A n (l.flatMap sgCells)) (hk : k < n) (hd : l[k]? = some d) :
    ∃ b off, A = some ⟨b, off, none⟩ ∧ b < w.heap.size ∧ w.cell? ⟨b, off + k * 4, none⟩ = some (.int .i64 d.1) ∧ w.cell? ⟨b, off + k * 4 + 1, none⟩ = some (.string d.2.1) ∧ w.cell? ⟨b, off + k * 4 + 2, none⟩ = some (.int .i64 d.2.2.1) ∧ w.cell? ⟨b, off + k * 4 + 3, none⟩ = some (.bool d.2.2.2) := by
  obtain ⟨b, off, rfl, hb, hc⟩ := h.at_ (by omega)
  have g := fun (j : Nat) (v : Value) (hj : (sgCells d)[j]? = some v) => hc (k * 4 + j) v (flat_get sgCells sgCells_len hd hj)
  refine ⟨b, off, rfl, hb, ?_, ?_, ?_, ?_⟩
  · exact g 0 _ rfl
  · exact g 1 _ rfl
  · exact g 2 _ rfl
  · exact g 3 _ rfl
theorem spare_kind {a b : SgP} (h : (a.1 == 4) = false) : spareB a b = false := by unfold spareB; rw [h]; rfl
theorem spare_text {a b : SgP} (h : (a.2.1.toList == [44]) = false) : spareB a b = false := by unfold spareB; rw [h, Bool.and_false]; rfl
theorem spare_kind2 {a b : SgP} (h : (b.1 == 4) = false) : spareB a b = false := by unfold spareB; rw [h, Bool.and_false]; rfl
theorem spare_rest {a b : SgP} (h1 : (a.1 == 4) = true) (h2 : (a.2.1.toList == [44]) = true) (h3 : (b.1 == 4) = true) : spareB a b = ((b.2.1.toList == [41]) || (b.2.1.toList == [93])) := by unfold spareB; rw [h1, h2, h3]; rfl
theorem snoc_sg1 (acc : List SgP) (a : SgP) : (acc ++ [a]).flatMap sgCells = acc.flatMap sgCells ++ [Value.int .i64 a.1, .string a.2.1, .int .i64 a.2.2.1, .bool a.2.2.2] := by
  simp [sgCells]
/-- Signs in a slice of the call's own, or nil. -/
def SgsM (w : World) (l : List SgP) (e : Ending) (w' : World) : Prop :=
  ∃ (A : Option Addr) (c : Nat), e = .returned (.slice A l.length c) ∧ Mine w' w.heap.size 73 4 A l.length c (l.flatMap sgCells) ∧ Below w.heap.size w w'
set_option maxRecDepth 100000 in
set_option maxHeartbeats 6400000 in
theorem specLeft_any (A0 : Option Addr) (n c0 : Nat) (l : List SgP) (w : World) (hn : n ≤ 3000) (hl : l.length = n) (hr : Rd w 4 A0 n (l.flatMap sgCells)) : Calls Tryz.prog 57 #[.slice A0 n c0] w (SgsM w (leftP l)) := by
  obtain ⟨i0, hi, hz0, hz1, hz2⟩ := info_parts infoSgn
  have HI := Lib.hid (And.intro hi (And.intro hz0 (And.intro hz1 hz2)))
  clear hi hz0 hz1 hz2
  have hL : leftP l = leftTo l n := by unfold leftP; rw [hl]
  rw [hL]; clear hL
  have HR := Lib.hid hr
  have HL := Lib.hid hl
  clear hr hl
  have M0 : Hid (Mine (w.alloc (.cells #[] 73)) w.heap.size 73 4 (some ⟨w.heap.size, 0, none⟩) (leftTo l 0).length 0 ((leftTo l 0).flatMap sgCells)) := own_empty w 73 4
  have hb0 : Below w.heap.size w (w.alloc (.cells #[] 73)) := (by repeat' (first | (with_reducible exact Below.refl _ _) | (with_reducible assumption) | (with_reducible refine below_drewN ?_ _) | (with_reducible refine Below.drew ?_) | (with_reducible refine Below.alloc ?_ ?_ _) | (with_reducible refine Below.setCell ?_ ?_ _) | go_size))
  go_enter Tryz.func57, Tryz.ntmps57
  go_wp2
  generalize w.alloc (.cells #[] 73) = w1 at M0 hb0 ⊢
  go_loopw [3, 4] (fun o i wr => ∃ (k : Nat) (A : Option Addr) (c : Nat), k ≤ n ∧ i = .int .i64 k ∧ o = .slice A (leftTo l k).length c ∧ Hid (Mine wr w.heap.size 73 4 A (leftTo l k).length c ((leftTo l k).flatMap sgCells)) ∧ Below w.heap.size w wr) (fun _ i _ => n - (intOf i).toNat)
  case atStart => exact ⟨0, _, _, Nat.zero_le _, rfl, rfl, M0, hb0⟩
  case round =>
    clear M0 hb0
    obtain ⟨k, A, c, hk, rfl, rfl, HM, hb⟩ := hrel
    have hlen := leftTo_len l k
    have HRk := Lib.hid (HR.out.below hb)
    have hsz := hb.size
    by_cases hkn : k < n
    · obtain ⟨a, ha⟩ : ∃ a, l[k]? = some a := ⟨_, List.getElem?_eq_getElem (by have := HL.out; omega)⟩
      obtain ⟨b, off, rfl, hblt, c0', c1, c2, c3⟩ := sg_at HRk.out hkn ha
      have HY := Lib.hid (fun (h : spareAt l k = true) => leftTo_yes ha h)
      have HN := Lib.hid (fun (h : spareAt l k = false) => leftTo_no ha h)
      have HT := Lib.hid (fun (b : SgP) (h : l[k + 1]? = some b) => spareAt_two ha h)
      have HLa := Lib.hid (fun (h : l[k + 1]? = none) => spareAt_last (k := k) h)
      obtain ⟨acc, hacc⟩ : ∃ acc, leftTo l k = acc := ⟨_, rfl⟩
      rw [hacc] at HM hlen HY HN
      rw [hacc]
      obtain ⟨m, hm⟩ : ∃ m, acc.length = m := ⟨_, rfl⟩
      rw [hm] at HM hlen
      rw [hm]
      have Hm := Lib.hid hm
      clear hacc hm
      obtain ⟨ka, ta, pa, ba⟩ := a
      simp only at c0' c1 c2 c3
      have HS := Lib.hid (fun (b : SgP) => show ((ka == 4) = false → spareB (ka, ta, pa, ba) b = false) ∧ ((ta.toList == [44]) = false → spareB (ka, ta, pa, ba) b = false) ∧ ((b.1 == 4) = false → spareB (ka, ta, pa, ba) b = false) from ⟨fun h => spare_kind h, fun h => spare_text h, fun h => spare_kind2 h⟩)
      clear ha
      by_cases hk1 : k + 1 < n
      · obtain ⟨b2, hb2⟩ : ∃ b2, l[k + 1]? = some b2 := ⟨_, List.getElem?_eq_getElem (by have := HL.out; omega)⟩
        obtain ⟨b', off', e', hblt', d0, d1, d2, d3⟩ := sg_at HRk.out hk1 hb2
        injection e' with e'
        injection e' with e1 e2
        subst e1; subst e2
        have HT2 := Lib.hid (HT.out b2 hb2)
        have HS2 := Lib.hid (HS.out b2)
        clear hb2 hblt'
        obtain ⟨kb, tb, pb, bb⟩ := b2
        simp only at d0 d1 d2 d3 HS2
        have hk1' : (k : Int) + 1 < n := by omega
        cases h1 : (ka == 4) with
        | false =>
          have hsp := HT2.out.trans (HS2.out.1 h1)
          clear HT2 HS2
          have hst := Lib.hid (HN.out (hsp))
          have HC := Lib.hid (sg_new wr ka ta pa ba 73)
          clear HY HN HT HLa HS HRk
          go_wp2_with (at_builtin; (refine wpList_append_own _ rfl (.tmp 60) (.tmp 65) _ rfl w.heap.size 73 i0 (.agg #[.int .i64 0, .string ⟨#[]⟩, .int .i64 0, .bool false]) 4 40 Tryz.underlying44 HI.out.1 HI.out.2.1 HI.out.2.2.1 HI.out.2.2.2 rfl (by decide) _ _ _ rfl (Mine.alloc HM.out _) ⟨wr.heap.size, 0, none⟩ 1 1 [.int .i64 ka, .string ta, .int .i64 pa, .bool ba] rfl rfl HC.out (sg_one _ _ _ _) (by unfold maxLen; omega) (by omega) (by simp only [World.size_alloc]; omega) ?_); intro v' w3 hown3 hg3 hnil3)
          have hb4 : Below w.heap.size w w3 := Below.grown (show Below w.heap.size w (wr.alloc (.cells #[.int .i64 ka, .string ta, .int .i64 pa, .bool ba] 73)) from (by repeat' (first | (with_reducible exact Below.refl _ _) | (with_reducible assumption) | (with_reducible refine below_drewN ?_ _) | (with_reducible refine Below.drew ?_) | (with_reducible refine Below.alloc ?_ ?_ _) | (with_reducible refine Below.setCell ?_ ?_ _) | go_size))) hg3 (by simp only [World.size_alloc]; omega) (fun g hg => blk_sg HM.out hg)
          obtain ⟨A3, c3', rfl, m3⟩ := Mine.of hown3
          rw [← snoc_sg] at m3
          have HM3 := Lib.hid m3
          clear hown3 m3 hg3 hnil3 HC HM hb
          go_wp2
          go_roundw
          case rel => exact ⟨k + 1, A3, c3', by omega, by go_num, by rw [hst.out, List.length_append, Hm.out]; rfl, (by rw [hst.out, List.length_append, Hm.out]; exact HM3), hb4⟩
          case measure => simp [intOf]; omega
        | true =>
          cases h2 : (ta.toList == [44]) with
          | false =>
            have hsp := HT2.out.trans (HS2.out.2.1 h2)
            clear HT2 HS2
            have hst := Lib.hid (HN.out (hsp))
            have HC := Lib.hid (sg_new wr ka ta pa ba 73)
            clear HY HN HT HLa HS HRk
            go_wp2_with (at_builtin; (refine wpList_append_own _ rfl (.tmp 60) (.tmp 65) _ rfl w.heap.size 73 i0 (.agg #[.int .i64 0, .string ⟨#[]⟩, .int .i64 0, .bool false]) 4 40 Tryz.underlying44 HI.out.1 HI.out.2.1 HI.out.2.2.1 HI.out.2.2.2 rfl (by decide) _ _ _ rfl (Mine.alloc HM.out _) ⟨wr.heap.size, 0, none⟩ 1 1 [.int .i64 ka, .string ta, .int .i64 pa, .bool ba] rfl rfl HC.out (sg_one _ _ _ _) (by unfold maxLen; omega) (by omega) (by simp only [World.size_alloc]; omega) ?_); intro v' w3 hown3 hg3 hnil3)
            have hb4 : Below w.heap.size w w3 := Below.grown (show Below w.heap.size w (wr.alloc (.cells #[.int .i64 ka, .string ta, .int .i64 pa, .bool ba] 73)) from (by repeat' (first | (with_reducible exact Below.refl _ _) | (with_reducible assumption) | (with_reducible refine below_drewN ?_ _) | (with_reducible refine Below.drew ?_) | (with_reducible refine Below.alloc ?_ ?_ _) | (with_reducible refine Below.setCell ?_ ?_ _) | go_size))) hg3 (by simp only [World.size_alloc]; omega) (fun g hg => blk_sg HM.out hg)
            obtain ⟨A3, c3', rfl, m3⟩ := Mine.of hown3
            rw [← snoc_sg] at m3
            have HM3 := Lib.hid m3
            clear hown3 m3 hg3 hnil3 HC HM hb
            go_wp2
            go_roundw
            case rel => exact ⟨k + 1, A3, c3', by omega, by go_num, by rw [hst.out, List.length_append, Hm.out]; rfl, (by rw [hst.out, List.length_append, Hm.out]; exact HM3), hb4⟩
            case measure => simp [intOf]; omega
          | true =>
            cases h3 : (kb == 4) with
            | false =>
              have hsp := HT2.out.trans (HS2.out.2.2 h3)
              clear HT2 HS2
              have hst := Lib.hid (HN.out (hsp))
              have HC := Lib.hid (sg_new wr ka ta pa ba 73)
              clear HY HN HT HLa HS HRk
              go_wp2_with (at_builtin; (refine wpList_append_own _ rfl (.tmp 60) (.tmp 65) _ rfl w.heap.size 73 i0 (.agg #[.int .i64 0, .string ⟨#[]⟩, .int .i64 0, .bool false]) 4 40 Tryz.underlying44 HI.out.1 HI.out.2.1 HI.out.2.2.1 HI.out.2.2.2 rfl (by decide) _ _ _ rfl (Mine.alloc HM.out _) ⟨wr.heap.size, 0, none⟩ 1 1 [.int .i64 ka, .string ta, .int .i64 pa, .bool ba] rfl rfl HC.out (sg_one _ _ _ _) (by unfold maxLen; omega) (by omega) (by simp only [World.size_alloc]; omega) ?_); intro v' w3 hown3 hg3 hnil3)
              have hb4 : Below w.heap.size w w3 := Below.grown (show Below w.heap.size w (wr.alloc (.cells #[.int .i64 ka, .string ta, .int .i64 pa, .bool ba] 73)) from (by repeat' (first | (with_reducible exact Below.refl _ _) | (with_reducible assumption) | (with_reducible refine below_drewN ?_ _) | (with_reducible refine Below.drew ?_) | (with_reducible refine Below.alloc ?_ ?_ _) | (with_reducible refine Below.setCell ?_ ?_ _) | go_size))) hg3 (by simp only [World.size_alloc]; omega) (fun g hg => blk_sg HM.out hg)
              obtain ⟨A3, c3', rfl, m3⟩ := Mine.of hown3
              rw [← snoc_sg] at m3
              have HM3 := Lib.hid m3
              clear hown3 m3 hg3 hnil3 HC HM hb
              go_wp2
              go_roundw
              case rel => exact ⟨k + 1, A3, c3', by omega, by go_num, by rw [hst.out, List.length_append, Hm.out]; rfl, (by rw [hst.out, List.length_append, Hm.out]; exact HM3), hb4⟩
              case measure => simp [intOf]; omega
            | true =>
              have hsp := HT2.out.trans (spare_rest h1 h2 h3)
              clear HT2 HS2
              simp only at hsp
              cases h4 : (tb.toList == [41]) with
              | true =>
                rw [h4, Bool.true_or] at hsp
                have hst := Lib.hid (HY.out (hsp))
                clear HY HN HT HLa HS HRk
                go_wp2
                go_roundw
                case rel => exact ⟨k + 1, A, c, by omega, by go_num, by rw [hst.out, Hm.out], (by rw [hst.out, Hm.out]; exact HM), hb⟩
                case measure => simp [intOf]; omega
              | false =>
                cases h5 : (tb.toList == [93]) with
                | true =>
                  rw [h4, h5] at hsp
                  have hst := Lib.hid (HY.out (hsp))
                  clear HY HN HT HLa HS HRk
                  go_wp2
                  go_roundw
                  case rel => exact ⟨k + 1, A, c, by omega, by go_num, by rw [hst.out, Hm.out], (by rw [hst.out, Hm.out]; exact HM), hb⟩
                  case measure => simp [intOf]; omega
                | false =>
                  rw [h4, h5] at hsp
                  have hst := Lib.hid (HN.out (hsp))
                  have HC := Lib.hid (sg_new wr ka ta pa ba 73)
                  clear HY HN HT HLa HS HRk
                  go_wp2_with (at_builtin; (refine wpList_append_own _ rfl (.tmp 60) (.tmp 65) _ rfl w.heap.size 73 i0 (.agg #[.int .i64 0, .string ⟨#[]⟩, .int .i64 0, .bool false]) 4 40 Tryz.underlying44 HI.out.1 HI.out.2.1 HI.out.2.2.1 HI.out.2.2.2 rfl (by decide) _ _ _ rfl (Mine.alloc HM.out _) ⟨wr.heap.size, 0, none⟩ 1 1 [.int .i64 ka, .string ta, .int .i64 pa, .bool ba] rfl rfl HC.out (sg_one _ _ _ _) (by unfold maxLen; omega) (by omega) (by simp only [World.size_alloc]; omega) ?_); intro v' w3 hown3 hg3 hnil3)
                  have hb4 : Below w.heap.size w w3 := Below.grown (show Below w.heap.size w (wr.alloc (.cells #[.int .i64 ka, .string ta, .int .i64 pa, .bool ba] 73)) from (by repeat' (first | (with_reducible exact Below.refl _ _) | (with_reducible assumption) | (with_reducible refine below_drewN ?_ _) | (with_reducible refine Below.drew ?_) | (with_reducible refine Below.alloc ?_ ?_ _) | (with_reducible refine Below.setCell ?_ ?_ _) | go_size))) hg3 (by simp only [World.size_alloc]; omega) (fun g hg => blk_sg HM.out hg)
                  obtain ⟨A3, c3', rfl, m3⟩ := Mine.of hown3
                  rw [← snoc_sg] at m3
                  have HM3 := Lib.hid m3
                  clear hown3 m3 hg3 hnil3 HC HM hb
                  go_wp2
                  go_roundw
                  case rel => exact ⟨k + 1, A3, c3', by omega, by go_num, by rw [hst.out, List.length_append, Hm.out]; rfl, (by rw [hst.out, List.length_append, Hm.out]; exact HM3), hb4⟩
                  case measure => simp [intOf]; omega
      · have hsp : spareAt l k = false := HLa.out (List.getElem?_eq_none (by have := HL.out; omega))
        have hk1' : ¬ (k : Int) + 1 < n := by omega
        cases h1 : (ka == 4) with
        | false =>
          have hst := Lib.hid (HN.out (hsp))
          have HC := Lib.hid (sg_new wr ka ta pa ba 73)
          clear HY HN HT HLa HS HRk
          go_wp2_with (at_builtin; (refine wpList_append_own _ rfl (.tmp 60) (.tmp 65) _ rfl w.heap.size 73 i0 (.agg #[.int .i64 0, .string ⟨#[]⟩, .int .i64 0, .bool false]) 4 40 Tryz.underlying44 HI.out.1 HI.out.2.1 HI.out.2.2.1 HI.out.2.2.2 rfl (by decide) _ _ _ rfl (Mine.alloc HM.out _) ⟨wr.heap.size, 0, none⟩ 1 1 [.int .i64 ka, .string ta, .int .i64 pa, .bool ba] rfl rfl HC.out (sg_one _ _ _ _) (by unfold maxLen; omega) (by omega) (by simp only [World.size_alloc]; omega) ?_); intro v' w3 hown3 hg3 hnil3)
          have hb4 : Below w.heap.size w w3 := Below.grown (show Below w.heap.size w (wr.alloc (.cells #[.int .i64 ka, .string ta, .int .i64 pa, .bool ba] 73)) from (by repeat' (first | (with_reducible exact Below.refl _ _) | (with_reducible assumption) | (with_reducible refine below_drewN ?_ _) | (with_reducible refine Below.drew ?_) | (with_reducible refine Below.alloc ?_ ?_ _) | (with_reducible refine Below.setCell ?_ ?_ _) | go_size))) hg3 (by simp only [World.size_alloc]; omega) (fun g hg => blk_sg HM.out hg)
          obtain ⟨A3, c3', rfl, m3⟩ := Mine.of hown3
          rw [← snoc_sg] at m3
          have HM3 := Lib.hid m3
          clear hown3 m3 hg3 hnil3 HC HM hb
          go_wp2
          go_roundw
          case rel => exact ⟨k + 1, A3, c3', by omega, by go_num, by rw [hst.out, List.length_append, Hm.out]; rfl, (by rw [hst.out, List.length_append, Hm.out]; exact HM3), hb4⟩
          case measure => simp [intOf]; omega
        | true =>
          cases h2 : (ta.toList == [44]) with
          | false =>
            have hst := Lib.hid (HN.out (hsp))
            have HC := Lib.hid (sg_new wr ka ta pa ba 73)
            clear HY HN HT HLa HS HRk
            go_wp2_with (at_builtin; (refine wpList_append_own _ rfl (.tmp 60) (.tmp 65) _ rfl w.heap.size 73 i0 (.agg #[.int .i64 0, .string ⟨#[]⟩, .int .i64 0, .bool false]) 4 40 Tryz.underlying44 HI.out.1 HI.out.2.1 HI.out.2.2.1 HI.out.2.2.2 rfl (by decide) _ _ _ rfl (Mine.alloc HM.out _) ⟨wr.heap.size, 0, none⟩ 1 1 [.int .i64 ka, .string ta, .int .i64 pa, .bool ba] rfl rfl HC.out (sg_one _ _ _ _) (by unfold maxLen; omega) (by omega) (by simp only [World.size_alloc]; omega) ?_); intro v' w3 hown3 hg3 hnil3)
            have hb4 : Below w.heap.size w w3 := Below.grown (show Below w.heap.size w (wr.alloc (.cells #[.int .i64 ka, .string ta, .int .i64 pa, .bool ba] 73)) from (by repeat' (first | (with_reducible exact Below.refl _ _) | (with_reducible assumption) | (with_reducible refine below_drewN ?_ _) | (with_reducible refine Below.drew ?_) | (with_reducible refine Below.alloc ?_ ?_ _) | (with_reducible refine Below.setCell ?_ ?_ _) | go_size))) hg3 (by simp only [World.size_alloc]; omega) (fun g hg => blk_sg HM.out hg)
            obtain ⟨A3, c3', rfl, m3⟩ := Mine.of hown3
            rw [← snoc_sg] at m3
            have HM3 := Lib.hid m3
            clear hown3 m3 hg3 hnil3 HC HM hb
            go_wp2
            go_roundw
            case rel => exact ⟨k + 1, A3, c3', by omega, by go_num, by rw [hst.out, List.length_append, Hm.out]; rfl, (by rw [hst.out, List.length_append, Hm.out]; exact HM3), hb4⟩
            case measure => simp [intOf]; omega
          | true =>
            have hst := Lib.hid (HN.out (hsp))
            have HC := Lib.hid (sg_new wr ka ta pa ba 73)
            clear HY HN HT HLa HS HRk
            go_wp2_with (at_builtin; (refine wpList_append_own _ rfl (.tmp 60) (.tmp 65) _ rfl w.heap.size 73 i0 (.agg #[.int .i64 0, .string ⟨#[]⟩, .int .i64 0, .bool false]) 4 40 Tryz.underlying44 HI.out.1 HI.out.2.1 HI.out.2.2.1 HI.out.2.2.2 rfl (by decide) _ _ _ rfl (Mine.alloc HM.out _) ⟨wr.heap.size, 0, none⟩ 1 1 [.int .i64 ka, .string ta, .int .i64 pa, .bool ba] rfl rfl HC.out (sg_one _ _ _ _) (by unfold maxLen; omega) (by omega) (by simp only [World.size_alloc]; omega) ?_); intro v' w3 hown3 hg3 hnil3)
            have hb4 : Below w.heap.size w w3 := Below.grown (show Below w.heap.size w (wr.alloc (.cells #[.int .i64 ka, .string ta, .int .i64 pa, .bool ba] 73)) from (by repeat' (first | (with_reducible exact Below.refl _ _) | (with_reducible assumption) | (with_reducible refine below_drewN ?_ _) | (with_reducible refine Below.drew ?_) | (with_reducible refine Below.alloc ?_ ?_ _) | (with_reducible refine Below.setCell ?_ ?_ _) | go_size))) hg3 (by simp only [World.size_alloc]; omega) (fun g hg => blk_sg HM.out hg)
            obtain ⟨A3, c3', rfl, m3⟩ := Mine.of hown3
            rw [← snoc_sg] at m3
            have HM3 := Lib.hid m3
            clear hown3 m3 hg3 hnil3 HC HM hb
            go_wp2
            go_roundw
            case rel => exact ⟨k + 1, A3, c3', by omega, by go_num, by rw [hst.out, List.length_append, Hm.out]; rfl, (by rw [hst.out, List.length_append, Hm.out]; exact HM3), hb4⟩
            case measure => simp [intOf]; omega
    · obtain rfl : k = n := by omega
      go_wp2
      go_ret
      exact ⟨A, c, rfl, HM.out, hb⟩
set_option maxRecDepth 100000 in
set_option maxHeartbeats 3200000 in
theorem isSpare_any (A0 : Option Addr) (n c0 k : Nat) (l : List SgP) (w : World) (hn : n ≤ 3000) (hk : k < n) (hl : l.length = n) (hr : Rd w 4 A0 n (l.flatMap sgCells)) :
    Calls Tryz.prog 81 #[.slice A0 n c0, .int .i64 k] w fun e w' => e = .returned (.bool (spareAt l k)) ∧ Below w.heap.size w w' := by
  obtain ⟨a, ha⟩ : ∃ a, l[k]? = some a := ⟨_, List.getElem?_eq_getElem (by omega)⟩
  obtain ⟨b, off, rfl, hblt, c0', c1, c2, c3⟩ := sg_at hr hk ha
  have hT := fun (b : SgP) (h : l[k + 1]? = some b) => spareAt_two ha h
  have hLa := fun (h : l[k + 1]? = none) => spareAt_last (k := k) h
  obtain ⟨ka, ta, pa, ba⟩ := a
  simp only at c0' c1 c2 c3
  by_cases hk1 : k + 1 < n
  · obtain ⟨b2, hb2⟩ : ∃ b2, l[k + 1]? = some b2 := ⟨_, List.getElem?_eq_getElem (by omega)⟩
    obtain ⟨b', off', e', hblt', d0, d1, d2, d3⟩ := sg_at hr hk1 hb2
    injection e' with e'
    injection e' with e1 e2
    subst e1; subst e2
    have hT2 := hT b2 hb2
    clear hb2 hblt' hT hLa ha hr hl
    obtain ⟨kb, tb, pb, bb⟩ := b2
    simp only at d0 d1 d2 d3 hT2
    have hk1' : (k : Int) + 1 < n := by omega
    have hk1g : ¬ (n : Int) ≤ (k : Int) + 1 := by omega
    cases h1 : (ka == 4) with
    | false =>
      have hsp := hT2.trans (spare_kind h1)
      have h1' : (ka != 4) = true := by rw [bne, h1]; rfl
      rw [hsp]; clear hsp hT2
      go_enter Tryz.func81, Tryz.ntmps81
      go_wp2
      go_ret
      exact ⟨rfl, (by repeat' (first | (with_reducible exact Below.refl _ _) | (with_reducible assumption) | (with_reducible refine below_drewN ?_ _) | (with_reducible refine Below.drew ?_) | (with_reducible refine Below.alloc ?_ ?_ _) | (with_reducible refine Below.setCell ?_ ?_ _) | go_size))⟩
    | true =>
      have h1' : (ka != 4) = false := by rw [bne, h1]; rfl
      cases h2 : (ta.toList == [44]) with
      | false =>
        have hsp := hT2.trans (spare_text h2)
        have h2' : (ta.toList != [44]) = true := by rw [bne, h2]; rfl
        rw [hsp]; clear hsp hT2
        go_enter Tryz.func81, Tryz.ntmps81
        go_wp2
        go_ret
        exact ⟨rfl, (by repeat' (first | (with_reducible exact Below.refl _ _) | (with_reducible assumption) | (with_reducible refine below_drewN ?_ _) | (with_reducible refine Below.drew ?_) | (with_reducible refine Below.alloc ?_ ?_ _) | (with_reducible refine Below.setCell ?_ ?_ _) | go_size))⟩
      | true =>
        have h2' : (ta.toList != [44]) = false := by rw [bne, h2]; rfl
        cases h3 : (kb == 4) with
        | false =>
          have hsp := hT2.trans (spare_kind2 h3)
          rw [hsp]; clear hsp hT2
          go_enter Tryz.func81, Tryz.ntmps81
          go_wp2
          go_ret
          exact ⟨rfl, (by repeat' (first | (with_reducible exact Below.refl _ _) | (with_reducible assumption) | (with_reducible refine below_drewN ?_ _) | (with_reducible refine Below.drew ?_) | (with_reducible refine Below.alloc ?_ ?_ _) | (with_reducible refine Below.setCell ?_ ?_ _) | go_size))⟩
        | true =>
          have hsp := hT2.trans (spare_rest h1 h2 h3)
          simp only at hsp
          cases h4 : (tb.toList == [41]) with
          | true =>
            rw [h4, Bool.true_or] at hsp
            rw [hsp]; clear hsp hT2
            go_enter Tryz.func81, Tryz.ntmps81
            go_wp2
            go_ret
            exact ⟨rfl, (by repeat' (first | (with_reducible exact Below.refl _ _) | (with_reducible assumption) | (with_reducible refine below_drewN ?_ _) | (with_reducible refine Below.drew ?_) | (with_reducible refine Below.alloc ?_ ?_ _) | (with_reducible refine Below.setCell ?_ ?_ _) | go_size))⟩
          | false =>
            rw [h4, Bool.false_or] at hsp
            rw [hsp]; clear hsp hT2
            go_enter Tryz.func81, Tryz.ntmps81
            go_wp2
            go_ret
            exact ⟨rfl, (by repeat' (first | (with_reducible exact Below.refl _ _) | (with_reducible assumption) | (with_reducible refine below_drewN ?_ _) | (with_reducible refine Below.drew ?_) | (with_reducible refine Below.alloc ?_ ?_ _) | (with_reducible refine Below.setCell ?_ ?_ _) | go_size))⟩
  · have hsp : spareAt l k = false := hLa (List.getElem?_eq_none (by omega))
    have hk1g : (n : Int) ≤ (k : Int) + 1 := by omega
    rw [hsp]; clear hsp hT hLa hr ha hl
    go_enter Tryz.func81, Tryz.ntmps81
    go_wp2
    go_ret
    exact ⟨rfl, (by repeat' (first | (with_reducible exact Below.refl _ _) | (with_reducible assumption) | (with_reducible refine below_drewN ?_ _) | (with_reducible refine Below.drew ?_) | (with_reducible refine Below.alloc ?_ ?_ _) | (with_reducible refine Below.setCell ?_ ?_ _) | go_size))⟩
set_option maxRecDepth 100000 in
set_option maxHeartbeats 6400000 in
theorem implLeft_any (A0 : Option Addr) (n c0 : Nat) (l : List SgP) (w : World) (hn : n ≤ 3000) (hl : l.length = n) (hr : Rd w 4 A0 n (l.flatMap sgCells)) : Calls Tryz.prog 59 #[.slice A0 n c0] w (SgsM w (leftP l)) := by
  obtain ⟨i0, hi, hz0, hz1, hz2⟩ := info_parts infoSgn
  have HI := Lib.hid (And.intro hi (And.intro hz0 (And.intro hz1 hz2)))
  clear hi hz0 hz1 hz2
  have hL : leftP l = leftTo l n := by unfold leftP; rw [hl]
  rw [hL]; clear hL
  have HR := Lib.hid hr
  have HL := Lib.hid hl
  clear hr hl
  have M0 : Hid (Mine w w.heap.size 73 4 none (leftTo l 0).length 0 ((leftTo l 0).flatMap sgCells)) := Mine.mk_nil _ _ _ _
  have hb0 : Below w.heap.size w w := (by repeat' (first | (with_reducible exact Below.refl _ _) | (with_reducible assumption) | (with_reducible refine below_drewN ?_ _) | (with_reducible refine Below.drew ?_) | (with_reducible refine Below.alloc ?_ ?_ _) | (with_reducible refine Below.setCell ?_ ?_ _) | go_size))
  go_enter Tryz.func59, Tryz.ntmps59
  go_wp2
  go_loopw [3, 8] (fun o i wr => ∃ (k : Nat) (A : Option Addr) (c : Nat), k ≤ n ∧ i = .int .i64 k ∧ o = .slice A (leftTo l k).length c ∧ Hid (Mine wr w.heap.size 73 4 A (leftTo l k).length c ((leftTo l k).flatMap sgCells)) ∧ Below w.heap.size w wr) (fun _ i _ => n - (intOf i).toNat)
  case atStart => exact ⟨0, _, _, Nat.zero_le _, rfl, rfl, M0, hb0⟩
  case round =>
    clear M0 hb0
    obtain ⟨k, A, c, hk, rfl, rfl, HM, hb⟩ := hrel
    have hlen := leftTo_len l k
    by_cases hkn : k < n
    · obtain ⟨a, ha⟩ : ∃ a, l[k]? = some a := ⟨_, List.getElem?_eq_getElem (by have := HL.out; omega)⟩
      have HRk := Lib.hid (HR.out.below hb)
      obtain ⟨b, off, rfl, hblt, c0', c1, c2, c3⟩ := sg_at HRk.out hkn ha
      have HY := Lib.hid (fun (h : spareAt l k = true) => leftTo_yes ha h)
      have HN := Lib.hid (fun (h : spareAt l k = false) => leftTo_no ha h)
      have HS := Lib.hid (fun (v : Bool) (h : spareAt l k = v) (W : World) (hW : Rd W 4 (some ⟨b, off, none⟩) n (l.flatMap sgCells)) => show Calls Tryz.prog 81 #[.slice (some ⟨b, off, none⟩) n c0, .int .i64 k] W fun e w' => e = .returned (.bool v) ∧ Below W.heap.size W w' by rw [← h]; exact isSpare_any _ n c0 k l W hn hkn HL.out hW)
      obtain ⟨acc, hacc⟩ : ∃ acc, leftTo l k = acc := ⟨_, rfl⟩
      rw [hacc] at HM hlen HY HN
      rw [hacc]
      obtain ⟨m, hm⟩ : ∃ m, acc.length = m := ⟨_, rfl⟩
      rw [hm] at HM hlen
      rw [hm]
      have Hm := Lib.hid hm
      clear hacc hm
      obtain ⟨ka, ta, pa, ba⟩ := a
      simp only at c0' c1 c2 c3
      clear ha
      have HRk1 := Lib.hid (Rd.alloc HRk.out (.cells #[.int .i64 ka, .string ta, .int .i64 pa, .bool ba] 73))
      have K := Blk.new wr 73 #[.int .i64 ka, .string ta, .int .i64 pa, .bool ba]
      have HK := Lib.hid K
      have hsz0 := hb.size
      clear K
      cases hs : spareAt l k with
      | true =>
        have hst := Lib.hid (HY.out hs)
        have HS2 := Lib.hid (HS.out _ hs)
        clear HY HN HS hs
        go_wp2_with fail
        refine (HS2.out _ HRk1.out).mono ?_
        rintro e w2 ⟨rfl, h2⟩
        have HM2 := Lib.hid (HM.out.next1 h2)
        have hb2 := below_next1 hb h2
        clear HS2 HRk1 HRk HM c0' c1 c2 c3 hblt HK h2
        go_wp2
        go_roundw
        case rel => exact ⟨k + 1, A, c, by omega, by go_num, by rw [hst.out, Hm.out], (by rw [hst.out, Hm.out]; exact HM2), hb2⟩
        case measure => simp [intOf]; omega
      | false =>
        have hst := Lib.hid (HN.out hs)
        have HS2 := Lib.hid (HS.out _ hs)
        clear HY HN HS hs
        go_wp2_with fail
        refine (HS2.out _ HRk1.out).mono ?_
        rintro e w2 ⟨rfl, h2⟩
        have HM2 := Lib.hid (HM.out.next1 h2)
        have hb2 := below_next1 hb h2
        have hsz := hb2.size
        have K2 := HK.out.next h2
        have k0 := K2.cell 0
        have k1 := K2.cell 1
        have k2 := K2.cell 2
        have k3 := K2.cell 3
        simp only [List.getElem?_toArray, List.getElem?_cons_zero, List.getElem?_cons_succ] at k0 k1 k2 k3
        have kz := K2.lt
        have HC := Lib.hid (sg_new w2 ka ta pa ba 73)
        clear HS2 HRk1 HRk HM c0' c1 c2 c3 hblt HK h2 K2
        go_wp2_with (at_builtin; (refine wpList_append_own _ rfl (.tmp 17) (.tmp 19) _ rfl w.heap.size 73 i0 (.agg #[.int .i64 0, .string ⟨#[]⟩, .int .i64 0, .bool false]) 4 40 Tryz.underlying44 HI.out.1 HI.out.2.1 HI.out.2.2.1 HI.out.2.2.2 rfl (by decide) _ _ _ rfl (Mine.alloc HM2.out _) ⟨w2.heap.size, 0, none⟩ 1 1 [.int .i64 ka, .string ta, .int .i64 pa, .bool ba] rfl rfl HC.out (sg_one _ _ _ _) (by unfold maxLen; omega) (by omega) (by simp only [World.size_alloc]; omega) ?_); intro v' w3 hown3 hg3 hnil3)
        have hb4 : Below w.heap.size w w3 := Below.grown (show Below w.heap.size w (w2.alloc (.cells #[.int .i64 ka, .string ta, .int .i64 pa, .bool ba] 73)) from (by repeat' (first | (with_reducible exact Below.refl _ _) | (with_reducible assumption) | (with_reducible refine below_drewN ?_ _) | (with_reducible refine Below.drew ?_) | (with_reducible refine Below.alloc ?_ ?_ _) | (with_reducible refine Below.setCell ?_ ?_ _) | go_size))) hg3 (by simp only [World.size_alloc]; omega) (fun g hg => blk_sg HM2.out hg)
        obtain ⟨A3, c3', rfl, m3⟩ := Mine.of hown3
        rw [← snoc_sg] at m3
        have HM3 := Lib.hid m3
        clear hown3 m3 hg3 hnil3 HC HM2 hb2 k0 k1 k2 k3 kz
        go_wp2
        go_roundw
        case rel => exact ⟨k + 1, A3, c3', by omega, by go_num, by rw [hst.out, List.length_append, Hm.out]; rfl, (by rw [hst.out, List.length_append, Hm.out]; exact HM3), hb4⟩
        case measure => simp [intOf]; omega
    · obtain rfl : k = n := by omega
      go_wp2
      go_ret
      exact ⟨A, c, rfl, HM.out, hb⟩
def atTo (l : List SgP) (k : Nat) : List Int := (l.take k).map (fun d => d.2.2.1)
theorem atTo_len {l : List SgP} {k : Nat} (h : k ≤ l.length) : (atTo l k).length = k := by unfold atTo; simp; omega
theorem atTo_succ {l : List SgP} {k : Nat} {d : SgP} (h : l[k]? = some d) : atTo l (k + 1) = atTo l k ++ [d.2.2.1] := by
  unfold atTo; rw [List.take_add_one, h]; simp
theorem atTo_all (l : List SgP) : atTo l l.length = l.map (fun d => d.2.2.1) := by unfold atTo; rw [List.take_length]
theorem intCells_snoc (l : List Int) (x : Int) : intCells (l ++ [x]) = intCells l ++ [.int .i64 x] := by simp [intCells]
theorem cell1_p (w : World) (u : Value) (t : TypeId) : ∀ j v, [u][j]? = some v → (w.alloc (.cells #[u] t)).cell? ((⟨w.heap.size, 0, none⟩ : Addr).add j) = some v := by
  intro j v hj
  match j, hj with
  | 0, hj =>
    obtain rfl := Option.some.inj hj
    exact (Blk.new w t #[u]).cell 0
  | j + 1, hj => simp at hj
theorem leftP_len (l : List SgP) (h : l.length ≤ 3000) : (leftP l).length ≤ 3000 := by
  have := leftTo_len l l.length
  unfold leftP
  omega
/-- Numbers in a slice of the call's own, or nil. -/
def IntsM (w : World) (l : List Int) (e : Ending) (w' : World) : Prop :=
  ∃ (A : Option Addr) (c : Nat), e = .returned (.slice A l.length c) ∧ Mine w' w.heap.size 3 1 A l.length c (intCells l) ∧ Below w.heap.size w w'
set_option maxRecDepth 100000 in
set_option maxHeartbeats 6400000 in
theorem implPlaces_any (s : ByteArray) (w : World) (hs : s.size ≤ 1048576) : Calls Tryz.prog 29 #[.string s] w (IntsM w (placesP s)) := by
  obtain ⟨i0, hi, hz0, hz1, hz2⟩ := info_parts infoInt
  have HI := Lib.hid (And.intro hi (And.intro hz0 (And.intro hz1 hz2)))
  clear hi hz0 hz1 hz2
  have HS := Lib.hid (fun W => implSignsOf_any s W hs)
  have hlen := signsP_len s
  have HP : Hid (placesP s = if (signsP s).2.2 = true then (leftP (signsP s).1).map (fun d => d.2.2.1) else []) := rfl
  generalize placesP s = P at HP ⊢
  generalize signsP s = R at HS hlen HP
  obtain ⟨sg, q, ok⟩ := R
  simp only at hlen
  go_enter Tryz.func29, Tryz.ntmps29
  go_wp2_with fail
  refine (HS.out _).mono ?_
  rintro e w1 ⟨A, c, rfl, hm, hb⟩
  have HM := Lib.hid hm
  clear HS hm
  cases ok with
  | false =>
    obtain rfl : P = [] := by rw [HP.out]; rfl
    clear HP HM
    go_wp2
    go_ret
    exact ⟨_, _, rfl, Mine.mk_nil _ _ _ _, hb⟩
  | true =>
    have HP2 : Hid (P = atTo (leftP sg) (leftP sg).length) := by show _ = _; rw [HP.out, atTo_all]; rfl
    have HW := Lib.hid (fun W A n c hn hr => implLeft_any A n c sg W (by omega) hn hr)
    have hll := leftP_len sg hlen
    clear HP
    generalize leftP sg = L at HP2 HW hll
    go_wp2_with fail
    refine (HW.out _ _ _ _ rfl HM.out.rd).mono ?_
    rintro e w2 ⟨A2, c2, rfl, hm2, h2⟩
    have hb2 := below_next hb h2
    obtain ⟨n, hn⟩ : ∃ n, L.length = n := ⟨_, rfl⟩
    rw [hn] at hm2 hll HP2
    rw [hn]
    have HL := Lib.hid hn
    have HM2 := Lib.hid (hm2.more (B' := w.heap.size) hb.size)
    clear HW HM hm2 h2 hb hn
    have M0 : Hid (Mine w2 w.heap.size 3 1 none (atTo L 0).length 0 (intCells (atTo L 0))) := Mine.mk_nil _ _ _ _
    go_wp2
    go_loopw [6, 20] (fun o i wr => ∃ (k : Nat) (A : Option Addr) (c : Nat), k ≤ n ∧ i = .int .i64 k ∧ o = .slice A (atTo L k).length c ∧ Hid (Mine wr w.heap.size 3 1 A (atTo L k).length c (intCells (atTo L k))) ∧ Hid (Mine wr w.heap.size 73 4 A2 n c2 (L.flatMap sgCells)) ∧ Below w.heap.size w wr) (fun _ i _ => n - (intOf i).toNat)
    case atStart => exact ⟨0, _, _, Nat.zero_le _, rfl, rfl, M0, HM2, hb2⟩
    case round =>
      clear M0 HM2 hb2
      obtain ⟨k, A, c, hk, rfl, rfl, HM, HM2, hb⟩ := hrel
      have hlk : (atTo L k).length = k := atTo_len (by rw [HL.out]; exact hk)
      rw [hlk] at HM
      rw [hlk]
      by_cases hkn : k < n
      · obtain ⟨a, ha⟩ : ∃ a, L[k]? = some a := ⟨_, List.getElem?_eq_getElem (by have := HL.out; omega)⟩
        obtain ⟨b, off, rfl, hblt, c0, c1, c2', c3⟩ := sg_at HM2.out.rd hkn ha
        have hst := Lib.hid (atTo_succ ha)
        have HC := Lib.hid (cell1_p (wr.alloc (.cells #[.int .i64 a.1, .string a.2.1, .int .i64 a.2.2.1, .bool a.2.2.2] 73)) (.int .i64 a.2.2.1) 3)
        rw [World.size_alloc] at HC
        obtain ⟨ka, ta, pa, ba⟩ := a
        simp only at c0 c1 c2' c3 hst HC
        have hsz := hb.size
        clear ha
        go_wp2_with (at_builtin; (refine wpList_append_own _ rfl (.tmp 24) (.tmp 27) _ rfl w.heap.size 3 i0 (.int .i64 0) 1 8 Tryz.underlying38 HI.out.1 HI.out.2.1 HI.out.2.2.1 HI.out.2.2.2 rfl (by decide) _ _ _ rfl (Mine.alloc (Mine.alloc HM.out _) _) ⟨wr.heap.size + 1, 0, none⟩ 1 1 [.int .i64 pa] rfl rfl HC.out (fun x hx => by simp at hx; subst hx; rfl) (by unfold maxLen; omega) (by omega) (by simp only [World.size_alloc]; omega) ?_); intro v' w3 hown3 hg3 hnil3)
        have hb4 : Below w.heap.size w w3 := Below.grown (show Below w.heap.size w ((wr.alloc (.cells #[.int .i64 ka, .string ta, .int .i64 pa, .bool ba] 73)).alloc (.cells #[.int .i64 pa] 3)) from (by repeat' (first | (with_reducible exact Below.refl _ _) | (with_reducible assumption) | (with_reducible refine below_drewN ?_ _) | (with_reducible refine Below.drew ?_) | (with_reducible refine Below.alloc ?_ ?_ _) | (with_reducible refine Below.setCell ?_ ?_ _) | go_size))) hg3 (by simp only [World.size_alloc]; omega) (fun g hg => blk_sg HM.out hg)
        have HM4 := Lib.hid (Mine.grown (Mine.alloc (Mine.alloc HM2.out (.cells #[.int .i64 ka, .string ta, .int .i64 pa, .bool ba] 73)) (.cells #[.int .i64 pa] 3)) hg3 (fun g hg => .inr (Mine.apart HM2.out HM.out (by decide) ((ownBlk A k c).symm.trans hg))))
        obtain ⟨A3, c3', rfl, m3⟩ := Mine.of hown3
        rw [← intCells_snoc, ← hst.out] at m3
        have HM3 := Lib.hid m3
        have hl3 : (atTo L (k + 1)).length = k + 1 := atTo_len (by rw [HL.out]; omega)
        clear hown3 m3 hg3 hnil3 HC HM HM2 hb c0 c1 c2' c3 hblt
        go_wp2
        go_roundw
        case rel => exact ⟨k + 1, A3, c3', by omega, by go_num, by rw [hl3], (by rw [hl3]; exact HM3), HM4, hb4⟩
        case measure => simp [intOf]; omega
      · obtain rfl : k = n := by omega
        go_wp2
        go_ret
        rw [HP2.out]
        exact ⟨A, c, by rw [hlk]; rfl, by rw [hlk]; exact HM.out, hb⟩
set_option maxRecDepth 100000 in
set_option maxHeartbeats 6400000 in
theorem specPlaces_any (s : ByteArray) (w : World) (hs : s.size ≤ 1048576) : Calls Tryz.prog 27 #[.string s] w (IntsM w (placesP s)) := by
  obtain ⟨i0, hi, hz0, hz1, hz2⟩ := info_parts infoInt
  have HI := Lib.hid (And.intro hi (And.intro hz0 (And.intro hz1 hz2)))
  clear hi hz0 hz1 hz2
  have HS := Lib.hid (fun W => specSignsOf_any s W hs)
  have hlen := signsP_len s
  have HP : Hid (placesP s = atTo (leftP (signsP s).1) (leftP (signsP s).1).length) := by show _ = _; rw [placesP_eq, atTo_all]
  generalize placesP s = P at HP ⊢
  generalize signsP s = R at HS hlen HP
  obtain ⟨sg, q, ok⟩ := R
  simp only at hlen HP
  have HW := Lib.hid (fun W A n c hn hr => specLeft_any A n c sg W (by omega) hn hr)
  have hll := leftP_len sg hlen
  generalize leftP sg = L at HP HW hll
  obtain ⟨n, hn⟩ : ∃ n, L.length = n := ⟨_, rfl⟩
  have hnn : n ≤ 3000 := by omega
  rw [hn] at HP
  have HL := Lib.hid hn
  clear hll
  have M0 : Hid (Mine (w.alloc (.cells #[] 3)) w.heap.size 3 1 (some ⟨w.heap.size, 0, none⟩) 0 0 (intCells (atTo L 0))) := own_empty w 3 1
  go_enter Tryz.func27, Tryz.ntmps27
  go_wp2_with fail
  refine (HS.out _).mono ?_
  rintro e w1 ⟨A, c, rfl, hm, h1⟩
  have hb := below_box h1
  have HM := Lib.hid hm
  have HO := Lib.hid (M0.out.next h1)
  have hz1 : w.heap.size + 1 ≤ w1.heap.size := by have := h1.size; simpa using this
  clear HS hm h1 M0
  go_wp2_with fail
  refine (HW.out _ _ _ _ rfl HM.out.rd).mono ?_
  rintro e w2 ⟨A2, c2, rfl, hm2, h2⟩
  have hb2 := below_next hb h2
  have HO2 := Lib.hid (HO.out.next h2)
  rw [hn] at hm2
  rw [hn]
  have HM2 := Lib.hid (hm2.more (B' := w.heap.size) hb.size)
  clear HW HM hm2 h2 hb hn HO hz1
  go_wp2
  go_loopw [3, 7] (fun o i wr => ∃ (k : Nat) (A : Option Addr) (c : Nat), k ≤ n ∧ i = .int .i64 k ∧ o = .slice A (atTo L k).length c ∧ Hid (Mine wr w.heap.size 3 1 A (atTo L k).length c (intCells (atTo L k))) ∧ Hid (Mine wr w.heap.size 73 4 A2 n c2 (L.flatMap sgCells)) ∧ Below w.heap.size w wr) (fun _ i _ => n - (intOf i).toNat)
  case atStart => exact ⟨0, _, _, Nat.zero_le _, rfl, rfl, HO2, HM2, hb2⟩
  case round =>
    clear HO2 HM2 hb2
    obtain ⟨k, A, c, hk, rfl, rfl, HM, HM2, hb⟩ := hrel
    have hlk : (atTo L k).length = k := atTo_len (by rw [HL.out]; exact hk)
    rw [hlk] at HM
    rw [hlk]
    by_cases hkn : k < n
    · obtain ⟨a, ha⟩ : ∃ a, L[k]? = some a := ⟨_, List.getElem?_eq_getElem (by have := HL.out; omega)⟩
      obtain ⟨b, off, rfl, hblt, c0, c1, c2', c3⟩ := sg_at HM2.out.rd hkn ha
      have hst := Lib.hid (atTo_succ ha)
      have HC := Lib.hid (cell1_p wr (.int .i64 a.2.2.1) 3)
      obtain ⟨ka, ta, pa, ba⟩ := a
      simp only at c0 c1 c2' c3 hst HC
      have hsz := hb.size
      clear ha
      go_wp2_with (at_builtin; (refine wpList_append_own _ rfl (.tmp 23) (.tmp 29) _ rfl w.heap.size 3 i0 (.int .i64 0) 1 8 Tryz.underlying38 HI.out.1 HI.out.2.1 HI.out.2.2.1 HI.out.2.2.2 rfl (by decide) _ _ _ rfl (Mine.alloc HM.out _) ⟨wr.heap.size, 0, none⟩ 1 1 [.int .i64 pa] rfl rfl HC.out (fun x hx => by simp at hx; subst hx; rfl) (by unfold maxLen; omega) (by omega) (by simp only [World.size_alloc]; omega) ?_); intro v' w3 hown3 hg3 hnil3)
      have hb4 : Below w.heap.size w w3 := Below.grown (show Below w.heap.size w (wr.alloc (.cells #[.int .i64 pa] 3)) from (by repeat' (first | (with_reducible exact Below.refl _ _) | (with_reducible assumption) | (with_reducible refine below_drewN ?_ _) | (with_reducible refine Below.drew ?_) | (with_reducible refine Below.alloc ?_ ?_ _) | (with_reducible refine Below.setCell ?_ ?_ _) | go_size))) hg3 (by simp only [World.size_alloc]; omega) (fun g hg => blk_sg HM.out hg)
      have HM4 := Lib.hid (Mine.grown (Mine.alloc HM2.out (.cells #[.int .i64 pa] 3)) hg3 (fun g hg => .inr (Mine.apart HM2.out HM.out (by decide) ((ownBlk A k c).symm.trans hg))))
      obtain ⟨A3, c3', rfl, m3⟩ := Mine.of hown3
      rw [← intCells_snoc, ← hst.out] at m3
      have HM3 := Lib.hid m3
      have hl3 : (atTo L (k + 1)).length = k + 1 := atTo_len (by rw [HL.out]; omega)
      clear hown3 m3 hg3 hnil3 HC HM HM2 hb c0 c1 c2' c3 hblt
      go_wp2
      go_roundw
      case rel => exact ⟨k + 1, A3, c3', by omega, by go_num, by rw [hl3], (by rw [hl3]; exact HM3), HM4, hb4⟩
      case measure => simp [intOf]; omega
    · obtain rfl : k = n := by omega
      go_wp2
      go_ret
      rw [HP.out]
      exact ⟨A, c, by rw [hlk]; rfl, by rw [hlk]; exact HM.out, hb⟩
/-- A line and something else. -/
def LineR (w : World) (v : Int) (e : Ending) (w' : World) : Prop := ∃ c : Int, e = .returned (.tuple #[.int .i64 v, .int .i64 c]) ∧ w = w'
theorem lineP_no {t : ByteArray} {q : Int} (h : ¬ (0 ≤ q ∧ q ≤ (t.size : Int))) : lineP t q = 0 := by unfold lineP; rw [if_neg h]
theorem lineP_yes {t : ByteArray} {q : Nat} (h : q ≤ t.size) : lineP t (q : Int) = ((t.data.toList.take q).count 10 : Nat) + 1 := by
  unfold lineP; rw [if_pos (by omega), Int.toNat_natCast]
theorem count_le (l : List UInt8) (q : Nat) : (l.take q).count 10 ≤ q := Nat.le_trans List.count_le_length (by simp; omega)
set_option maxRecDepth 100000 in
set_option maxHeartbeats 1600000 in
theorem implPlaceOf_any (t : ByteArray) (q : Int) (w : World) (ht : t.size ≤ 1048576) : Calls Tryz.prog 31 #[.string t, .int .i64 q] w (LineR w (lineP t q)) := by
  by_cases h0 : q < 0
  · rw [lineP_no (by omega)]
    go_enter Tryz.func31, Tryz.ntmps31
    go_wp2
    refine bodyPost_ret (by simp [results, Tryz.results31, go_sem,]; try rfl) rfl ?_
    exact ⟨_, rfl, rfl⟩
  · obtain ⟨n, rfl⟩ := Int.eq_ofNat_of_zero_le (show 0 ≤ q by omega)
    by_cases h1 : n ≤ t.size
    · rw [lineP_yes h1]
      have HC := Lib.hid (fun W => Tryz.strings_Count_one (t.extract 0 n) 10 W)
      have HL := Lib.hid (fun W => Tryz.strings_LastIndexByte (t.extract 0 n) 10 (by simp; omega) W)
      have hc : Lib.countByte (t.extract 0 n).data.toList 10 = (t.data.toList.take n).count 10 := by rw [extract_head]; rfl
      rw [hc] at HC
      have hle := count_le t.data.toList n
      have hsp := Lib.lastIndexByte_spec (t.extract 0 n) 10
      have hli : -1 ≤ Lib.lastIndexByte (t.extract 0 n) 10 ∧ Lib.lastIndexByte (t.extract 0 n) 10 ≤ (n : Int) := by
        rcases hsp with ⟨h, _⟩ | ⟨i, hi, h, _⟩
        · omega
        · simp at hi; omega
      clear hc hsp
      generalize (t.data.toList.take n).count 10 = K at HC hle ⊢
      generalize Lib.lastIndexByte (t.extract 0 n) 10 = I at HL hli
      obtain ⟨hi1, hi2⟩ := hli
      have g1 : ¬ (t.size : Int) < n := by omega
      have g2 : (n : Int) ≤ t.size := by omega
      go_enter Tryz.func31, Tryz.ntmps31
      go_wp2_with (first | (go_at_call 60; refine (HC.out _).mono ?_; rintro e w1 ⟨rfl, rfl⟩) | (go_at_call 61; refine (HL.out _).mono ?_; rintro e w1 ⟨rfl, rfl⟩))
      refine bodyPost_ret (by simp [results, Tryz.results31, go_sem,]; try rfl) rfl ?_
      exact ⟨_, rfl, rfl⟩
    · rw [lineP_no (by omega)]
      have g1 : (t.size : Int) < n := by omega
      go_enter Tryz.func31, Tryz.ntmps31
      go_wp2
      refine bodyPost_ret (by simp [results, Tryz.results31, go_sem,]; try rfl) rfl ?_
      exact ⟨_, rfl, rfl⟩
theorem count_succ {t : ByteArray} {k : Nat} (h : k < t.size) : (t.data.toList.take (k + 1)).count 10 = (t.data.toList.take k).count 10 + if t[k] = 10 then 1 else 0 := by
  have hl : k < t.data.toList.length := by rw [ba_len]; exact h
  rw [List.take_succ_eq_append_getElem hl, List.count_append, List.count_cons]
  have : t.data.toList[k] = t[k] := rfl
  rw [this]
  simp
set_option maxRecDepth 100000 in
set_option maxHeartbeats 1600000 in
theorem specPlaceOf_any (t : ByteArray) (q : Int) (w : World) (ht : t.size ≤ 1048576) : Calls Tryz.prog 28 #[.string t, .int .i64 q] w (LineR w (lineP t q)) := by
  by_cases h0 : q < 0
  · rw [lineP_no (by omega)]
    go_enter Tryz.func28, Tryz.ntmps28
    go_wp2
    refine bodyPost_ret (by simp [results, Tryz.results28, go_sem,]; try rfl) rfl ?_
    exact ⟨_, rfl, rfl⟩
  · obtain ⟨n, rfl⟩ := Int.eq_ofNat_of_zero_le (show 0 ≤ q by omega)
    by_cases h1 : n ≤ t.size
    · rw [lineP_yes h1]
      have g1 : ¬ (t.size : Int) < n := by omega
      obtain ⟨K, hK⟩ : ∃ K : Nat → Nat, ∀ k, K k = (t.data.toList.take k).count 10 := ⟨_, fun _ => rfl⟩
      have HS : Hid (∀ k, k < t.size → K (k + 1) = K k + if t[k]! = 10 then 1 else 0) := (show ∀ k, k < t.size → K (k + 1) = K k + if t[k]! = 10 then 1 else 0 from fun k hk => by rw [hK, hK, count_succ hk, getElem!_pos t k hk])
      have HL := Lib.hid (fun k => show K k ≤ k by rw [hK]; exact count_le _ _)
      have h00 : K 0 = 0 := by rw [hK]; rfl
      rw [← hK n]
      clear hK
      go_enter Tryz.func28, Tryz.ntmps28
      go_wp2
      go_loop [6, 7, 8] (fun a b i => ∃ (k : Nat) (c : Nat), k ≤ n ∧ c ≤ k + 1 ∧ i = .int .i64 k ∧ a = .int .i64 ((K k : Int) + 1) ∧ b = .int .i64 c) (fun _ _ i => n - (intOf i).toNat)
      case atStart => exact ⟨0, 1, by omega, by omega, rfl, by rw [h00]; rfl, rfl⟩
      case round =>
        obtain ⟨k, c, hk, hc, rfl, rfl, rfl⟩ := hrel
        have hlk := HL.out k
        by_cases hlt : k < n
        · have hst := HS.out k (by omega)
          have hks : k < t.size := by omega
          rw [getElem!_pos t k hks] at hst
          by_cases h10 : t[k] = 10
          · have e10 := line_10 h10
            rw [if_pos h10] at hst
            clear h10
            go_wp2
            go_round
            case rel => exact ⟨k + 1, 1, by omega, by omega, by go_num, by rw [hst]; go_num, by go_num⟩
            case measure => simp [intOf]; omega
          · have e10 := ne_10 h10
            rw [if_neg h10] at hst
            clear h10
            go_wp2
            go_round
            case rel => exact ⟨k + 1, c + 1, by omega, by omega, by go_num, by rw [hst]; go_num, by go_num⟩
            case measure => simp [intOf]; omega
        · obtain rfl : k = n := by omega
          go_wp2
          refine bodyPost_ret (by simp [results, Tryz.results28, go_sem,]; try rfl) rfl ?_
          exact ⟨_, rfl, rfl⟩
    · rw [lineP_no (by omega)]
      have g1 : (t.size : Int) < n := by omega
      go_enter Tryz.func28, Tryz.ntmps28
      go_wp2
      refine bodyPost_ret (by simp [results, Tryz.results28, go_sem,]; try rfl) rfl ?_
      exact ⟨_, rfl, rfl⟩
theorem lineN_no {t : ByteArray} {P : List Int} (hP : placesP t = P) {v : Int} (h : inB v 0 ((P.length : Int) - 1) = false) : lineN t v = 0 := by
  subst hP
  unfold lineN
  rw [if_neg]
  intro h2
  rw [show inB v 0 (((placesP t).length : Int) - 1) = true from decide_eq_true (by omega)] at h
  cases h
theorem lineN_yes {t : ByteArray} {P : List Int} (hP : placesP t = P) {v : Nat} {x : Int} (h : P[v]? = some x) : lineN t (v : Int) = lineP t x := by
  subst hP
  have hlt := (List.getElem?_eq_some_iff.1 h).1
  unfold lineN
  rw [if_pos (by omega), Int.toNat_natCast, List.getD_eq_getElem?_getD, h]
  rfl
set_option maxRecDepth 100000 in
set_option maxHeartbeats 3200000 in
theorem implLine_any (t : ByteArray) (A : Option Addr) (n c : Nat) (ps : List PN) (k : Int) (w : World) (ht : t.size ≤ 1048576) (hn : n ≤ 1048576) (hps : Nps w A n ps) (hb : Hid (PNs ps)) :
    Calls Tryz.prog 12 #[.string t, .slice A n c, .int .i64 k] w fun e w' => e = .returned (.int .i64 (lineN t (firstV ps k))) ∧ Below w.heap.size w w' := by
  have HP := Lib.hid (fun W => implPlaces_any t W ht)
  have HF := Lib.hid (fun W (hW : Nps W A n ps) => implFirstSign_any A n c ps k W hn hW hb)
  have HX := Lib.hid (fun (x : Int) W => implPlaceOf_any t x W ht)
  have HN := Lib.hid (fun (W : World) (h : Below w.heap.size w W) => hps.next h)
  generalize firstV ps k = v at HF ⊢
  have hlen : (placesP t).length ≤ 3000 := by
    rw [placesP_eq, List.length_map]
    exact leftP_len _ (signsP_len t)
  obtain ⟨P, hP⟩ : ∃ P, placesP t = P := ⟨_, rfl⟩
  rw [hP] at HP hlen
  have H0 := Lib.hid (fun h => lineN_no hP (v := v) h)
  have H1 := Lib.hid (fun (q : Nat) (x : Int) (e : v = q) h => show lineN t v = lineP t x by rw [e]; exact lineN_yes hP (v := q) (x := x) h)
  generalize lineN t v = Z at H0 H1 ⊢
  clear hP hps hb
  go_enter Tryz.func12, Tryz.ntmps12
  go_wp2_with fail
  refine (HP.out _).mono ?_
  rintro e w1 ⟨A1, c1, rfl, hm1, h1⟩
  go_wp2_with fail
  refine (HF.out _ (HN.out _ h1)).mono ?_
  rintro e w2 ⟨rfl, h2⟩
  have hm2 := hm1.next h2
  have hb2 := below_next h1 h2
  clear HF HN hm1 h1 h2 HP
  cases hv : inB v 0 ((P.length : Int) - 1) with
  | false =>
    have HI := Lib.hid (fun W => inRange_is hv W)
    have hZ := Lib.hid (H0.out hv)
    clear H0 H1 hv
    go_wp2_with fail
    refine (HI.out _).mono ?_
    rintro e w3 ⟨rfl, rfl⟩
    go_wp2
    go_ret
    exact ⟨ret_int hZ.out.symm, hb2⟩
  | true =>
    have HI := Lib.hid (fun W => inRange_is hv W)
    have hv2 := of_decide_eq_true hv
    obtain ⟨q, rfl⟩ := Int.eq_ofNat_of_zero_le hv2.1
    have hq : q < P.length := by omega
    obtain ⟨x, hx⟩ : ∃ x, P[q]? = some x := ⟨_, List.getElem?_eq_getElem hq⟩
    have hZ := Lib.hid (H1.out q x rfl hx)
    obtain ⟨b, off, rfl, hblt, c0⟩ := int_at hm2.rd hq hx
    have HY := Lib.hid (HX.out x)
    clear H0 H1 hv hv2 HX hx hm2
    generalize lineP t x = L at HY hZ
    go_wp2_with fail
    refine (HI.out _).mono ?_
    rintro e w3 ⟨rfl, rfl⟩
    go_wp2_with fail
    refine (HY.out _).mono ?_
    rintro e w3 ⟨c3, rfl, rfl⟩
    go_wp2
    go_ret
    exact ⟨ret_int hZ.out.symm, hb2⟩
set_option maxRecDepth 100000 in
set_option maxHeartbeats 3200000 in
theorem specLine_any (t : ByteArray) (A : Option Addr) (n c : Nat) (ps : List PN) (k : Int) (w : World) (ht : t.size ≤ 1048576) (hn : n ≤ 1048576) (hps : Nps w A n ps) (hb : Hid (PNs ps)) :
    Calls Tryz.prog 11 #[.string t, .slice A n c, .int .i64 k] w fun e w' => e = .returned (.int .i64 (lineN t (firstV ps k))) ∧ Below w.heap.size w w' := by
  have HP := Lib.hid (fun W => specPlaces_any t W ht)
  have HF := Lib.hid (fun W (hW : Nps W A n ps) => specFirstSign_any A n c ps k W hn hW hb)
  have HX := Lib.hid (fun (x : Int) W => specPlaceOf_any t x W ht)
  have HN := Lib.hid hps
  generalize firstV ps k = v at HF ⊢
  have hlen : (placesP t).length ≤ 3000 := by
    rw [placesP_eq, List.length_map]
    exact leftP_len _ (signsP_len t)
  obtain ⟨P, hP⟩ : ∃ P, placesP t = P := ⟨_, rfl⟩
  rw [hP] at HP hlen
  have H0 := Lib.hid (fun h => lineN_no hP (v := v) h)
  have H1 := Lib.hid (fun (q : Nat) (x : Int) (e : v = q) h => show lineN t v = lineP t x by rw [e]; exact lineN_yes hP (v := q) (x := x) h)
  generalize lineN t v = Z at H0 H1 ⊢
  clear hP hps hb
  go_enter Tryz.func11, Tryz.ntmps11
  go_wp2_with fail
  refine (HF.out _ HN.out).mono ?_
  rintro e w1 ⟨rfl, h1⟩
  go_wp2_with fail
  refine (HP.out _).mono ?_
  rintro e w2 ⟨A1, c1, rfl, hm2, h2⟩
  have hb2 := below_next h1 h2
  clear HF HN h1 h2 HP
  cases hv : inB v 0 ((P.length : Int) - 1) with
  | false =>
    have HI := Lib.hid (fun W => l01In_is' hv W)
    have hZ := Lib.hid (H0.out hv)
    clear H0 H1 hv
    go_wp2_with fail
    refine (HI.out _).mono ?_
    rintro e w3 ⟨rfl, rfl⟩
    go_wp2
    go_ret
    exact ⟨ret_int hZ.out.symm, hb2⟩
  | true =>
    have HI := Lib.hid (fun W => l01In_is' hv W)
    have hv2 := of_decide_eq_true hv
    obtain ⟨q, rfl⟩ := Int.eq_ofNat_of_zero_le hv2.1
    have hq : q < P.length := by omega
    obtain ⟨x, hx⟩ : ∃ x, P[q]? = some x := ⟨_, List.getElem?_eq_getElem hq⟩
    have hZ := Lib.hid (H1.out q x rfl hx)
    obtain ⟨b, off, rfl, hblt, c0⟩ := int_at hm2.rd hq hx
    have HY := Lib.hid (HX.out x)
    clear H0 H1 hv hv2 HX hx hm2
    generalize lineP t x = L at HY hZ
    go_wp2_with fail
    refine (HI.out _).mono ?_
    rintro e w3 ⟨rfl, rfl⟩
    go_wp2_with fail
    refine (HY.out _).mono ?_
    rintro e w3 ⟨c3, rfl, rfl⟩
    go_wp2
    go_ret
    exact ⟨ret_int hZ.out.symm, hb2⟩
set_option maxRecDepth 100000 in
set_option maxHeartbeats 3200000 in
theorem lawLine (t : ByteArray) (A : Option Addr) (n c : Nat) (l : List Nd) (k : Int) (w : World) (ht : t.size ≤ maxLen) (hh : n ≤ maxLen ∧ Nds w A n l ∧ ∀ d ∈ l, OkNode d) :
    Calls Tryz.prog 4 #[.string t, .slice A n c, .int .i64 k] w fun e w' => e = .returned (.bool true) ∧ Below w.heap.size w w' := by
  obtain ⟨hn, hr, hok⟩ := hh
  have hl := hr.len
  unfold maxLen at ht
  by_cases h1 : 1048576 < t.size
  · clear hr hok hn
    go_enter Tryz.func4, Tryz.ntmps4
    go_wp2
    go_ret
    exact ⟨rfl, (by repeat' (first | (with_reducible exact Below.refl _ _) | (with_reducible assumption) | (with_reducible refine below_drewN ?_ _) | (with_reducible refine Below.drew ?_) | (with_reducible refine Below.alloc ?_ ?_ _) | (with_reducible refine Below.setCell ?_ ?_ _) | go_size))⟩
  · have h2 : t.size ≤ 1048576 := by omega
    by_cases hz : (szNodeL l : Nat) ≤ 1048576
    · obtain ⟨hn1, hsm⟩ := nodes_small hz
      have hn2 : n ≤ 1048576 := by omega
      have HPN := Lib.hid (pns_of hr hsm)
      have HSM : Hid (∀ d ∈ l, d.cnt ≤ 1048576) := (show ∀ d ∈ l, _ from fun d hd => (hsm d hd).2)
      have HK : Hid (∀ p ∈ l.map Nd.pn, p.kids.length ≤ 4194304) := (show ∀ p ∈ l.map Nd.pn, _ from fun p hp => by have := (HPN.out p hp).2; omega)
      have HR := Lib.hid hr
      have HZ := Lib.hid (fun W (hW : Below w.heap.size w W) => szNodeS_ok A n c l 1048576 W (by omega) hl (hr.next hW) (by omega))
      have hpos : ¬ ((1048576 : Int) - (szNodeL l : Nat) < 0) := by omega
      have HT := Lib.hid (fun W (hW : Below w.heap.size w W) => toNodeS_any A n c l W hn2 (hr.next hW) HSM)
      have HS := Lib.hid (fun W B c2 hW => specLine_any t B n c2 (l.map Nd.pn) k W h2 hn2 hW HPN)
      have HI := Lib.hid (fun W B c2 hW => implLine_any t B n c2 (l.map Nd.pn) k W h2 hn2 hW HPN)
      have HE := Lib.hid (fun W B C c2 c3 hB hC => eqNodeS_same B C n c2 c3 (l.map Nd.pn) W (by omega) hB hC HK)
      generalize lineN t (firstV (l.map Nd.pn) k) = V at HS HI
      generalize l.map Nd.pn = ps at HT HS HI HE
      generalize szNodeL l = Z at HZ hpos
      clear hr hok hsm hz hn1 hl HR HPN HK HSM hn
      go_enter Tryz.func4, Tryz.ntmps4
      go_wp2_with fail
      refine (HZ.out _ (Below.refl _ _)).mono ?_
      rintro e w1 ⟨rfl, h1⟩
      go_wp2_with fail
      refine (HT.out _ h1).mono ?_
      rintro e w2 ⟨l2, rfl, _, _, hp2, h2⟩
      have hb2 := below_next h1 h2
      go_wp2_with fail
      refine (HS.out _ _ _ hp2).mono ?_
      rintro e w3 ⟨rfl, h3⟩
      have hb3 := below_next hb2 h3
      clear hp2
      go_wp2_with fail
      refine (HT.out _ hb3).mono ?_
      rintro e w4 ⟨l4, rfl, _, _, hp4, h4⟩
      have hb4 := below_next hb3 h4
      go_wp2_with fail
      refine (HI.out _ _ _ hp4).mono ?_
      rintro e w5 ⟨rfl, h5⟩
      have hb5 := below_next hb4 h5
      have hp5 := hp4.next h5
      go_wp2_with fail
      refine (HT.out _ hb5).mono ?_
      rintro e w6 ⟨l6, rfl, _, _, hp6, h6⟩
      have hb6 := below_next hb5 h6
      have hp56 := hp5.next h6
      go_wp2_with fail
      refine (HE.out _ _ _ _ _ hp56 hp6).mono ?_
      rintro e w7 ⟨rfl, h7⟩
      go_wp2
      go_ret
      exact ⟨rfl, below_next hb6 h7⟩
    · have HZ := Lib.hid (szNodeS_big A n c l 1048576 w (by omega) (by omega) hn hl hr hok (by omega))
      clear hr hok hn
      go_enter Tryz.func4, Tryz.ntmps4
      go_wp2_with fail
      refine HZ.out.mono ?_
      rintro e w1 ⟨rfl, h1⟩
      go_wp2
      go_ret
      exact ⟨rfl, h1⟩
end Go.Proofs.YtpfanhheodiamaaGreatDoor

/-
  The law FnChanges: what makes one text of another one does, and can be changed back; what it does not touch moves with it. The walk.
-/
import Derived.Test.YtbddfbgbjlfocaaChangeQ
import Derived.Test.YtbddfbgbjlfocaaDrawC
namespace Go.Proofs.Ytbddfbgbjlfocaa
open Go.RowKit
set_option linter.unusedVariables false

set_option maxHeartbeats 400000 in
theorem big_any (A : Option Addr) (n c : Nat) (w : World) (hn : n ≤ maxLen) :
    Calls Try.prog 48 #[.slice A n c] w fun e w' => e = .returned (.bool (decide ((1048576 : Int) < n))) ∧ w = w' := by
  unfold maxLen at hn
  go_enter Try.func48, Try.ntmps48
  go_wp2
  go_ret
  exact ⟨rfl, rfl⟩

/-- The facts of a change in the walk's own words: T its text, U what was there, P and Q their ends. -/
structure ChFacts (a b T U : ByteArray) (n : Nat) (P Q : Int) : Prop where
  n0 : (n : Int) ≤ P
  p1 : P ≤ a.size
  q0 : (n : Int) ≤ Q
  q1 : Q ≤ b.size
  qp : (b.size : Int) - Q = a.size - P
  ts : T.size ≤ 200
  us : U.size ≤ 200
  qt : Q = n + T.size
  ok : chOk a.size n P = true
  ok2 : chOk b.size n Q = true
  does : chDo a T n P = b
  back : chDo b U n Q = a
  bv : chBackV a T n P = .agg #[.int .i64 n, .int .i64 Q, .string U]
  moves : ∀ i : Nat, i < a.size → (i < n ∨ P ≤ i) → ∃ j : Nat, j < b.size ∧ a.data[i]? = b.data[j]? ∧ (j : Int) = (if i < n then (i : Int) else (i : Int) + b.size - a.size)
  all : chAllT a [((n : Int), P, T), ((n : Int), Q, U), ((n : Int), P, T)] = b ∧ chAllB a [((n : Int), P, T), ((n : Int), Q, U), ((n : Int), P, T)] = true

theorem facts_of {a b : ByteArray} {n m : Nat} (ha : a.size ≤ 200) (hb : b.size ≤ 200) (h : IsChangeOf a b n m) :
    ChFacts a b (b.extract n (b.size - m)) (a.extract n (a.size - m)) n ((a.size : Int) - m) ((b.size : Int) - m) := by
  obtain ⟨h1, h2, h3, h4⟩ := change_does h
  have e1 : (a.size : Int) - m = ((a.size - m : Nat) : Int) := by omega
  have e2 : (b.size : Int) - m = ((b.size - m : Nat) : Int) := by omega
  have s1 := cut_size b n m h2
  have s2 := cut_size a n m h1
  have ok : chOk a.size n ((a.size : Int) - m) = true := chOk_yes (by omega) (by omega) (by omega)
  have ok2 : chOk b.size n ((b.size : Int) - m) = true := chOk_yes (by omega) (by omega) (by omega)
  have d1 : chDo a (b.extract n (b.size - m)) n ((a.size : Int) - m) = b := by rw [e1]; exact h3
  have d2 : chDo b (a.extract n (a.size - m)) n ((b.size : Int) - m) = a := by rw [e2]; exact h4
  refine ⟨by omega, by omega, by omega, by omega, by omega, by omega, by omega, by omega, ok, ok2, d1, d2, ?_, ?_, ?_⟩
  · rw [chBackV, if_pos ok, s1, e1]
    simp only [Int.toNat_natCast]
    rw [show (n : Int) + ((b.size - m - n : Nat) : Int) = (b.size : Int) - m by omega]
  · intro i hi ho
    exact change_moves h hi (by omega)
  · have g : chGo a [((n : Int), ((a.size : Int) - m), b.extract n (b.size - m)), ((n : Int), ((b.size : Int) - m), a.extract n (a.size - m)), ((n : Int), ((a.size : Int) - m), b.extract n (b.size - m))] = some b := by
      simp only [chGo, ok, if_true, d1, ok2, d2]
    simp [chAllT, chAllB, g]

theorem byte_beq {a b : ByteArray} {i j : Nat} (hi : i < a.size) (hj : j < b.size) (h : a.data[i]? = b.data[j]?) : ((b[j].toNat : Int) == (a[i].toNat : Int)) = true := by
  rw [at_eq hi, at_eq hj] at h
  rw [Option.some.inj h]; simp
theorem byte_bne {a b : ByteArray} {i j : Nat} (hi : i < a.size) (hj : j < b.size) (h : a.data[i]? = b.data[j]?) : ((b[j].toNat : Int) != (a[i].toNat : Int)) = false := by
  rw [at_eq hi, at_eq hj] at h
  rw [Option.some.inj h]; simp
/-- Where a place has gone. -/
def wentTo (n : Nat) (P : Int) (tz : Nat) (i : Nat) : Int := if i = n then n + tz else moved n P i tz

set_option maxRecDepth 100000 in
set_option maxHeartbeats 1600000 in
theorem lawChanges (A : Option Addr) (n0 c0 : Nat) (l : List Int) (w : World) (hh : l.length = n0 ∧ n0 ≤ maxLen ∧ Rd w 1 A n0 (u8cells l) ∧ ∀ x ∈ l, 0 ≤ x ∧ x ≤ 255) :
    Calls Try.prog 12 #[.slice A n0 c0] w fun e w' => e = .returned (.bool true) ∧ Below w.heap.size w w' := by
  obtain ⟨hl, hn, hr, hs⟩ := hh
  have HL := Lib.hid hl
  have HS := bytes_hid hs
  have hb := Below.refl w.heap.size w
  clear hl hs
  by_cases hbig : 1048576 < n0
  · have d0 : decide ((1048576 : Int) < n0) = true := decide_eq_true (by omega)
    go_enter Try.func12, Try.ntmps12
    go_wp2_with fail
    refine (big_any A n0 c0 _ hn).mono ?_
    rw [d0]
    rintro e w2 ⟨rfl, rfl⟩
    go_wp2
    go_ret
    exact ⟨rfl, hb⟩
  have d0 : decide ((1048576 : Int) < n0) = false := decide_eq_false (by omega)
  have hn1 : n0 ≤ 1048576 := by omega
  go_enter Try.func12, Try.ntmps12
  go_wp2_with fail
  refine (big_any A n0 c0 _ hn).mono ?_
  rw [d0]
  rintro e w2 ⟨rfl, rfl⟩
  clear d0 hn hbig
  go_wp2_with fail
  refine (DrawText_any A n0 c0 l _ hn1 HL HS hr).mono ?_
  rintro e w2 ⟨a, rfl, ha, h2⟩
  replace hb := below_next hb h2
  replace hr := hr.next h2
  clear h2
  go_wp2_with fail
  refine (DrawChangeOf_any A n0 c0 l _ hn1 HL HS hr).mono ?_
  rintro e w3 ⟨b0, b, rfl, hb0, hbs, h2⟩
  replace hb := below_next hb h2
  clear h2 hr hn1 HL HS
  go_wp2_with fail
  refine (implChangeOf_any a b _ (by omega) (by omega)).mono ?_
  rintro e w4 ⟨n, m, hch, rfl, h2⟩
  replace hb := below_next hb h2
  clear h2
  have F := Lib.hid (facts_of (by omega) (by omega) hch)
  clear hch
  revert F
  generalize (b.extract n (b.size - m)) = T
  generalize (a.extract n (a.size - m)) = U
  generalize ((a.size : Int) - m) = P
  generalize ((b.size : Int) - m) = Q
  intro F
  have C1 := Lib.hid (fun w : World => show Calls Try.prog 32 #[.string a, .agg #[.int .i64 n, .int .i64 P, .string T]] w fun e w' => e = .returned (.tuple #[.string b, .bool true]) ∧ Below w.heap.size w w' by
    have h := implChanged_yes a T n P w (by omega) (by have := F.out.ts; omega) (by omega) F.out.n0 F.out.p1
    rwa [F.out.does] at h)
  have C2 := Lib.hid (fun w : World => show Calls Try.prog 37 #[.string a, .agg #[.int .i64 n, .int .i64 P, .string T]] w fun e w' => e = .returned (.agg #[.int .i64 n, .int .i64 Q, .string U]) ∧ Below w.heap.size w w' by
    have h := implBackChange_any a T n P w (by omega) (by have := F.out.ts; omega)
    rwa [F.out.bv] at h)
  have C3 := Lib.hid (fun w : World => show Calls Try.prog 32 #[.string b, .agg #[.int .i64 n, .int .i64 Q, .string U]] w fun e w' => e = .returned (.tuple #[.string a, .bool true]) ∧ Below w.heap.size w w' by
    have h := implChanged_yes b U n Q w (by omega) (by have := F.out.us; omega) (by omega) F.out.q0 F.out.q1
    rwa [F.out.back] at h)
  have C6 := Lib.hid (fun w : World => show Calls Try.prog 25 #[.string a, .agg #[.int .i64 n, .int .i64 P, .string T]] w fun e w' => e = .returned (.bool true) ∧ Below w.heap.size w w' by
    have h := implChangeOk_any a T n P w
    rwa [F.out.ok] at h)
  have C4 := Lib.hid (fun (w : World) (g c : Nat) (hr : Rd w 3 (some ⟨g, 0, none⟩) 3 ([((n : Int), P, T), ((n : Int), Q, U), ((n : Int), P, T)].flatMap changeCells)) => show Calls Try.prog 46 #[.string a, .slice (some ⟨g, 0, none⟩) 3 c] w fun e w' => e = .returned (.tuple #[.string b, .bool true]) ∧ Below w.heap.size w w' by
    have h := implChangedAll_any a (some ⟨g, 0, none⟩) 3 c [((n : Int), P, T), ((n : Int), Q, U), ((n : Int), P, T)] w (by omega) (by omega) rfl (by have h1 := F.out.ts; have h2 := F.out.us; show T.size + (U.size + (T.size + 0)) ≤ 1048576; omega) hr
    rwa [F.out.all.1, F.out.all.2] at h)
  go_wp2_with fail
  refine (C1.out _).mono ?_
  rintro e w2 ⟨rfl, h2⟩
  have K1 := Blk.fresh h2
  replace hb := by first | exact below_next hb h2 | exact below_next1 hb h2 | exact below_next2 hb h2
  clear h2
  have cK1 := K1.cell
  have fK1 := K1.frozen
  have zK1 := K1.lt
  go_wp2_with fail
  refine (C2.out _).mono ?_
  rintro e w2 ⟨rfl, h2⟩
  clear cK1 fK1 zK1
  replace K1 := by first | exact K1.next h2 | exact K1.next1 h2 | exact K1.next2 h2
  replace hb := by first | exact below_next hb h2 | exact below_next1 hb h2 | exact below_next2 hb h2
  clear h2
  have cK1 := K1.cell
  have fK1 := K1.frozen
  have zK1 := K1.lt
  go_wp2_with fail
  refine (C3.out _).mono ?_
  rintro e w2 ⟨rfl, h2⟩
  clear cK1 fK1 zK1
  replace K1 := by first | exact K1.next h2 | exact K1.next1 h2 | exact K1.next2 h2
  have K2 := Blk.fresh h2
  replace hb := by first | exact below_next hb h2 | exact below_next1 hb h2 | exact below_next2 hb h2
  clear h2
  have cK1 := K1.cell
  have fK1 := K1.frozen
  have zK1 := K1.lt
  have cK2 := K2.cell
  have fK2 := K2.frozen
  have zK2 := K2.lt
  go_wp2_with fail
  refine (C4.out _ _ _ (Rd.fresh _ _ ([((n : Int), P, T), ((n : Int), Q, U), ((n : Int), P, T)].flatMap changeCells) rfl)).mono ?_
  rintro e w5 ⟨rfl, h2⟩
  clear cK1 fK1 zK1 cK2 fK2 zK2
  replace K1 := K1.next1 h2
  replace hb := below_next1 hb h2
  clear h2 K2 C1 C2 C3 C4
  go_wp2_with fail
  go_loopw [14] (fun i wr => ∃ k : Nat, k ≤ a.size ∧ i = .int .i64 k ∧ Blk wr w4.heap.size 28 #[.int .i64 n, .int .i64 P, .string T] ∧ Below w.heap.size w wr) (fun i _ => a.size - (intOf i).toNat)
  case atStart => exact ⟨0, Nat.zero_le _, rfl, K1, hb⟩
  case round =>
    clear K1 hb
    obtain ⟨k, hk, rfl, K, hb⟩ := hrel
    have cK := K.cell
    have fK := K.frozen
    have zK := K.lt
    by_cases hka : k < a.size
    · by_cases h1 : k < n
      · obtain ⟨j, hj, he, hje⟩ := F.out.moves k hka (.inl h1)
        rw [if_pos h1] at hje
        obtain rfl : j = k := by omega
        have hq := byte_beq hka hj he
        have hq' := byte_bne hka hj he
        have C5 := Lib.hid (fun w : World => show Calls Try.prog 30 #[.agg #[.int .i64 n, .int .i64 P, .string T], .int .i64 (j : Int)] w fun e w' => e = .returned (.int .i64 (j : Int)) ∧ Below w.heap.size w w' by
          have h := implMovedBy_any n P j T w
          rwa [moved, if_pos (by omega)] at h)
        have h1' : (j : Int) < n := by omega
        have hne : ((j : Int) == (n : Int)) = false := by rw [beq_eq_false_iff_ne]; omega
        have d1 : decide ((j : Int) < 0) = false := decide_eq_false (by omega)
        have d2 : decide (b.size ≤ j) = false := decide_eq_false (by omega)
        clear he hje h1
        go_wp2_with fail
        refine (C5.out _).mono ?_
        rintro e w6 ⟨rfl, h2⟩
        clear cK fK zK
        replace K := K.next h2
        replace hb := below_next hb h2
        clear h2
        have cK := K.cell
        have zK := K.lt
        go_wp2_with fail
        go_quiet (fail)
        go_wp2
        go_roundw
        case rel => exact ⟨j + 1, by omega, by go_num, K.drewN _, (by repeat' (first | (with_reducible exact Below.refl _ _) | (with_reducible assumption) | (with_reducible refine below_drewN ?_ _) | (with_reducible refine Below.drew ?_) | (with_reducible refine Below.alloc ?_ ?_ _) | (with_reducible refine Below.setCell ?_ ?_ _) | go_size))⟩
        case measure => simp [intOf]; omega
      · have h1' : ¬ (k : Int) < n := by omega
        by_cases h3 : P ≤ k
        · obtain ⟨j, hj, he, hje⟩ := F.out.moves k hka (.inr h3)
          rw [if_neg h1] at hje
          have hq := byte_beq hka hj he
          have hq' := byte_bne hka hj he
          have d1 : decide ((j : Int) < 0) = false := decide_eq_false (by omega)
          have d2 : decide (b.size ≤ j) = false := decide_eq_false (by omega)
          have f1 := F.out.n0
          have f2 := F.out.qp
          have f3 := F.out.qt
          have f4 := F.out.ts
          have f5 := F.out.p1
          by_cases h4 : k = n
          · subst h4
            have C5 := Lib.hid (fun w : World => show Calls Try.prog 30 #[.agg #[.int .i64 (k : Int), .int .i64 P, .string T], .int .i64 (k : Int)] w fun e w' => e = .returned (.int .i64 (k : Int)) ∧ Below w.heap.size w w' by
              have h := implMovedBy_any k P k T w
              rwa [moved, if_pos (by omega)] at h)
            have hsum : (k : Int) + T.size = j := by omega
            have hT : (T.size : Int) ≤ 200 := by omega
            clear he hje h1 f1 f2 f3 f4 f5
            go_wp2_with fail
            refine (C5.out _).mono ?_
            rintro e w6 ⟨rfl, h2⟩
            clear cK fK zK
            replace K := K.next h2
            replace hb := below_next hb h2
            clear h2
            have cK := K.cell
            have zK := K.lt
            go_wp2_with fail
            go_quiet (fail)
            go_wp2
            go_roundw
            case rel => exact ⟨k + 1, by omega, by go_num, K.drewN _, (by repeat' (first | (with_reducible exact Below.refl _ _) | (with_reducible assumption) | (with_reducible refine below_drewN ?_ _) | (with_reducible refine Below.drew ?_) | (with_reducible refine Below.alloc ?_ ?_ _) | (with_reducible refine Below.setCell ?_ ?_ _) | go_size))⟩
            case measure => simp [intOf]; omega
          · have C5 := Lib.hid (fun w : World => show Calls Try.prog 30 #[.agg #[.int .i64 n, .int .i64 P, .string T], .int .i64 (k : Int)] w fun e w' => e = .returned (.int .i64 (j : Int)) ∧ Below w.heap.size w w' by
              have h := implMovedBy_any n P k T w
              rwa [moved, if_neg (by omega), if_neg (by omega), IntWalk.wrap64_in ((k : Int) + T.size) (by omega), IntWalk.wrap64_in (P - n) (by omega), IntWalk.wrap64_in _ (by omega), show (k : Int) + T.size - (P - n) = j by omega] at h)
            have hne : ((k : Int) == (n : Int)) = false := by rw [beq_eq_false_iff_ne]; omega
            clear he hje h1 f1 f2 f3 f4 f5 h4
            go_wp2_with fail
            refine (C5.out _).mono ?_
            rintro e w6 ⟨rfl, h2⟩
            clear cK fK zK
            replace K := K.next h2
            replace hb := below_next hb h2
            clear h2
            have cK := K.cell
            have zK := K.lt
            go_wp2_with fail
            go_quiet (fail)
            go_wp2
            go_roundw
            case rel => exact ⟨k + 1, by omega, by go_num, K.drewN _, (by repeat' (first | (with_reducible exact Below.refl _ _) | (with_reducible assumption) | (with_reducible refine below_drewN ?_ _) | (with_reducible refine Below.drew ?_) | (with_reducible refine Below.alloc ?_ ?_ _) | (with_reducible refine Below.setCell ?_ ?_ _) | go_size))⟩
            case measure => simp [intOf]; omega
        · clear h1
          go_wp2
          go_roundw
          case rel => exact ⟨k + 1, by omega, by go_num, K, hb⟩
          case measure => simp [intOf]; omega
    · go_wp2_with fail
      refine (C6.out _).mono ?_
      rintro e w6 ⟨rfl, h2⟩
      replace hb := below_next hb h2
      go_wp2
      go_ret
      exact ⟨rfl, hb⟩
end Go.Proofs.Ytbddfbgbjlfocaa

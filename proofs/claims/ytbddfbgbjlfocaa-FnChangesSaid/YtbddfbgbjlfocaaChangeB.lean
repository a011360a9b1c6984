/-
  Contracts: what makes one text of another one (chapter 28).
-/
import Derived.Test.YtbddfbgbjlfocaaChangeA
import Derived.Test.YtbddfbgbjlfocaaChangeP
import Derived.Outline
import Derived.Deep.DeepCutAuto
import Derived.Deep.CutBlock
import Derived.Deep.LoopGhost
namespace Go.Proofs.Ytbddfbgbjlfocaa
open Go.RowKit
set_option linter.unusedVariables false

/-- The change, as a value. -/
def ChangeOfPost (a b : ByteArray) (w : World) (e : Ending) (w' : World) : Prop :=
  ∃ n m : Nat, IsChangeOf a b n m ∧ e = .returned (.agg #[.int .i64 n, .int .i64 (a.size - m), .string (b.extract n (b.size - m))]) ∧ Below w.heap.size w w'

set_option maxRecDepth 100000 in
set_option maxHeartbeats 800000 in
theorem specChangeOf_any (a b : ByteArray) (w : World) (ha : a.size ≤ 4194304) (hb : b.size ≤ 4194304) :
    Calls Try.prog 33 #[.string a, .string b] w (ChangeOfPost a b w) := by
  go_enter Try.func33, Try.ntmps33
  go_upto_block 0 with fail
  go_cut [5] (fun n wx => ∃ k : Nat, n = .int .i64 k ∧ k ≤ a.size ∧ k ≤ b.size ∧ IsCom a b k ∧ Below (w.alloc (.cells #[.int .i64 0, .int .i64 0, .string ⟨#[]⟩] 28)).heap.size (w.alloc (.cells #[.int .i64 0, .int .i64 0, .string ⟨#[]⟩] 28)) wx)
  case first =>
    go_wp2_with fail
    go_loopw [5] (fun n wr => ∃ k : Nat, k ≤ a.size ∧ k ≤ b.size ∧ Pre a b k ∧ n = .int .i64 k ∧ Below (w.alloc (.cells #[.int .i64 0, .int .i64 0, .string ⟨#[]⟩] 28)).heap.size (w.alloc (.cells #[.int .i64 0, .int .i64 0, .string ⟨#[]⟩] 28)) wr) (fun n _ => a.size - (intOf n).toNat)
    case atStart => exact ⟨0, Nat.zero_le _, Nat.zero_le _, pre_zero a b, rfl, Below.refl _ _⟩
    case round =>
      obtain ⟨k, hka, hkb, hp, rfl, hbel⟩ := hrel
      by_cases h1 : k < a.size
      · by_cases h2 : k < b.size
        · cases hq : ((a[k].toNat : Int) == (b[k].toNat : Int)) with
          | true =>
            have hp' := pre_step hp h1 h2 hq
            go_wp2
            go_quiet (fail)
            go_wp2
            go_roundw
            case rel => exact ⟨k + 1, by omega, by omega, hp', by go_num, (by repeat' (first | (with_reducible exact Below.refl _ _) | (with_reducible assumption) | (with_reducible refine below_drewN ?_ _) | (with_reducible refine Below.drew ?_) | (with_reducible refine Below.alloc ?_ ?_ _) | (with_reducible refine Below.setCell ?_ ?_ _) | go_size))⟩
            case measure => simp [intOf]; omega
          | false =>
            have hp' := com_here hp h1 h2 hq
            go_wp2
            go_quiet (fail)
            go_wp2
            go_meet
            case rel => exact ⟨k, rfl, hka, hkb, hp', (by repeat' (first | (with_reducible exact Below.refl _ _) | (with_reducible assumption) | (with_reducible refine below_drewN ?_ _) | (with_reducible refine Below.drew ?_) | (with_reducible refine Below.alloc ?_ ?_ _) | (with_reducible refine Below.setCell ?_ ?_ _) | go_size))⟩
        · have hp' := com_end hp (fun h => h2 h.2)
          have hd : decide (k < b.size) = false := decide_eq_false h2
          go_wp2
          go_quiet (fail)
          go_wp2
          go_meet
          case rel => exact ⟨k, rfl, hka, hkb, hp', (by repeat' (first | (with_reducible exact Below.refl _ _) | (with_reducible assumption) | (with_reducible refine below_drewN ?_ _) | (with_reducible refine Below.drew ?_) | (with_reducible refine Below.alloc ?_ ?_ _) | (with_reducible refine Below.setCell ?_ ?_ _) | go_size))⟩
      · have hp' := com_end hp (fun h => h1 h.1)
        have hd : decide (k < a.size) = false := decide_eq_false h1
        go_wp2
        go_quiet (fail)
        go_wp2
        go_meet
        case rel => exact ⟨k, rfl, hka, hkb, hp', (by repeat' (first | (with_reducible exact Below.refl _ _) | (with_reducible assumption) | (with_reducible refine below_drewN ?_ _) | (with_reducible refine Below.drew ?_) | (with_reducible refine Below.alloc ?_ ?_ _) | (with_reducible refine Below.setCell ?_ ?_ _) | go_size))⟩
  case rest =>
    obtain ⟨k, rfl, hka, hkb, hcom, hbel⟩ := hcut
    go_upto_block 2 with fail
    go_cut [6] (fun n wx => ∃ m : Nat, n = .int .i64 m ∧ m ≤ a.size - k ∧ m ≤ b.size - k ∧ IsEnd a b k m ∧ Below (w.alloc (.cells #[.int .i64 0, .int .i64 0, .string ⟨#[]⟩] 28)).heap.size (w.alloc (.cells #[.int .i64 0, .int .i64 0, .string ⟨#[]⟩] 28)) wx)
    case first =>
      go_wp2_with fail
      go_loopw [6] (fun n wr => ∃ m : Nat, m ≤ a.size - k ∧ m ≤ b.size - k ∧ Suf a b k m ∧ n = .int .i64 m ∧ Below (w.alloc (.cells #[.int .i64 0, .int .i64 0, .string ⟨#[]⟩] 28)).heap.size (w.alloc (.cells #[.int .i64 0, .int .i64 0, .string ⟨#[]⟩] 28)) wr) (fun n _ => a.size - (intOf n).toNat)
      case atStart => exact ⟨0, Nat.zero_le _, Nat.zero_le _, suf_zero a b k, rfl, hbel⟩
      case round =>
        obtain ⟨m, hma, hmb, hp, rfl, hbel⟩ := hrel
        by_cases h1 : m < a.size - k
        · by_cases h2 : m < b.size - k
          · have g1 : a.size - 1 - m < a.size := by omega
            have g2 : b.size - 1 - m < b.size := by omega
            cases hq : ((a[a.size - 1 - m].toNat : Int) == (b[b.size - 1 - m].toNat : Int)) with
            | true =>
              have hp' := suf_step hp h1 h2 rfl rfl g1 g2 hq
              go_wp2
              have w1 : IntKind.i64.wrap ((a.size : Int) - k) = a.size - k := IntWalk.i64_in _ (by omega)
              have w2 : IntKind.i64.wrap ((b.size : Int) - k) = b.size - k := IntWalk.i64_in _ (by omega)
              have w3 : IntKind.i64.wrap ((a.size : Int) - 1) = a.size - 1 := IntWalk.i64_in _ (by omega)
              have w4 : IntKind.i64.wrap ((b.size : Int) - 1) = b.size - 1 := IntWalk.i64_in _ (by omega)
              have w5 : IntKind.i64.wrap ((a.size : Int) - 1 - m) = a.size - 1 - m := IntWalk.i64_in _ (by omega)
              have w6 : IntKind.i64.wrap ((b.size : Int) - 1 - m) = b.size - 1 - m := IntWalk.i64_in _ (by omega)
              have d1 : decide ((m : Int) < a.size - k) = true := decide_eq_true (by omega)
              have d2 : decide ((m : Int) < b.size - k) = true := decide_eq_true (by omega)
              have i1 : (m : Int) ≤ a.size - 1 := by omega
              have i2 : (m : Int) ≤ b.size - 1 := by omega
              have i3 : (a.size : Int) - 1 - m < a.size := by omega
              have i4 : (b.size : Int) - 1 - m < b.size := by omega
              go_quiet (fail)
              go_wp2
              go_roundw
              case rel => exact ⟨m + 1, by omega, by omega, hp', by go_num, (by repeat' (first | (with_reducible exact Below.refl _ _) | (with_reducible assumption) | (with_reducible refine below_drewN ?_ _) | (with_reducible refine Below.drew ?_) | (with_reducible refine Below.alloc ?_ ?_ _) | (with_reducible refine Below.setCell ?_ ?_ _) | go_size))⟩
              case measure => simp [intOf]; omega
            | false =>
              have hp' := end_here hp rfl rfl g1 g2 hq
              go_wp2
              have w1 : IntKind.i64.wrap ((a.size : Int) - k) = a.size - k := IntWalk.i64_in _ (by omega)
              have w2 : IntKind.i64.wrap ((b.size : Int) - k) = b.size - k := IntWalk.i64_in _ (by omega)
              have w3 : IntKind.i64.wrap ((a.size : Int) - 1) = a.size - 1 := IntWalk.i64_in _ (by omega)
              have w4 : IntKind.i64.wrap ((b.size : Int) - 1) = b.size - 1 := IntWalk.i64_in _ (by omega)
              have w5 : IntKind.i64.wrap ((a.size : Int) - 1 - m) = a.size - 1 - m := IntWalk.i64_in _ (by omega)
              have w6 : IntKind.i64.wrap ((b.size : Int) - 1 - m) = b.size - 1 - m := IntWalk.i64_in _ (by omega)
              have d1 : decide ((m : Int) < a.size - k) = true := decide_eq_true (by omega)
              have d2 : decide ((m : Int) < b.size - k) = true := decide_eq_true (by omega)
              have i1 : (m : Int) ≤ a.size - 1 := by omega
              have i2 : (m : Int) ≤ b.size - 1 := by omega
              have i3 : (a.size : Int) - 1 - m < a.size := by omega
              have i4 : (b.size : Int) - 1 - m < b.size := by omega
              go_quiet (fail)
              go_wp2
              go_meet
              case rel => exact ⟨m, rfl, hma, hmb, hp', (by repeat' (first | (with_reducible exact Below.refl _ _) | (with_reducible assumption) | (with_reducible refine below_drewN ?_ _) | (with_reducible refine Below.drew ?_) | (with_reducible refine Below.alloc ?_ ?_ _) | (with_reducible refine Below.setCell ?_ ?_ _) | go_size))⟩
          · have hp' := end_end hp (fun h => h2 h.2)
            go_wp2
            have w1 : IntKind.i64.wrap ((a.size : Int) - k) = a.size - k := IntWalk.i64_in _ (by omega)
            have w2 : IntKind.i64.wrap ((b.size : Int) - k) = b.size - k := IntWalk.i64_in _ (by omega)
            have d1 : decide ((m : Int) < a.size - k) = true := decide_eq_true (by omega)
            have d2 : decide ((m : Int) < b.size - k) = false := decide_eq_false (by omega)
            go_quiet (fail)
            go_wp2
            go_meet
            case rel => exact ⟨m, rfl, hma, hmb, hp', (by repeat' (first | (with_reducible exact Below.refl _ _) | (with_reducible assumption) | (with_reducible refine below_drewN ?_ _) | (with_reducible refine Below.drew ?_) | (with_reducible refine Below.alloc ?_ ?_ _) | (with_reducible refine Below.setCell ?_ ?_ _) | go_size))⟩
        · have hp' := end_end hp (fun h => h1 h.1)
          go_wp2
          have w1 : IntKind.i64.wrap ((a.size : Int) - k) = a.size - k := IntWalk.i64_in _ (by omega)
          have d1 : decide ((m : Int) < a.size - k) = false := decide_eq_false (by omega)
          go_quiet (fail)
          go_wp2
          go_meet
          case rel => exact ⟨m, rfl, hma, hmb, hp', (by repeat' (first | (with_reducible exact Below.refl _ _) | (with_reducible assumption) | (with_reducible refine below_drewN ?_ _) | (with_reducible refine Below.drew ?_) | (with_reducible refine Below.alloc ?_ ?_ _) | (with_reducible refine Below.setCell ?_ ?_ _) | go_size))⟩
    case rest =>
      obtain ⟨m, rfl, hma, hmb, hend, hbel⟩ := hcut
      obtain ⟨hc, hf⟩ := bcell hbel
      have hz : w.heap.size < wc.heap.size := by have := hbel.size; simp at this; omega
      have c0 : wc.cell? ⟨w.heap.size, 0, none⟩ = some (.int .i64 0) := by rw [hc _ _ (by simp)]; go_cell
      have c1 : wc.cell? ⟨w.heap.size, 1, none⟩ = some (.int .i64 0) := by rw [hc _ _ (by simp)]; go_cell
      have c2 : wc.cell? ⟨w.heap.size, 2, none⟩ = some (.string ⟨#[]⟩) := by rw [hc _ _ (by simp)]; go_cell
      have z : ∀ o, wc.frozen? ⟨w.heap.size, o, none⟩ = false := fun o => by rw [hf _ _ (by simp)]; go_cell
      have b1 : (k : Int) ≤ b.size - m := by omega
      have b2 : (m : Int) ≤ b.size := by omega
      have b3 : m ≤ a.size := by omega
      have b4 : (b.size : Int) - m ≤ b.size := by omega
      have b5 : (0 : Int) ≤ b.size - m := by omega
      have b6 : ((b.size : Int) - m).toNat = b.size - m := by omega
      have hb' := below_box hbel
      clear hc hf hbel
      go_wp2
      refine bodyPost_ret (by simp [results, Try.results33, go_sem, c0, c1, c2]; try rfl) rfl ?_
      exact ⟨k, m, ⟨hcom, hend⟩, rfl, (by repeat' (first | (with_reducible exact Below.refl _ _) | (with_reducible assumption) | (with_reducible refine below_drewN ?_ _) | (with_reducible refine Below.drew ?_) | (with_reducible refine Below.alloc ?_ ?_ _) | (with_reducible refine Below.setCell ?_ ?_ _) | go_size))⟩
set_option maxRecDepth 100000 in
set_option maxHeartbeats 800000 in
theorem implChangeOf_any (a b : ByteArray) (w : World) (ha : a.size ≤ 4194304) (hb : b.size ≤ 4194304) :
    Calls Try.prog 34 #[.string a, .string b] w (ChangeOfPost a b w) := by
  go_enter Try.func34, Try.ntmps34
  go_upto_region 1 with fail
  go_cut [5] (fun s wx => ∃ mo : Nat, s = .int .i64 mo ∧ mo ≤ a.size ∧ mo ≤ b.size ∧ (mo = a.size ∨ mo = b.size) ∧ wx = (w.alloc (.cells #[.int .i64 0, .int .i64 0, .string ⟨#[]⟩] 28)))
  case first =>
    by_cases h : b.size < a.size
    all_goals
      go_wp2
      go_meet
      case rel => first | exact ⟨a.size, rfl, by omega, by omega, .inl rfl, rfl⟩ | exact ⟨b.size, rfl, by omega, by omega, .inr rfl, rfl⟩
  case rest =>
    obtain ⟨mo, rfl, hma, hmb, hmo, rfl⟩ := hcut
    go_upto_block 0 with fail
    go_cut [6] (fun n wx => ∃ k : Nat, n = .int .i64 k ∧ k ≤ mo ∧ IsCom a b k ∧ Below (w.alloc (.cells #[.int .i64 0, .int .i64 0, .string ⟨#[]⟩] 28)).heap.size (w.alloc (.cells #[.int .i64 0, .int .i64 0, .string ⟨#[]⟩] 28)) wx)
    case first =>
      go_wp2_with fail
      go_loopw [6] (fun n wr => ∃ k : Nat, k ≤ mo ∧ Pre a b k ∧ n = .int .i64 k ∧ Below (w.alloc (.cells #[.int .i64 0, .int .i64 0, .string ⟨#[]⟩] 28)).heap.size (w.alloc (.cells #[.int .i64 0, .int .i64 0, .string ⟨#[]⟩] 28)) wr) (fun n _ => mo - (intOf n).toNat)
      case atStart => exact ⟨0, Nat.zero_le _, pre_zero a b, rfl, Below.refl _ _⟩
      case round =>
        obtain ⟨k, hk, hp, rfl, hbel⟩ := hrel
        by_cases h1 : k < mo
        · have h2 : k < a.size := by omega
          have h3 : k < b.size := by omega
          cases hq : ((a[k].toNat : Int) == (b[k].toNat : Int)) with
          | true =>
            have hp' := pre_step hp h2 h3 hq
            go_wp2
            go_quiet (fail)
            go_wp2
            go_roundw
            case rel => exact ⟨k + 1, by omega, hp', by go_num, (by repeat' (first | (with_reducible exact Below.refl _ _) | (with_reducible assumption) | (with_reducible refine below_drewN ?_ _) | (with_reducible refine Below.drew ?_) | (with_reducible refine Below.alloc ?_ ?_ _) | (with_reducible refine Below.setCell ?_ ?_ _) | go_size))⟩
            case measure => simp [intOf]; omega
          | false =>
            have hp' := com_here hp h2 h3 hq
            go_wp2
            go_quiet (fail)
            go_wp2
            go_meet
            case rel => exact ⟨k, rfl, hk, hp', (by repeat' (first | (with_reducible exact Below.refl _ _) | (with_reducible assumption) | (with_reducible refine below_drewN ?_ _) | (with_reducible refine Below.drew ?_) | (with_reducible refine Below.alloc ?_ ?_ _) | (with_reducible refine Below.setCell ?_ ?_ _) | go_size))⟩
        · have hp' := com_end hp (fun h => by omega)
          have hd : decide (k < mo) = false := decide_eq_false h1
          go_wp2
          go_quiet (fail)
          go_wp2
          go_meet
          case rel => exact ⟨k, rfl, hk, hp', (by repeat' (first | (with_reducible exact Below.refl _ _) | (with_reducible assumption) | (with_reducible refine below_drewN ?_ _) | (with_reducible refine Below.drew ?_) | (with_reducible refine Below.alloc ?_ ?_ _) | (with_reducible refine Below.setCell ?_ ?_ _) | go_size))⟩
    case rest =>
      obtain ⟨k, rfl, hk, hcom, hbel⟩ := hcut
      go_upto_block 2 with fail
      go_cut [7] (fun n wx => ∃ m : Nat, n = .int .i64 m ∧ m ≤ mo - k ∧ IsEnd a b k m ∧ Below (w.alloc (.cells #[.int .i64 0, .int .i64 0, .string ⟨#[]⟩] 28)).heap.size (w.alloc (.cells #[.int .i64 0, .int .i64 0, .string ⟨#[]⟩] 28)) wx)
      case first =>
        go_wp2_with fail
        go_loopw [7] (fun n wr => ∃ m : Nat, m ≤ mo - k ∧ Suf a b k m ∧ n = .int .i64 m ∧ Below (w.alloc (.cells #[.int .i64 0, .int .i64 0, .string ⟨#[]⟩] 28)).heap.size (w.alloc (.cells #[.int .i64 0, .int .i64 0, .string ⟨#[]⟩] 28)) wr) (fun n _ => mo - k - (intOf n).toNat)
        case atStart => exact ⟨0, Nat.zero_le _, suf_zero a b k, rfl, hbel⟩
        case round =>
          obtain ⟨m, hm, hp, rfl, hbel⟩ := hrel
          by_cases h1 : m < mo - k
          · have g1 : a.size - 1 - m < a.size := by omega
            have g2 : b.size - 1 - m < b.size := by omega
            cases hq : ((a[a.size - 1 - m].toNat : Int) == (b[b.size - 1 - m].toNat : Int)) with
            | true =>
              have hp' := suf_step hp (by omega) (by omega) rfl rfl g1 g2 hq
              go_wp2
              have w1 : IntKind.i64.wrap ((mo : Int) - k) = mo - k := IntWalk.i64_in _ (by omega)
              have w3 : IntKind.i64.wrap ((a.size : Int) - 1) = a.size - 1 := IntWalk.i64_in _ (by omega)
              have w4 : IntKind.i64.wrap ((b.size : Int) - 1) = b.size - 1 := IntWalk.i64_in _ (by omega)
              have w5 : IntKind.i64.wrap ((a.size : Int) - 1 - m) = a.size - 1 - m := IntWalk.i64_in _ (by omega)
              have w6 : IntKind.i64.wrap ((b.size : Int) - 1 - m) = b.size - 1 - m := IntWalk.i64_in _ (by omega)
              have d1 : decide ((m : Int) < mo - k) = true := decide_eq_true (by omega)
              have i1 : (m : Int) ≤ a.size - 1 := by omega
              have i2 : (m : Int) ≤ b.size - 1 := by omega
              have i3 : (a.size : Int) - 1 - m < a.size := by omega
              have i4 : (b.size : Int) - 1 - m < b.size := by omega
              go_quiet (fail)
              go_wp2
              go_roundw
              case rel => exact ⟨m + 1, by omega, hp', by go_num, (by repeat' (first | (with_reducible exact Below.refl _ _) | (with_reducible assumption) | (with_reducible refine below_drewN ?_ _) | (with_reducible refine Below.drew ?_) | (with_reducible refine Below.alloc ?_ ?_ _) | (with_reducible refine Below.setCell ?_ ?_ _) | go_size))⟩
              case measure => simp [intOf]; omega
            | false =>
              have hp' := end_here hp rfl rfl g1 g2 hq
              go_wp2
              have w1 : IntKind.i64.wrap ((mo : Int) - k) = mo - k := IntWalk.i64_in _ (by omega)
              have w3 : IntKind.i64.wrap ((a.size : Int) - 1) = a.size - 1 := IntWalk.i64_in _ (by omega)
              have w4 : IntKind.i64.wrap ((b.size : Int) - 1) = b.size - 1 := IntWalk.i64_in _ (by omega)
              have w5 : IntKind.i64.wrap ((a.size : Int) - 1 - m) = a.size - 1 - m := IntWalk.i64_in _ (by omega)
              have w6 : IntKind.i64.wrap ((b.size : Int) - 1 - m) = b.size - 1 - m := IntWalk.i64_in _ (by omega)
              have d1 : decide ((m : Int) < mo - k) = true := decide_eq_true (by omega)
              have i1 : (m : Int) ≤ a.size - 1 := by omega
              have i2 : (m : Int) ≤ b.size - 1 := by omega
              have i3 : (a.size : Int) - 1 - m < a.size := by omega
              have i4 : (b.size : Int) - 1 - m < b.size := by omega
              go_quiet (fail)
              go_wp2
              go_meet
              case rel => exact ⟨m, rfl, hm, hp', (by repeat' (first | (with_reducible exact Below.refl _ _) | (with_reducible assumption) | (with_reducible refine below_drewN ?_ _) | (with_reducible refine Below.drew ?_) | (with_reducible refine Below.alloc ?_ ?_ _) | (with_reducible refine Below.setCell ?_ ?_ _) | go_size))⟩
          · have hp' := end_end hp (fun h => by omega)
            go_wp2
            have w1 : IntKind.i64.wrap ((mo : Int) - k) = mo - k := IntWalk.i64_in _ (by omega)
            have d1 : decide ((m : Int) < mo - k) = false := decide_eq_false (by omega)
            go_quiet (fail)
            go_wp2
            go_meet
            case rel => exact ⟨m, rfl, hm, hp', (by repeat' (first | (with_reducible exact Below.refl _ _) | (with_reducible assumption) | (with_reducible refine below_drewN ?_ _) | (with_reducible refine Below.drew ?_) | (with_reducible refine Below.alloc ?_ ?_ _) | (with_reducible refine Below.setCell ?_ ?_ _) | go_size))⟩
      case rest =>
        obtain ⟨m, rfl, hm, hend, hbel⟩ := hcut
        obtain ⟨hc, hf⟩ := bcell hbel
        have hz : w.heap.size < wc.heap.size := by have := hbel.size; simp at this; omega
        have c0 : wc.cell? ⟨w.heap.size, 0, none⟩ = some (.int .i64 0) := by rw [hc _ _ (by simp)]; go_cell
        have c1 : wc.cell? ⟨w.heap.size, 1, none⟩ = some (.int .i64 0) := by rw [hc _ _ (by simp)]; go_cell
        have c2 : wc.cell? ⟨w.heap.size, 2, none⟩ = some (.string ⟨#[]⟩) := by rw [hc _ _ (by simp)]; go_cell
        have z : ∀ o, wc.frozen? ⟨w.heap.size, o, none⟩ = false := fun o => by rw [hf _ _ (by simp)]; go_cell
        have b1 : (k : Int) ≤ b.size - m := by omega
        have b2 : (m : Int) ≤ b.size := by omega
        have b3 : m ≤ a.size := by omega
        have b4 : (b.size : Int) - m ≤ b.size := by omega
        have b5 : (0 : Int) ≤ b.size - m := by omega
        have b6 : ((b.size : Int) - m).toNat = b.size - m := by omega
        have hb' := below_box hbel
        clear hc hf hbel hmo
        go_wp2
        refine bodyPost_ret (by simp [results, Try.results34, go_sem, c0, c1, c2]; try rfl) rfl ?_
        exact ⟨k, m, ⟨hcom, hend⟩, rfl, (by repeat' (first | (with_reducible exact Below.refl _ _) | (with_reducible assumption) | (with_reducible refine below_drewN ?_ _) | (with_reducible refine Below.drew ?_) | (with_reducible refine Below.alloc ?_ ?_ _) | (with_reducible refine Below.setCell ?_ ?_ _) | go_size))⟩
end Go.Proofs.Ytbddfbgbjlfocaa

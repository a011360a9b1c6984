
/-
  Numerals: the program's Decimal (strconv.Itoa over its laid table) and the reference's own.
-/
import Derived.Test.YtfapdhfjcnehhaaDoorMine
import Derived.Test.YtfapdhfjcnehhaaDoorMark
import Derived.Test.YtfapdhfjcnehhaaDoorShelf
import Derived.Lib.SmallJoins
import Derived.Lib.AppendIntMem
import Derived.Lib.ItoaLen
import Derived.DataShut
namespace Go.Proofs.YtfapdhfjcnehhaaDoor
open Go.RowKit
set_option linter.unusedVariables false

theorem gPow : Tryd.prog.globalNamed "internal/strconv.uint64pow10" = some 1 := by kernel_rfl
/-- The library's table of powers of ten is as its text lays it. -/
def Tab (w : World) : Prop := Lib.TabIs Tryd.prog w "internal/strconv.uint64pow10" .u64 Lib.pow10Tab
section
variable {w w' w2 : World} {o o' : Obj}
theorem Tab.next (h : Tab w) (hb : Below w.heap.size w w') : Tab w' := Joins.tab_stays gPow h hb (Nat.le_refl _)
theorem Tab.alloc (h : Tab w) (o : Obj) : Tab (w.alloc o) := h.next ((Below.refl _ _).alloc (Nat.le_refl _) o)
theorem Tab.next1 (h : Tab w) (hb : Below (w.alloc o).heap.size (w.alloc o) w2) : Tab w2 := (h.alloc o).next hb
theorem Tab.next2 (h : Tab w) (hb : Below ((w.alloc o).alloc o').heap.size ((w.alloc o).alloc o') w2) : Tab w2 := ((h.alloc o).alloc o').next hb
theorem Tab.drewN (h : Tab w) (k : Nat) : Tab (w.drewN k) := h
theorem Tab.drew (h : Tab w) : Tab w.drew := h
end

theorem wf_bound {a : Int} (h : (Lit.int .i64 a).wf = true) : -9223372036854775808 ≤ a ∧ a ≤ 9223372036854775807 := (Lit.wf_int_iff .i64 a).1 h
/-- The numeral of a number. -/
def decT (n : Int) : ByteArray := ⟨(Lib.itoa n).toArray⟩
theorem decT_size (n : Int) (h0 : -9223372036854775808 ≤ n) (h1 : n ≤ 9223372036854775807) : (decT n).size ≤ 21 := by
  have h := Lib.itoa_length_le n h0 h1
  rwa [decT, show (⟨(Lib.itoa n).toArray⟩ : ByteArray).size = (Lib.itoa n).length by simp [ByteArray.size]]
set_option maxHeartbeats 400000 in
theorem implDecimal_any (n : Int) (w : World) (h0 : -9223372036854775808 ≤ n) (h1 : n ≤ 9223372036854775807) (ht : Tab w) :
    Calls Tryd.prog 45 #[.int .i64 n] w fun e w' => e = .returned (.string (decT n)) ∧ Below w.heap.size w w' := by
  go_enter Tryd.func45, Tryd.ntmps45
  go_wp2_with fail
  refine (Tryd.strconv_Itoa n h0 h1 _ ht).mono ?_
  rintro e w2 ⟨rfl, k, os, rfl⟩
  go_wp2
  go_ret
  exact ⟨rfl, Lib.below_grow _ _ (Nat.le_refl _) _ _⟩

/-- What is still to be written of a number that is not 0. -/
def restD (q : Nat) : List UInt8 := if q = 0 then [] else Lib.decDigits q
theorem restD_step {q : Nat} (h : 0 < q) : restD q = restD (q / 10) ++ [UInt8.ofNat (48 + q % 10)] := by
  unfold restD
  rw [if_neg (by omega)]
  by_cases h10 : q < 10
  · rw [if_pos (by omega), Lib.decDigits_one h10, Nat.mod_eq_of_lt h10]; rfl
  · rw [if_neg (by omega), Lib.decDigits, dif_neg h10]
def DecAt (k q : Nat) (out : ByteArray) : Prop := Lib.decDigits k = restD q ++ out.data.toList
theorem decAt_step {k q : Nat} {out : ByteArray} (h : DecAt k q out) (hq : 0 < q) : DecAt k (q / 10) ((⟨#[48 + UInt8.ofNat (q % 10)]⟩ : ByteArray) ++ out) := by
  unfold DecAt at h ⊢
  rw [h, restD_step hq, ba_app, List.append_assoc]
  congr 1
  rw [show (48 + UInt8.ofNat (q % 10) : UInt8) = UInt8.ofNat (48 + q % 10) by rw [UInt8.ofNat_add]; rfl]
theorem decAt_end {k : Nat} {out : ByteArray} (h : DecAt k 0 out) : decT k = out := by
  unfold DecAt restD at h
  refine ba_ext ?_
  rw [if_pos rfl, List.nil_append] at h
  rw [← h, decT, Lib.itoa_nonneg]
theorem decAt_size {k q : Nat} {out : ByteArray} (h : DecAt k q out) (hk : k ≤ 9223372036854775807) : out.size ≤ 21 := by
  have h1 := Lib.itoa_length_le (k : Int) (by omega) (by omega)
  rw [Lib.itoa_nonneg] at h1
  unfold DecAt at h
  have h2 := congrArg List.length h
  rw [List.length_append, ba_len] at h2
  omega

set_option maxHeartbeats 400000 in
theorem figure_dec (d : Int) (w : World) (h0 : 0 ≤ d) (h1 : d < 10) : Calls Tryd.prog 63 #[.int .i64 d] w fun e w' => e = .returned (.int .u8 (48 + d)) ∧ w = w' := by
  go_enter Tryd.func63, Tryd.ntmps63
  go_wp2
  go_ret
  exact ⟨rfl, rfl⟩
set_option maxRecDepth 100000 in
set_option maxHeartbeats 800000 in
theorem specDecimal_nat (k : Nat) (w : World) (h1 : k ≤ 9223372036854775807) :
    Calls Tryd.prog 34 #[.int .i64 (k : Int)] w fun e w' => e = .returned (.string (decT k)) ∧ Below w.heap.size w w' := by
  by_cases hk : k = 0
  · subst hk
    have HE := Lib.hid (show decT (0 : Nat) = ⟨#[48]⟩ by rw [decT, Lib.itoa_nonneg, Lib.decDigits_one (by omega)]; rfl)
    go_enter Tryd.func34, Tryd.ntmps34
    go_wp2
    go_ret
    exact ⟨ret_str HE.out.symm, (by repeat' (first | (with_reducible exact Below.refl _ _) | (with_reducible assumption) | (with_reducible refine below_drewN ?_ _) | (with_reducible refine Below.drew ?_) | (with_reducible refine Below.alloc ?_ ?_ _) | (with_reducible refine Below.setCell ?_ ?_ _) | go_size))⟩
  · have hk1 : 0 < k := by omega
    have hk2 : ((k : Int) == 0) = false := by rw [beq_eq_false_iff_ne]; omega
    have hAt := Lib.hid (show DecAt k k ⟨#[]⟩ by unfold DecAt restD; rw [if_neg (by omega)]; simp)
    clear hk
    go_enter Tryd.func34, Tryd.ntmps34
    go_wp2
    go_loopw [0, 4, 5] (fun a o d wr => ∃ (q : Nat) (out : ByteArray), q ≤ k ∧ Hid (DecAt k q out) ∧ a = .int .i64 q ∧ o = .string out ∧ Below w.heap.size w wr) (fun a _ _ _ => (intOf a).toNat)
    case atStart => exact ⟨k, ⟨#[]⟩, Nat.le_refl _, hAt, rfl, rfl, Below.refl _ _⟩
    case round =>
      obtain ⟨q, out, hqk, hat, rfl, rfl, hb⟩ := hrel
      have hout := decAt_size hat.out h1
      by_cases hq : 0 < q
      · have hst := Lib.hid (decAt_step hat.out hq)
        have hq1 : ((q : Int) != 0) = true := by rw [bne_iff_ne]; omega
        have hm0 : (0 : Int) ≤ (q : Int) % 10 := by omega
        have hm1 : (q : Int) % 10 < 10 := by omega
        have hcv := fun W => conv_one W q
        have hz := hb.size
        go_wp2_with (go_at_call 63; refine (figure_dec _ _ (by omega) (by omega)).mono ?_; rintro e w2 ⟨rfl, rfl⟩)
        go_roundw
        case rel => exact ⟨q / 10, _, by omega, hst, by go_num, rfl, (by repeat' (first | (with_reducible exact Below.refl _ _) | (with_reducible assumption) | (with_reducible refine below_drewN ?_ _) | (with_reducible refine Below.drew ?_) | (with_reducible refine Below.alloc ?_ ?_ _) | (with_reducible refine Below.setCell ?_ ?_ _) | go_size))⟩
        case measure => simp [intOf]; omega
      · obtain rfl : q = 0 := by omega
        have hst := Lib.hid (decAt_end hat.out)
        go_wp2
        go_ret
        exact ⟨ret_str hst.out.symm, hb⟩
theorem specDecimal_any (n : Int) (w : World) (h0 : 0 ≤ n) (h1 : n ≤ 9223372036854775807) :
    Calls Tryd.prog 34 #[.int .i64 n] w fun e w' => e = .returned (.string (decT n)) ∧ Below w.heap.size w w' := by
  obtain ⟨k, rfl⟩ := Int.eq_ofNat_of_zero_le h0
  exact specDecimal_nat k w (by omega)
end Go.Proofs.YtfapdhfjcnehhaaDoor

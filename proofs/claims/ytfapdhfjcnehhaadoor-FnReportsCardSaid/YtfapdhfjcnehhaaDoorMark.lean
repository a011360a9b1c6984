
/-
  Contracts: the texts of marks (laws.markText).
-/
import Derived.Test.YtfapdhfjcnehhaaDoorMem
import Derived.Test.YtfapdhfjcnehhaaDoorChecked
import Derived.Outline
import Derived.Deep.Cut
import Derived.Laws.IdiomStrings
namespace Go.Proofs.YtfapdhfjcnehhaaDoor
open Go.RowKit
set_option linter.unusedVariables false

def mkGo : Nat → Nat → ByteArray → ByteArray
  | 0, _, out => out
  | f + 1, k, out => if k = 0 then out else mkGo f (k / 10) ((⟨#[48 + UInt8.ofNat (k % 10)]⟩ : ByteArray) ++ out)
/-- The letter m and the figures. -/
def mkT (k : Int) : ByteArray := (⟨#[109]⟩ : ByteArray) ++ mkGo k.toNat k.toNat ⟨#[]⟩
/-- The round's state: f rounds at most are left, q is what is left of the number. -/
def MkAt (k f q : Nat) (out : ByteArray) : Prop := mkGo k k ⟨#[]⟩ = mkGo f q out ∧ q ≤ f ∧ out.size + f ≤ k
theorem mkAt_step {k f q : Nat} {out : ByteArray} (h : MkAt k f q out) (hq : 0 < q) : MkAt k (f - 1) (q / 10) ((⟨#[48 + UInt8.ofNat (q % 10)]⟩ : ByteArray) ++ out) := by
  obtain ⟨h1, h2, h3⟩ := h
  obtain ⟨f, rfl⟩ : ∃ g, f = g + 1 := ⟨f - 1, by omega⟩
  refine ⟨?_, by omega, ?_⟩
  · rw [h1, mkGo, if_neg (by omega)]; rfl
  · rw [ByteArray.size_append, show (⟨#[48 + UInt8.ofNat (q % 10)]⟩ : ByteArray).size = 1 from rfl]; omega
theorem mkAt_end {k f q : Nat} {out : ByteArray} (h : MkAt k f q out) (hq : q = 0) : mkGo k k ⟨#[]⟩ = out := by
  obtain ⟨h1, h2, h3⟩ := h
  subst hq
  rw [h1]
  cases f with
  | zero => rfl
  | succ f => rw [mkGo, if_pos rfl]

theorem conv_one (W : World) (q : Nat) : (convert 45 9 (.slice (some ⟨W.heap.size, 0, none⟩) 1 1)).run Tryd.prog (W.alloc (.cells #[.int .u8 (48 + (q : Int) % 10)] 5)) = .ok (.string ⟨#[48 + UInt8.ofNat (q % 10)]⟩) (W.alloc (.cells #[.int .u8 (48 + (q : Int) % 10)] 5)) := by
  have h := run_convert_bytes_back (P := Tryd.prog) (W.alloc (.cells #[.int .u8 (48 + (q : Int) % 10)] 5)) 45 9 5 ⟨W.heap.size, 0, none⟩ 1 [48 + UInt8.ofNat (q % 10)] Tryd.underlying45 Tryd.underlying5 Tryd.underlying9 (fun j hj => by
    simp at hj
    subst hj
    have h2 := (Blk.new W 5 #[.int .u8 (48 + (q : Int) % 10)]).cell 0
    rw [show (⟨W.heap.size, 0, none⟩ : Addr).add 0 = ⟨W.heap.size, 0, none⟩ from rfl, h2]
    simp
    omega)
  simpa using h

set_option maxHeartbeats 800000 in
theorem markText_nat (k : Nat) (w : World) (h0 : 1 ≤ k) (h1 : k ≤ 1099511627776) :
    Calls Tryd.prog 55 #[.int .i64 (k : Int)] w fun e w' => e = .returned (.string (mkT k)) ∧ Below w.heap.size w w' := by
  have hk0 : ¬ (k : Int) ≤ 0 := by omega
  have HC := Lib.hid (show mkT k = (⟨#[109]⟩ : ByteArray) ++ mkGo k k ⟨#[]⟩ from rfl)
  go_enter Tryd.func55, Tryd.ntmps55
  go_wp2
  go_loopw [0, 3] (fun a o wr => ∃ (f q : Nat) (out : ByteArray), q ≤ k ∧ MkAt k f q out ∧ a = .int .i64 q ∧ o = .string out ∧ Below w.heap.size w wr) (fun a _ _ => (intOf a).toNat)
  case atStart => exact ⟨k, k, ⟨#[]⟩, Nat.le_refl _, ⟨rfl, Nat.le_refl _, by simp [ByteArray.size]⟩, rfl, rfl, Below.refl _ _⟩
  case round =>
    obtain ⟨f, q, out, hqk, hat, rfl, rfl, hb⟩ := hrel
    have hout : out.size ≤ 1099511627776 := by have := hat.2.2; omega
    by_cases hq : 0 < q
    · have hst := mkAt_step hat hq
      have hz := hb.size
      have hm0 : (0 : Int) ≤ (q : Int) % 10 := by omega
      have hm1 : (q : Int) % 10 ≤ 9 := by omega
      have hcv := fun W => conv_one W q
      go_wp2
      go_roundw
      case rel => exact ⟨f - 1, q / 10, _, by omega, hst, by go_num, rfl, (by repeat' (first | (with_reducible exact Below.refl _ _) | (with_reducible assumption) | (with_reducible refine below_drewN ?_ _) | (with_reducible refine Below.drew ?_) | (with_reducible refine Below.alloc ?_ ?_ _) | (with_reducible refine Below.setCell ?_ ?_ _) | go_size))⟩
      case measure => simp [intOf]; omega
    · have hst := Lib.hid (mkAt_end hat (by omega))
      go_wp2
      go_ret
      exact ⟨ret_str (by rw [HC.out, hst.out]), hb⟩
theorem markText_any (k : Int) (w : World) (h0 : 1 ≤ k) (h1 : k ≤ 1099511627776) :
    Calls Tryd.prog 55 #[.int .i64 k] w fun e w' => e = .returned (.string (mkT k)) ∧ Below w.heap.size w w' := by
  obtain ⟨n, rfl⟩ := Int.eq_ofNat_of_zero_le (show 0 ≤ k by omega)
  exact markText_nat n w (by omega) (by omega)
end Go.Proofs.YtfapdhfjcnehhaaDoor

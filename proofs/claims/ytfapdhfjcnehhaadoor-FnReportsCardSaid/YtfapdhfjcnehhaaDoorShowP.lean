
/-
  Contracts: a piece as a text, of the program (impl.splitText, ShowPiece).
-/
import Derived.Test.YtfapdhfjcnehhaaDoorPieceH
import Derived.Test.YtfapdhfjcnehhaaDoorDec
import Derived.Test.YtfapdhfjcnehhaaDoorBuilder
namespace Go.Proofs.YtfapdhfjcnehhaaDoor
open Go.RowKit
set_option linter.unusedVariables false

/-- What the first k of a list come to, one behind the other. -/
def catK {α : Type} (f : Nat → α → ByteArray) (l : List α) : Nat → List UInt8
  | 0 => []
  | k + 1 => catK f l k ++ (match l[k]? with | some d => (f k d).data.toList | none => [])
theorem catK_zero {α : Type} (f : Nat → α → ByteArray) (l : List α) : catK f l 0 = [] := rfl
theorem catK_step {α : Type} {f : Nat → α → ByteArray} {l : List α} {k : Nat} {d : α} (h : l[k]? = some d) : catK f l (k + 1) = catK f l k ++ (f k d).data.toList := by
  show catK f l k ++ _ = _
  rw [h]
theorem catK_len {α : Type} {f : Nat → α → ByteArray} {l : List α} (c : Nat) (g : α → Nat) (h : ∀ k d, l[k]? = some d → (f k d).size ≤ c + g d) (k : Nat) : (catK f l k).length ≤ c * k + sumK g l k := by
  induction k with
  | zero => simp [catK_zero]
  | succ k ih =>
    cases hd : l[k]? with
    | none =>
      have e : catK f l (k + 1) = catK f l k := by show catK f l k ++ _ = _; rw [hd]; simp
      have e2 : sumK g l (k + 1) = sumK g l k := by unfold sumK; rw [List.take_add_one, hd]; simp
      rw [e, e2, Nat.mul_succ]; omega
    | some d =>
      rw [catK_step hd, List.length_append, ba_len, sumK_succ g l k d hd, Nat.mul_succ]
      have := h k d hd
      omega
def headS (m : Int) : ByteArray := ⟨#[105, 110, 32]⟩ ++ decT m ++ ⟨#[10]⟩
def ruleS (k : Nat) (d : RuleD) : ByteArray := ⟨#[114, 117, 108, 101, 32]⟩ ++ decT d.1 ++ ⟨#[32]⟩ ++ decT d.2 ++ ⟨#[10]⟩
def splitS (r f q : Int) : ByteArray := ⟨#[32, 124]⟩ ++ decT r ++ ⟨#[62]⟩ ++ decT f ++ ⟨#[43]⟩ ++ decT q
def splitT (r f : Int) (s : Bool) (q : Int) : ByteArray := if s then splitS r f q ++ ⟨#[95]⟩ else splitS r f q
def chunkS (n k : Nat) (d : ChunkD) : ByteArray := if k + 1 < n then d.1 ++ splitT d.2.1 d.2.2.1 d.2.2.2.1 d.2.2.2.2 ++ ⟨#[10]⟩ else d.1 ++ ⟨#[10]⟩
def spanS (k : Nat) (d : SpanD) : ByteArray := ⟨#[115, 112, 97, 110, 32]⟩ ++ decT d.1 ++ ⟨#[32]⟩ ++ decT d.2.1 ++ ⟨#[32]⟩ ++ decT d.2.2 ++ ⟨#[10]⟩
def tieS (k : Nat) (d : TieD) : ByteArray := ⟨#[116, 105, 101, 32]⟩ ++ decT d.1 ++ ⟨#[32]⟩ ++ decT d.2 ++ ⟨#[10]⟩
def showL (m : Int) (l0 : List RuleD) (l1 : List ChunkD) (l2 : List SpanD) (l3 : List TieD) : List UInt8 :=
  (headS m).data.toList ++ catK ruleS l0 l0.length ++ catK (chunkS l1.length) l1 l1.length ++ catK spanS l2 l2.length ++ catK tieS l3 l3.length
def showPieceT (m : Int) (l0 : List RuleD) (l1 : List ChunkD) (l2 : List SpanD) (l3 : List TieD) : ByteArray := if pieceB m l0 l1 l2 l3 = true then ⟨(showL m l0 l1 l2 l3).toArray⟩ else ⟨#[]⟩
theorem decT_sz {n : Int} (h0 : 0 ≤ n) (h1 : n ≤ 1000) : (decT n).size ≤ 21 := decT_size n (by omega) (by omega)
theorem implDec (n : Int) (w : World) (h : 0 ≤ n ∧ n ≤ 1000) (ht : Tab w) :
    Calls Tryd.prog 45 #[.int .i64 n] w fun e w' => e = .returned (.string (decT n)) ∧ Below w.heap.size w w' := implDecimal_any n w (by omega) (by omega) ht
theorem specDec (n : Int) (w : World) (h : 0 ≤ n ∧ n ≤ 1000) :
    Calls Tryd.prog 34 #[.int .i64 n] w fun e w' => e = .returned (.string (decT n)) ∧ Below w.heap.size w w' := specDecimal_any n w h.1 (by omega)
theorem splitS_size {r f q : Int} (hr : 0 ≤ r ∧ r ≤ 1000) (hf : 0 ≤ f ∧ f ≤ 1000) (hq : 0 ≤ q ∧ q ≤ 1000) : (splitS r f q).size ≤ 70 := by
  have h1 := decT_sz hr.1 hr.2
  have h2 := decT_sz hf.1 hf.2
  have h3 := decT_sz hq.1 hq.2
  unfold splitS
  simp only [ByteArray.size_append, size_mk, List.length_cons, List.length_nil]
  omega
set_option maxRecDepth 100000 in
set_option maxHeartbeats 1600000 in
theorem splitText_any (r f : Int) (s : Bool) (q : Int) (w : World) (hr : 0 ≤ r ∧ r ≤ 1000) (hf : 0 ≤ f ∧ f ≤ 1000) (hq : 0 ≤ q ∧ q ≤ 1000) (hT : Tab w) :
    Calls Tryd.prog 59 #[.agg #[.int .i64 r, .int .i64 f, .bool s, .int .i64 q]] w fun e w' => e = .returned (.string (splitT r f s q)) ∧ Below w.heap.size w w' := by
  have z0 := decT_sz hr.1 hr.2
  have z1 := decT_sz hf.1 hf.2
  have z2 := decT_sz hq.1 hq.2
  have HT := Lib.hid (fun (W : World) (hW : Below w.heap.size w W) => (hT.next hW : Tab W))
  have HE : Hid (splitT r f s q = if s then splitS r f q ++ ⟨#[95]⟩ else splitS r f q) := rfl
  have HE2 : Hid (splitS r f q = (⟨#[32, 124]⟩ ++ decT r ++ ⟨#[62]⟩ ++ decT f ++ ⟨#[43]⟩ ++ decT q)) := rfl
  clear hT
  have n0 : ¬ 9223372036854775807 < 2 + (decT r).size := by omega
  have n1 : ¬ 9223372036854775807 < 2 + (decT r).size + 1 := by omega
  have n2 : ¬ 9223372036854775807 < 2 + (decT r).size + 1 + (decT f).size := by omega
  have n3 : ¬ 9223372036854775807 < 2 + (decT r).size + 1 + (decT f).size + 1 := by omega
  have n4 : ¬ 9223372036854775807 < 2 + (decT r).size + 1 + (decT f).size + 1 + (decT q).size := by omega
  have n5 : ¬ 9223372036854775807 < (splitS r f q).size + 1 := by have := splitS_size hr hf hq; omega
  go_enter Tryd.func59, Tryd.ntmps59
  go_upto_region 1 with fail
  obtain ⟨wv, hwv⟩ : ∃ wv, wv = w.alloc (.cells #[.int .i64 r, .int .i64 f, .bool s, .int .i64 q] 94) := ⟨_, rfl⟩
  rw [← hwv]
  have V : Blk wv w.heap.size 94 #[.int .i64 r, .int .i64 f, .bool s, .int .i64 q] := by rw [hwv]; exact Blk.new _ _ _
  have hv : Below w.heap.size w wv := by rw [hwv]; exact (by repeat' (first | (with_reducible exact Below.refl _ _) | (with_reducible assumption) | (with_reducible refine below_drewN ?_ _) | (with_reducible refine Below.drew ?_) | (with_reducible refine Below.alloc ?_ ?_ _) | (with_reducible refine Below.setCell ?_ ?_ _) | go_size))
  clear hwv
  have v0 : wv.cell? ⟨w.heap.size, 0, none⟩ = some (.int .i64 r) := V.cell 0
  have v1 : wv.cell? ⟨w.heap.size, 1, none⟩ = some (.int .i64 f) := V.cell 1
  have v3 : wv.cell? ⟨w.heap.size, 3, none⟩ = some (.int .i64 q) := V.cell 3
  have zV := V.lt
  go_cut [3] (fun x wx => x = .string (splitS r f q) ∧ Below wv.heap.size wv wx)
  case first =>
    go_region_held3 (fun w' => w'.cell? ⟨w.heap.size, 0, none⟩ = some (.int .i64 r) ∧ w'.cell? ⟨w.heap.size, 1, none⟩ = some (.int .i64 f) ∧ w'.cell? ⟨w.heap.size, 3, none⟩ = some (.int .i64 q))
      (first | exact ⟨v0, v1, v3⟩ | exact ⟨u0, u1, u3⟩)
      ((go_at_call 45
        refine (implDec _ _ (by assumption) (HT.out _ (below_next hv (by repeat' (first | (with_reducible exact Below.refl _ _) | (with_reducible assumption) | (with_reducible refine below_drewN ?_ _) | (with_reducible refine Below.drew ?_) | (with_reducible refine Below.alloc ?_ ?_ _) | (with_reducible refine Below.setCell ?_ ?_ _) | go_size))))).mono ?_
        rintro e w8 ⟨rfl, h8⟩
        have q8 : Below wv.heap.size wv w8 := below_next (by repeat' (first | (with_reducible exact Below.refl _ _) | (with_reducible assumption) | (with_reducible refine below_drewN ?_ _) | (with_reducible refine Below.drew ?_) | (with_reducible refine Below.alloc ?_ ?_ _) | (with_reducible refine Below.setCell ?_ ?_ _) | go_size)) h8
        have u0 := ((bcell q8).1 _ _ zV).trans v0
        have u1 := ((bcell q8).1 _ _ zV).trans v1
        have u3 := ((bcell q8).1 _ _ zV).trans v3))
    all_goals (go_wp2_with fail; go_meet; exact ⟨by rw [HE2.out], q8⟩)
  case rest =>
    obtain ⟨rfl, h2⟩ := hcut
    have hb2 := below_next hv h2
    have v2 := (V.next h2).cell
    have zV2 := (V.next h2).lt
    clear v0 v1 v3 V
    cases s with
    | true =>
      have HF := Lib.hid (show splitS r f q ++ ⟨#[95]⟩ = splitT r f true q by rw [HE.out]; rfl)
      go_wp2
      go_ret
      exact ⟨ret_str HF.out, hb2⟩
    | false =>
      have HF := Lib.hid (show splitS r f q = splitT r f false q by rw [HE.out]; rfl)
      go_wp2
      go_ret
      exact ⟨ret_str HF.out, hb2⟩
end Go.Proofs.YtfapdhfjcnehhaaDoor

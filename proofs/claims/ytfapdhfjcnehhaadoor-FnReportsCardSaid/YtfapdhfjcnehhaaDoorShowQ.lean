
/-
  Contracts: a piece as a text, of the program (impl.ShowPiece).
-/
import Derived.Test.YtfapdhfjcnehhaaDoorShowP
import Derived.Deep.RegionHeld3
namespace Go.Proofs.YtfapdhfjcnehhaaDoor
open Go.RowKit
set_option linter.unusedVariables false

theorem inB_k {a b c : Int} (h : inB a b c = true) (hb : 0 ≤ b) (hc : c ≤ 1000) : 0 ≤ a ∧ a ≤ 1000 := by
  have := inB_ge h
  omega
/-- What is known of a right piece. -/
structure Right (m : Int) (n0 : Nat) (l0 : List RuleD) (n1 : Nat) (l1 : List ChunkD) (n2 : Nat) (l2 : List SpanD) (n3 : Nat) (l3 : List TieD) : Prop where
  b0 : n0 ≤ 8
  b1 : 1 ≤ n1 ∧ n1 ≤ 80
  b2 : n2 ≤ 40
  b3 : n3 ≤ 20
  m0 : 0 ≤ m ∧ m ≤ 1000
  r : ∀ (k : Nat) (d : RuleD), l0[k]? = some d → (0 ≤ d.1 ∧ d.1 ≤ 1000) ∧ (0 ≤ d.2 ∧ d.2 ≤ 1000)
  c : ∀ (k : Nat) (d : ChunkD), l1[k]? = some d → k + 1 < n1 → (0 ≤ d.2.1 ∧ d.2.1 ≤ 1000) ∧ (0 ≤ d.2.2.1 ∧ d.2.2.1 ≤ 1000) ∧ (0 ≤ d.2.2.2.2 ∧ d.2.2.2.2 ≤ 1000)
  s : ∀ (k : Nat) (d : SpanD), l2[k]? = some d → (0 ≤ d.1 ∧ d.1 ≤ 1000) ∧ (0 ≤ d.2.1 ∧ d.2.1 ≤ 1000) ∧ (0 ≤ d.2.2 ∧ d.2.2 ≤ 1000)
  t : ∀ (k : Nat) (d : TieD), l3[k]? = some d → (0 ≤ d.1 ∧ d.1 ≤ 1000) ∧ (0 ≤ d.2 ∧ d.2 ≤ 1000)
theorem right_of {m : Int} {l0 : List RuleD} {l1 : List ChunkD} {l2 : List SpanD} {l3 : List TieD} {n0 n1 n2 n3 : Nat} (h : pieceB m l0 l1 l2 l3 = true) (hl : LenP n0 l0 n1 l1 n2 l2 n3 l3) : Right m n0 l0 n1 l1 n2 l2 n3 l3 := by
  obtain ⟨rfl, rfl, rfl, rfl⟩ := hl
  rw [pieceB_eq] at h
  simp only [Bool.and_eq_true, decide_eq_true_eq] at h
  obtain ⟨h0, h1, h2, h3, h4, h5, h6, h7, h8, h9⟩ := h
  have q := inB_ge h2
  refine ⟨h1, by omega, h3, h4, inB_k h0 (by omega) (by omega), fun k d hd => ?_, fun k d hd hk => ?_, fun k d hd => ?_, fun k d hd => ?_⟩
  · have hx := allIx_at h5 hd
    unfold ruleB at hx
    rw [Bool.and_eq_true] at hx
    exact ⟨inB_k hx.1 (by omega) (by omega), inB_k hx.2 (by omega) (by omega)⟩
  · have hx := allIx_at h6 hd
    unfold chunkB at hx
    rw [decide_eq_false (by omega), Bool.false_or, Bool.and_eq_true] at hx
    have hy := hx.2
    unfold splitB at hy
    rw [Bool.and_eq_true, Bool.and_eq_true] at hy
    have y0 := inB_ge hy.1.1
    refine ⟨by omega, ?_, inB_k hy.1.2 (by omega) (by omega)⟩
    obtain ⟨q, hq⟩ := Int.eq_ofNat_of_zero_le y0.1
    have hz := hy.2
    rw [hq] at hz y0
    obtain ⟨⟨x0, x1⟩, he⟩ : ∃ e, l0[q]? = some e := ⟨_, List.getElem?_eq_getElem (by omega)⟩
    rw [fromB_at he] at hz
    have hr := allIx_at h5 he
    unfold ruleB at hr
    rw [Bool.and_eq_true] at hr
    have := inB_ge hr.1
    exact inB_k hz (by omega) (by omega)
  · have hx := allIx_at h8 hd
    obtain ⟨x0, x1, x2⟩ := d
    unfold spanB at hx
    simp only [Bool.and_eq_true, decide_eq_true_eq] at hx
    obtain ⟨y0, y1, y2, y3⟩ := hx
    exact ⟨by dsimp only; omega, by dsimp only; omega, inB_k y3 (by omega) (by omega)⟩
  · have hx := allIx_at h9 hd
    unfold tieB at hx
    simp only [Bool.and_eq_true] at hx
    exact ⟨inB_k hx.1 (by omega) (by omega), inB_k hx.2.1 (by omega) (by omega)⟩
theorem sumK_none {α : Type} (l : List α) (k : Nat) : sumK (fun _ => 0) l k = 0 := by
  unfold sumK
  induction l.take k with
  | nil => rfl
  | cons x l ih => simp only [List.map_cons, List.sum_cons, ih]
theorem headS_size {m : Int} (h : 0 ≤ m ∧ m ≤ 1000) : (headS m).size ≤ 30 := by
  have h1 := decT_sz h.1 h.2
  unfold headS
  simp only [ByteArray.size_append, size_mk, List.length_cons, List.length_nil]
  omega
theorem ruleS_size {k : Nat} {d : RuleD} (h : (0 ≤ d.1 ∧ d.1 ≤ 1000) ∧ (0 ≤ d.2 ∧ d.2 ≤ 1000)) : (ruleS k d).size ≤ 64 := by
  have h1 := decT_sz h.1.1 h.1.2
  have h2 := decT_sz h.2.1 h.2.2
  unfold ruleS
  simp only [ByteArray.size_append, size_mk, List.length_cons, List.length_nil]
  omega
theorem tieS_size {k : Nat} {d : TieD} (h : (0 ≤ d.1 ∧ d.1 ≤ 1000) ∧ (0 ≤ d.2 ∧ d.2 ≤ 1000)) : (tieS k d).size ≤ 64 := by
  have h1 := decT_sz h.1.1 h.1.2
  have h2 := decT_sz h.2.1 h.2.2
  unfold tieS
  simp only [ByteArray.size_append, size_mk, List.length_cons, List.length_nil]
  omega
theorem spanS_size {k : Nat} {d : SpanD} (h : (0 ≤ d.1 ∧ d.1 ≤ 1000) ∧ (0 ≤ d.2.1 ∧ d.2.1 ≤ 1000) ∧ (0 ≤ d.2.2 ∧ d.2.2 ≤ 1000)) : (spanS k d).size ≤ 80 := by
  have h1 := decT_sz h.1.1 h.1.2
  have h2 := decT_sz h.2.1.1 h.2.1.2
  have h3 := decT_sz h.2.2.1 h.2.2.2
  unfold spanS
  simp only [ByteArray.size_append, size_mk, List.length_cons, List.length_nil]
  omega
theorem splitT_size {r f q : Int} (s : Bool) (hr : 0 ≤ r ∧ r ≤ 1000) (hf : 0 ≤ f ∧ f ≤ 1000) (hq : 0 ≤ q ∧ q ≤ 1000) : (splitT r f s q).size ≤ 71 := by
  have h1 := splitS_size hr hf hq
  unfold splitT
  split
  · simp only [ByteArray.size_append, size_mk, List.length_cons, List.length_nil]; omega
  · omega
theorem chunkS_size {n k : Nat} {d : ChunkD} (h : k + 1 < n → (0 ≤ d.2.1 ∧ d.2.1 ≤ 1000) ∧ (0 ≤ d.2.2.1 ∧ d.2.2.1 ≤ 1000) ∧ (0 ≤ d.2.2.2.2 ∧ d.2.2.2.2 ≤ 1000)) : (chunkS n k d).size ≤ 80 + szChunk d := by
  have e : szChunk d = d.1.size := rfl
  unfold chunkS
  split
  · rename_i hk
    obtain ⟨a, b, c⟩ := h hk
    have h1 := splitT_size d.2.2.2.1 a b c
    simp only [ByteArray.size_append, size_mk, List.length_cons, List.length_nil]; omega
  · simp only [ByteArray.size_append, size_mk, List.length_cons, List.length_nil]; omega
section
variable {m : Int} {l0 : List RuleD} {l1 : List ChunkD} {l2 : List SpanD} {l3 : List TieD} {n0 n1 n2 n3 : Nat}
theorem Right.lr (h : Right m n0 l0 n1 l1 n2 l2 n3 l3) {k : Nat} (hk : k ≤ n0) : (catK ruleS l0 k).length ≤ 512 := by
  have := catK_len (f := ruleS) (l := l0) 64 (fun _ => 0) (fun k d hd => by have := ruleS_size (k := k) (h.r k d hd); omega) k
  rw [sumK_none] at this
  have := h.b0
  omega
theorem Right.ls (h : Right m n0 l0 n1 l1 n2 l2 n3 l3) {k : Nat} (hk : k ≤ n2) : (catK spanS l2 k).length ≤ 3200 := by
  have := catK_len (f := spanS) (l := l2) 80 (fun _ => 0) (fun k d hd => by have := spanS_size (k := k) (h.s k d hd); omega) k
  rw [sumK_none] at this
  have := h.b2
  omega
theorem Right.lt (h : Right m n0 l0 n1 l1 n2 l2 n3 l3) {k : Nat} (hk : k ≤ n3) : (catK tieS l3 k).length ≤ 1280 := by
  have := catK_len (f := tieS) (l := l3) 64 (fun _ => 0) (fun k d hd => by have := tieS_size (k := k) (h.t k d hd); omega) k
  rw [sumK_none] at this
  have := h.b3
  omega
theorem Right.lc (h : Right m n0 l0 n1 l1 n2 l2 n3 l3) (hz : (l1.map szChunk).sum ≤ 1048576) {k : Nat} (hk : k ≤ n1) : (catK (chunkS n1) l1 k).length ≤ 1055000 := by
  have := catK_len (f := chunkS n1) (l := l1) 80 szChunk (fun k d hd => chunkS_size (fun hk => h.c k d hd hk)) k
  have := sumK_le szChunk l1 k
  have := h.b1
  omega
end
set_option maxRecDepth 100000 in
set_option maxHeartbeats 6400000 in
theorem implShowPiece_any (m : Int) (A0 : Option Addr) (n0 c0 : Nat) (l0 : List RuleD) (A1 : Option Addr) (n1 c1 : Nat) (l1 : List ChunkD) (A2 : Option Addr) (n2 c2 : Nat) (l2 : List SpanD) (A3 : Option Addr) (n3 c3 : Nat) (l3 : List TieD) (w : World) (hl : Hid (LenP n0 l0 n1 l1 n2 l2 n3 l3)) (hr : RdP w A0 n0 l0 A1 n1 l1 A2 n2 l2 A3 n3 l3) (hn : n0 ≤ 1048576 ∧ n1 ≤ 1048576 ∧ n2 ≤ 1048576 ∧ n3 ≤ 1048576) (hs : Hid (∀ d ∈ l1, d.1.size ≤ maxLen)) (hz : Hid ((l1.map szChunk).sum ≤ 1048576)) (hT : Tab w) :
    Calls Tryd.prog 28 #[.agg #[.int .i64 m, .slice A0 n0 c0, .slice A1 n1 c1, .slice A2 n2 c2, .slice A3 n3 c3]] w fun e w' => e = .returned (.string (showPieceT m l0 l1 l2 l3)) ∧ Below w.heap.size w w' := by
  have HR := Lib.hid (fun W (hW : Below w.heap.size w W) => hr.next hW)
  have HT := Lib.hid (fun (W : World) (hW : Below w.heap.size w W) => (hT.next hW : Tab W))
  have HP := Lib.hid (fun (b : Bool) (hb : pieceB m l0 l1 l2 l3 = b) (W : World) (hR : RdP W A0 n0 l0 A1 n1 l1 A2 n2 l2 A3 n3 l3) => show Calls Tryd.prog 58 #[.agg #[.int .i64 m, .slice A0 n0 c0, .slice A1 n1 c1, .slice A2 n2 c2, .slice A3 n3 c3]] W fun e w' => e = .returned (.bool b) ∧ Below W.heap.size W w' by rw [← hb]; exact implPieceOk_any m A0 n0 c0 l0 A1 n1 c1 l1 A2 n2 c2 l2 A3 n3 c3 l3 W hl hR hn hs)
  have HE : Hid (showPieceT m l0 l1 l2 l3 = if pieceB m l0 l1 l2 l3 = true then ⟨(showL m l0 l1 l2 l3).toArray⟩ else ⟨#[]⟩) := rfl
  clear hr hT
  cases hp : pieceB m l0 l1 l2 l3 with
  | false =>
    have H := Lib.hid (HP.out _ hp)
    have HF := Lib.hid (show showPieceT m l0 l1 l2 l3 = ⟨#[]⟩ by rw [HE.out, hp]; rfl)
    clear HP HE hp
    go_enter Tryd.func28, Tryd.ntmps28
    go_wp2_with fail
    refine (H.out _ (HR.out _ (by repeat' (first | (with_reducible exact Below.refl _ _) | (with_reducible assumption) | (with_reducible refine below_drewN ?_ _) | (with_reducible refine Below.drew ?_) | (with_reducible refine Below.alloc ?_ ?_ _) | (with_reducible refine Below.setCell ?_ ?_ _) | go_size)))).mono ?_
    rintro e w2 ⟨rfl, h2⟩
    have hb := below_next1 (Below.refl _ _) h2
    go_wp2
    go_ret
    exact ⟨ret_str HF.out.symm, hb⟩
  | true =>
    have H := Lib.hid (HP.out _ hp)
    have RG := Lib.hid (right_of hp hl.out)
    have HF : Hid (showPieceT m l0 l1 l2 l3 = ⟨((headS m).data.toList ++ catK ruleS l0 n0 ++ catK (chunkS n1) l1 n1 ++ catK spanS l2 n2 ++ catK tieS l3 n3).toArray⟩) := by
      obtain ⟨e0, e1, e2, e3⟩ := hl.out
      exact Lib.hid (by rw [HE.out, if_pos hp]; unfold showL; rw [e0, e1, e2, e3])
    clear HP HE hp
    have hm := RG.out.m0
    have zm := decT_sz hm.1 hm.2
    have s0 : ¬ 9223372036854775807 < 3 + (decT m).size := by omega
    have s1 : ¬ 9223372036854775807 < 3 + (decT m).size + 1 := by omega
    go_enter Tryd.func28, Tryd.ntmps28
    go_wp2_with fail
    refine (H.out _ (HR.out _ (by repeat' (first | (with_reducible exact Below.refl _ _) | (with_reducible assumption) | (with_reducible refine below_drewN ?_ _) | (with_reducible refine Below.drew ?_) | (with_reducible refine Below.alloc ?_ ?_ _) | (with_reducible refine Below.setCell ?_ ?_ _) | go_size)))).mono ?_
    rintro e w2 ⟨rfl, h2⟩
    have hb := below_next1 (Below.refl _ _) h2
    have K := Blk.fresh h2
    have cK := K.cell
    have zK := K.lt
    clear h2
    go_wp2_with fail
    refine (implDec m _ hm (HT.out _ (by repeat' (first | (with_reducible exact Below.refl _ _) | (with_reducible assumption) | (with_reducible refine below_drewN ?_ _) | (with_reducible refine Below.drew ?_) | (with_reducible refine Below.alloc ?_ ?_ _) | (with_reducible refine Below.setCell ?_ ?_ _) | go_size)))).mono ?_
    rintro e w3 ⟨rfl, h3⟩
    have HB := (Bld.fresh w2 (B := w2.heap.size) (Nat.le_refl _)).next h3
    have hgz : w2.heap.size < w3.heap.size := by have := h3.size; simp at this; omega
    obtain ⟨gB, hgB⟩ : ∃ gB, gB = w2.heap.size := ⟨_, rfl⟩
    rw [← hgB] at HB hgz ⊢
    have hgw : w.heap.size < gB := by omega
    have HG := Lib.hid hgB
    replace K := K.next1 h3
    replace hb := below_next1 hb h3
    clear hgB h3 cK zK
    have hl0 := Lib.hid (show ([] : List UInt8).length + (headS m).size ≤ 140737488355328 by have := headS_size hm; simp only [List.length_nil]; omega)
    go_wp2_with fail
    refine (bldStr gB gB _ _ _ HB (by exact hl0.out) (by omega)).mono ?_
    rintro e w4 ⟨rfl, HB4, h4, hk4⟩
    replace K := K.below h4 hgw
    replace hb := hb.trans (h4.mono (by omega))
    replace hgz : gB < w4.heap.size := by have := h4.size; omega
    obtain ⟨P, hP⟩ : ∃ P, P = (headS m).data.toList := ⟨_, rfl⟩
    have HPP := Lib.hid hP
    have hPl : P.length ≤ 30 := by rw [hP, ba_len]; exact headS_size hm
    clear HB
    have HB : Bld w4 gB gB P := by rw [hP]; exact HB4
    clear hP HB4 h4 hk4 s0 s1
    have cK := K.cell
    have zK := K.lt
    go_wp2
    clear cK zK
    go_loopw [24] (fun i wr => ∃ k : Nat, k ≤ n0 ∧ i = .int .i64 k ∧ Bld wr gB gB (P ++ catK ruleS l0 k) ∧ gB < wr.heap.size ∧ Blk wr w.heap.size 52 #[.int .i64 m, .slice A0 n0 c0, .slice A1 n1 c1, .slice A2 n2 c2, .slice A3 n3 c3] ∧ Below w.heap.size w wr) (fun i _ => n0 - (intOf i).toNat)
    case atStart => exact ⟨0, Nat.zero_le _, rfl, (by rw [catK_zero, List.append_nil]; exact HB), hgz, K, hb⟩
    case round =>
    clear HB hgz K hb
    obtain ⟨k, hk, rfl, HB, hgz, K, hb⟩ := hrel
    by_cases hlt : k < n0
    · obtain ⟨⟨x0, x1⟩, hd⟩ : ∃ d, l0[k]? = some d := ⟨_, List.getElem?_eq_getElem (by have := hl.out.1; omega)⟩
      obtain ⟨b, off, hA, hblt, y0, y1⟩ := rule_at (HR.out _ hb).1 hlt hd
      have hst := Lib.hid (catK_step (f := ruleS) hd)
      have hx := RG.out.r k _ hd
      have hlen := Lib.hid (show (P ++ catK ruleS l0 k).length + (ruleS k (x0, x1)).size ≤ 140737488355328 by have h1 := RG.out.lr hk; have h2 := ruleS_size (k := k) hx; rw [List.length_append]; omega)
      have hx0 : 0 ≤ x0 ∧ x0 ≤ 1000 := hx.1
      have hx1 : 0 ≤ x1 ∧ x1 ≤ 1000 := hx.2
      have zx0 := decT_sz hx0.1 hx0.2
      have zx1 := decT_sz hx1.1 hx1.2
      have s0 : ¬ 9223372036854775807 < 5 + (decT x0).size := by omega
      have s1 : ¬ 9223372036854775807 < 5 + (decT x0).size + 1 := by omega
      have s2 : ¬ 9223372036854775807 < 5 + (decT x0).size + 1 + (decT x1).size := by omega
      have s3 : ¬ 9223372036854775807 < 5 + (decT x0).size + 1 + (decT x1).size + 1 := by omega
      subst hA
      have hz := hb.size
      clear hx hd
      go_upto_region 8 with fail
      obtain ⟨wv, hwv⟩ : ∃ wv, wv = wr.alloc (.cells #[.int .i64 x0, .int .i64 x1] 92) := ⟨_, rfl⟩
      rw [← hwv]
      have V : Blk wv wr.heap.size 92 #[.int .i64 x0, .int .i64 x1] := by rw [hwv]; exact Blk.new _ _ _
      have hv : Below wr.heap.size wr wv := by rw [hwv]; exact (by repeat' (first | (with_reducible exact Below.refl _ _) | (with_reducible assumption) | (with_reducible refine below_drewN ?_ _) | (with_reducible refine Below.drew ?_) | (with_reducible refine Below.alloc ?_ ?_ _) | (with_reducible refine Below.setCell ?_ ?_ _) | go_size))
      clear hwv
      have HBv := Lib.hid (fun (W : World) (hW : Below wv.heap.size wv W) => ((HB.next hv).next hW : Bld W gB gB (P ++ catK ruleS l0 k)))
      have v0 : wv.cell? ⟨wr.heap.size, 0, none⟩ = some (.int .i64 x0) := V.cell 0
      have v1 : wv.cell? ⟨wr.heap.size, 1, none⟩ = some (.int .i64 x1) := V.cell 1
      have zV := V.lt
      have hvw : Below w.heap.size w wv := below_next hb hv
      have hvs := hv.size
      clear y0 y1
      go_region_held3 (fun w' => w'.cell? ⟨wr.heap.size, 0, none⟩ = some (.int .i64 x0) ∧ w'.cell? ⟨wr.heap.size, 1, none⟩ = some (.int .i64 x1))
        (first | exact ⟨v0, v1⟩ | exact ⟨u0, u1⟩)
        (first
          | (go_at_call 45
             refine (implDec _ _ (by assumption) (HT.out _ (below_next hvw (by repeat' (first | (with_reducible exact Below.refl _ _) | (with_reducible assumption) | (with_reducible refine below_drewN ?_ _) | (with_reducible refine Below.drew ?_) | (with_reducible refine Below.alloc ?_ ?_ _) | (with_reducible refine Below.setCell ?_ ?_ _) | go_size))))).mono ?_
             rintro e w8 ⟨rfl, h8⟩
             have q8 : Below wv.heap.size wv w8 := below_next (by repeat' (first | (with_reducible exact Below.refl _ _) | (with_reducible assumption) | (with_reducible refine below_drewN ?_ _) | (with_reducible refine Below.drew ?_) | (with_reducible refine Below.alloc ?_ ?_ _) | (with_reducible refine Below.setCell ?_ ?_ _) | go_size)) h8
             have V8 := V.next q8
             have u0 : w8.cell? ⟨wr.heap.size, 0, none⟩ = some (.int .i64 x0) := V8.cell 0
             have u1 : w8.cell? ⟨wr.heap.size, 1, none⟩ = some (.int .i64 x1) := V8.cell 1)
          | (go_at_call 51
             refine (bldStr gB gB _ _ _ (HBv.out _ (by repeat' (first | (with_reducible exact Below.refl _ _) | (with_reducible assumption) | (with_reducible refine below_drewN ?_ _) | (with_reducible refine Below.drew ?_) | (with_reducible refine Below.alloc ?_ ?_ _) | (with_reducible refine Below.setCell ?_ ?_ _) | go_size))) (by exact hlen.out) (by have := q8.size; omega)).mono ?_
             rintro e w7 ⟨rfl, HB7, h7, hk7⟩
             have hwz : gB ≤ w8.heap.size := by have := q8.size; omega
             have q7 : Below gB w8 w7 := by first | exact h7 | exact (Below.refl _ _).drew.trans h7
             have V7 := V8.kept hk7 (by decide) (by omega)
             have u0 : w7.cell? ⟨wr.heap.size, 0, none⟩ = some (.int .i64 x0) := V7.cell 0
             have u1 : w7.cell? ⟨wr.heap.size, 1, none⟩ = some (.int .i64 x1) := V7.cell 1))
      all_goals
        have K7 := ((K.next hv).next q8).below q7 hgw
        have hb7 : Below w.heap.size w w7 := (below_next hvw q8).trans (q7.mono (by omega))
        have hz7 : gB < w7.heap.size := by have := q7.size; have := q8.size; omega
        go_wp2_with fail
        go_roundw
        case rel => exact ⟨k + 1, by omega, by go_num, (by rw [hst.out, ← List.append_assoc]; exact HB7), hz7, K7, hb7⟩
        case measure => simp [intOf]; omega
    obtain rfl : n0 = k := by omega
    have cK := K.cell
    have zK := K.lt
    obtain ⟨P2, hP2⟩ : ∃ P2, P2 = P ++ catK ruleS l0 n0 := ⟨_, rfl⟩
    have HPP1 := Lib.hid hP2
    have hPl2 : P2.length ≤ 600 := by rw [hP2, List.length_append]; have := RG.out.lr hk; omega
    have HB2 : Bld wr gB gB P2 := by rw [hP2]; exact HB
    clear hP2 HB
    have HB := HB2
    clear HB2 hPl
    have hPl := hPl2
    clear hPl2
    obtain ⟨P, hPP⟩ : ∃ P, P = P2 := ⟨_, rfl⟩
    subst hPP
    go_wp2
    clear cK zK
    obtain ⟨wO, hwO⟩ : ∃ wO, wO = wr := ⟨_, rfl⟩
    subst hwO
    go_loopw [6, 43] (fun _ i wr => ∃ k : Nat, k ≤ n1 ∧ i = .int .i64 k ∧ Bld wr gB gB (P ++ catK (chunkS n1) l1 k) ∧ gB < wr.heap.size ∧ Blk wr w.heap.size 52 #[.int .i64 m, .slice A0 n0 c0, .slice A1 n1 c1, .slice A2 n2 c2, .slice A3 n3 c3] ∧ Below w.heap.size w wr) (fun _ i _ => n1 - (intOf i).toNat)
    case atStart => exact ⟨0, Nat.zero_le _, rfl, (by rw [catK_zero, List.append_nil]; exact HB), hgz, K, hb⟩
    case round =>
    clear HB hgz K hb
    obtain ⟨k, hk, rfl, HB, hgz, K, hb⟩ := hrel
    by_cases hlt : k < n1
    · obtain ⟨⟨x0, x1, x2, x3, x4⟩, hd⟩ : ∃ d, l1[k]? = some d := ⟨_, List.getElem?_eq_getElem (by have := hl.out.2.1; omega)⟩
      obtain ⟨b, off, hA, hblt, y0, y1, y2, y3, y4⟩ := chunk_at (HR.out _ hb).2.1 hlt hd
      have hst := Lib.hid (catK_step (f := chunkS n1) hd)
      have HX := Lib.hid (RG.out.c k _ hd)
      have hxl : x0.size ≤ 1048576 := by
        have h1 := mem_le_sum szChunk (List.mem_of_getElem? hd)
        have h2 := hz.out
        have e : szChunk (x0, x1, x2, x3, x4) = x0.size := rfl
        omega
      have hcl := RG.out.lc hz.out hk
      subst hA
      have hzz := hb.size
      clear hd
      have V := Blk.new wr 96 #[.string x0, .int .i64 x1, .int .i64 x2, .bool x3, .int .i64 x4]
      go_wp2_with fail
      refine (bldStr gB gB _ _ _ (HB.alloc _) (by rw [List.length_append]; omega) (by simp; omega)).mono ?_
      rintro e w4 ⟨rfl, HB4, h4, hk4⟩
      have K4 := (K.alloc (.cells #[.string x0, .int .i64 x1, .int .i64 x2, .bool x3, .int .i64 x4] 96)).below h4 hgw
      have V4 := V.kept hk4 (by decide) (by omega)
      have hb4 : Below w.heap.size w w4 := (hb.alloc hb.size _).trans (h4.mono (by omega))
      have hz4 : wr.heap.size + 1 ≤ w4.heap.size := by have := h4.size; simp at this; omega
      have cK := K4.cell
      have zK := K4.lt
      have cV := V4.cell
      have zV := V4.lt
      clear HB K V h4 hk4 hb y0 y1 y2 y3 y4 hblt
      by_cases hlast : k + 1 < n1
      · have hq : (k : Int) < (n1 : Int) - 1 := by omega
        obtain ⟨p0, p1, p2⟩ := HX.out hlast
        have hsl := splitT_size x3 p0 p1 p2
        have hfin := Lib.hid (show (chunkS n1 k (x0, x1, x2, x3, x4)).data.toList = x0.data.toList ++ (splitT x1 x2 x3 x4).data.toList ++ [10] by unfold chunkS; rw [if_pos hlast, ba_app, ba_app])
        have HSp := Lib.hid (fun W y => splitText_any x1 x2 x3 x4 W p0 p1 p2 y)
        clear p0 p1 p2
        go_wp2_with fail
        refine (HSp.out _ (HT.out _ hb4)).mono ?_
        rintro e w5 ⟨rfl, h5⟩
        have K5 := K4.next h5
        have HB5 := HB4.next h5
        have hb5 := below_next hb4 h5
        have hz5 := h5.size
        clear cK zK cV zV K4 V4 HB4 hb4 h5
        go_wp2_with fail
        refine (bldStr gB gB _ _ _ HB5 (by simp only [List.length_append, ba_len]; omega) (by omega)).mono ?_
        rintro e w6 ⟨rfl, HB6, h6, hk6⟩
        have K6 := K5.below h6 hgw
        have hb6 : Below w.heap.size w w6 := hb5.trans (h6.mono (by omega))
        have hz6 := h6.size
        clear K5 HB5 hb5 h6 hk6
        go_wp2_with fail
        refine (bldByte gB gB _ 10 _ HB6 (by simp only [List.length_append, ba_len]; omega) (by omega)).mono ?_
        rintro e w7 ⟨rfl, HB7, h7, hk7⟩
        have K7 := K6.below h7 hgw
        have hb7 : Below w.heap.size w w7 := hb6.trans (h7.mono (by omega))
        have hz7 : gB < w7.heap.size := by have := h7.size; omega
        clear K6 HB6 hb6 h7 hk7
        go_wp2_with fail
        go_roundw
        case rel => exact ⟨k + 1, by omega, by go_num, (by rw [hst.out, hfin.out]; simpa only [List.append_assoc] using HB7), hz7, K7, hb7⟩
        case measure => simp [intOf]; omega
      · have hq : ¬ ((k : Int) < (n1 : Int) - 1) := by omega
        have hfin := Lib.hid (show (chunkS n1 k (x0, x1, x2, x3, x4)).data.toList = x0.data.toList ++ [10] by unfold chunkS; rw [if_neg hlast, ba_app])
        go_wp2_with fail
        refine (bldByte gB gB _ 10 _ HB4 (by simp only [List.length_append, ba_len]; omega) (by omega)).mono ?_
        rintro e w7 ⟨rfl, HB7, h7, hk7⟩
        have K7 := K4.below h7 hgw
        have hb7 : Below w.heap.size w w7 := hb4.trans (h7.mono (by omega))
        have hz7 : gB < w7.heap.size := by have := h7.size; omega
        clear K4 HB4 hb4 h7 hk7 cK zK cV zV V4
        go_wp2_with fail
        go_roundw
        case rel => exact ⟨k + 1, by omega, by go_num, (by rw [hst.out, hfin.out]; simpa only [List.append_assoc] using HB7), hz7, K7, hb7⟩
        case measure => simp [intOf]; omega
    obtain rfl : n1 = k := by omega
    have cK := K.cell
    have zK := K.lt
    obtain ⟨P2, hP2⟩ : ∃ P2, P2 = P ++ catK (chunkS n1) l1 n1 := ⟨_, rfl⟩
    have HPP2 := Lib.hid hP2
    have hPl2 : P2.length ≤ 1056000 := by rw [hP2, List.length_append]; have := RG.out.lc hz.out hk; omega
    have HB2 : Bld wr gB gB P2 := by rw [hP2]; exact HB
    clear hP2 HB
    have HB := HB2
    clear HB2 hPl
    have hPl := hPl2
    clear hPl2
    obtain ⟨P, hPP⟩ : ∃ P, P = P2 := ⟨_, rfl⟩
    subst hPP
    go_wp2
    clear cK zK
    obtain ⟨wP, hwP⟩ : ∃ wP, wP = wr := ⟨_, rfl⟩
    subst hwP
    go_loopw [66] (fun i wr => ∃ k : Nat, k ≤ n2 ∧ i = .int .i64 k ∧ Bld wr gB gB (P ++ catK spanS l2 k) ∧ gB < wr.heap.size ∧ Blk wr w.heap.size 52 #[.int .i64 m, .slice A0 n0 c0, .slice A1 n1 c1, .slice A2 n2 c2, .slice A3 n3 c3] ∧ Below w.heap.size w wr) (fun i _ => n2 - (intOf i).toNat)
    case atStart => exact ⟨0, Nat.zero_le _, rfl, (by rw [catK_zero, List.append_nil]; exact HB), hgz, K, hb⟩
    case round =>
    clear HB hgz K hb
    obtain ⟨k, hk, rfl, HB, hgz, K, hb⟩ := hrel
    by_cases hlt : k < n2
    · obtain ⟨⟨x0, x1, x2⟩, hd⟩ : ∃ d, l2[k]? = some d := ⟨_, List.getElem?_eq_getElem (by have := hl.out.2.2.1; omega)⟩
      obtain ⟨b, off, hA, hblt, y0, y1, y2⟩ := span_at (HR.out _ hb).2.2.1 hlt hd
      have hst := Lib.hid (catK_step (f := spanS) hd)
      have hx := RG.out.s k _ hd
      have hlen := Lib.hid (show (P ++ catK spanS l2 k).length + (spanS k (x0, x1, x2)).size ≤ 140737488355328 by have h1 := RG.out.ls hk; have h2 := spanS_size (k := k) hx; rw [List.length_append]; omega)
      have hx0 : 0 ≤ x0 ∧ x0 ≤ 1000 := hx.1
      have hx1 : 0 ≤ x1 ∧ x1 ≤ 1000 := hx.2.1
      have hx2 : 0 ≤ x2 ∧ x2 ≤ 1000 := hx.2.2
      have zx0 := decT_sz hx0.1 hx0.2
      have zx1 := decT_sz hx1.1 hx1.2
      have zx2 := decT_sz hx2.1 hx2.2
      have s0 : ¬ 9223372036854775807 < 5 + (decT x0).size := by omega
      have s1 : ¬ 9223372036854775807 < 5 + (decT x0).size + 1 := by omega
      have s2 : ¬ 9223372036854775807 < 5 + (decT x0).size + 1 + (decT x1).size := by omega
      have s3 : ¬ 9223372036854775807 < 5 + (decT x0).size + 1 + (decT x1).size + 1 := by omega
      have s4 : ¬ 9223372036854775807 < 5 + (decT x0).size + 1 + (decT x1).size + 1 + (decT x2).size := by omega
      have s5 : ¬ 9223372036854775807 < 5 + (decT x0).size + 1 + (decT x1).size + 1 + (decT x2).size + 1 := by omega
      subst hA
      have hz := hb.size
      clear hx hd
      go_upto_region 21 with fail
      obtain ⟨wv, hwv⟩ : ∃ wv, wv = wr.alloc (.cells #[.int .i64 x0, .int .i64 x1, .int .i64 x2] 99) := ⟨_, rfl⟩
      rw [← hwv]
      have V : Blk wv wr.heap.size 99 #[.int .i64 x0, .int .i64 x1, .int .i64 x2] := by rw [hwv]; exact Blk.new _ _ _
      have hv : Below wr.heap.size wr wv := by rw [hwv]; exact (by repeat' (first | (with_reducible exact Below.refl _ _) | (with_reducible assumption) | (with_reducible refine below_drewN ?_ _) | (with_reducible refine Below.drew ?_) | (with_reducible refine Below.alloc ?_ ?_ _) | (with_reducible refine Below.setCell ?_ ?_ _) | go_size))
      clear hwv
      have HBv := Lib.hid (fun (W : World) (hW : Below wv.heap.size wv W) => ((HB.next hv).next hW : Bld W gB gB (P ++ catK spanS l2 k)))
      have v0 : wv.cell? ⟨wr.heap.size, 0, none⟩ = some (.int .i64 x0) := V.cell 0
      have v1 : wv.cell? ⟨wr.heap.size, 1, none⟩ = some (.int .i64 x1) := V.cell 1
      have v2 : wv.cell? ⟨wr.heap.size, 2, none⟩ = some (.int .i64 x2) := V.cell 2
      have zV := V.lt
      have hvw : Below w.heap.size w wv := below_next hb hv
      have hvs := hv.size
      clear y0 y1 y2
      go_region_held3 (fun w' => w'.cell? ⟨wr.heap.size, 0, none⟩ = some (.int .i64 x0) ∧ w'.cell? ⟨wr.heap.size, 1, none⟩ = some (.int .i64 x1) ∧ w'.cell? ⟨wr.heap.size, 2, none⟩ = some (.int .i64 x2))
        (first | exact ⟨v0, v1, v2⟩ | exact ⟨u0, u1, u2⟩)
        (first
          | (go_at_call 45
             refine (implDec _ _ (by assumption) (HT.out _ (below_next hvw (by repeat' (first | (with_reducible exact Below.refl _ _) | (with_reducible assumption) | (with_reducible refine below_drewN ?_ _) | (with_reducible refine Below.drew ?_) | (with_reducible refine Below.alloc ?_ ?_ _) | (with_reducible refine Below.setCell ?_ ?_ _) | go_size))))).mono ?_
             rintro e w8 ⟨rfl, h8⟩
             have q8 : Below wv.heap.size wv w8 := below_next (by repeat' (first | (with_reducible exact Below.refl _ _) | (with_reducible assumption) | (with_reducible refine below_drewN ?_ _) | (with_reducible refine Below.drew ?_) | (with_reducible refine Below.alloc ?_ ?_ _) | (with_reducible refine Below.setCell ?_ ?_ _) | go_size)) h8
             have V8 := V.next q8
             have u0 : w8.cell? ⟨wr.heap.size, 0, none⟩ = some (.int .i64 x0) := V8.cell 0
             have u1 : w8.cell? ⟨wr.heap.size, 1, none⟩ = some (.int .i64 x1) := V8.cell 1
             have u2 : w8.cell? ⟨wr.heap.size, 2, none⟩ = some (.int .i64 x2) := V8.cell 2)
          | (go_at_call 51
             refine (bldStr gB gB _ _ _ (HBv.out _ (by repeat' (first | (with_reducible exact Below.refl _ _) | (with_reducible assumption) | (with_reducible refine below_drewN ?_ _) | (with_reducible refine Below.drew ?_) | (with_reducible refine Below.alloc ?_ ?_ _) | (with_reducible refine Below.setCell ?_ ?_ _) | go_size))) (by exact hlen.out) (by have := q8.size; omega)).mono ?_
             rintro e w7 ⟨rfl, HB7, h7, hk7⟩
             have hwz : gB ≤ w8.heap.size := by have := q8.size; omega
             have q7 : Below gB w8 w7 := by first | exact h7 | exact (Below.refl _ _).drew.trans h7
             have V7 := V8.kept hk7 (by decide) (by omega)
             have u0 : w7.cell? ⟨wr.heap.size, 0, none⟩ = some (.int .i64 x0) := V7.cell 0
             have u1 : w7.cell? ⟨wr.heap.size, 1, none⟩ = some (.int .i64 x1) := V7.cell 1
             have u2 : w7.cell? ⟨wr.heap.size, 2, none⟩ = some (.int .i64 x2) := V7.cell 2))
      all_goals
        have K7 := ((K.next hv).next q8).below q7 hgw
        have hb7 : Below w.heap.size w w7 := (below_next hvw q8).trans (q7.mono (by omega))
        have hz7 : gB < w7.heap.size := by have := q7.size; have := q8.size; omega
        go_wp2_with fail
        go_roundw
        case rel => exact ⟨k + 1, by omega, by go_num, (by rw [hst.out, ← List.append_assoc]; exact HB7), hz7, K7, hb7⟩
        case measure => simp [intOf]; omega
    obtain rfl : n2 = k := by omega
    have cK := K.cell
    have zK := K.lt
    obtain ⟨P2, hP2⟩ : ∃ P2, P2 = P ++ catK spanS l2 n2 := ⟨_, rfl⟩
    have HPP3 := Lib.hid hP2
    have hPl2 : P2.length ≤ 1060000 := by rw [hP2, List.length_append]; have := RG.out.ls hk; omega
    have HB2 : Bld wr gB gB P2 := by rw [hP2]; exact HB
    clear hP2 HB
    have HB := HB2
    clear HB2 hPl
    have hPl := hPl2
    clear hPl2
    obtain ⟨P, hPP⟩ : ∃ P, P = P2 := ⟨_, rfl⟩
    subst hPP
    go_wp2
    clear cK zK
    obtain ⟨wQ, hwQ⟩ : ∃ wQ, wQ = wr := ⟨_, rfl⟩
    subst hwQ
    go_loopw [90] (fun i wr => ∃ k : Nat, k ≤ n3 ∧ i = .int .i64 k ∧ Bld wr gB gB (P ++ catK tieS l3 k) ∧ gB < wr.heap.size ∧ Blk wr w.heap.size 52 #[.int .i64 m, .slice A0 n0 c0, .slice A1 n1 c1, .slice A2 n2 c2, .slice A3 n3 c3] ∧ Below w.heap.size w wr) (fun i _ => n3 - (intOf i).toNat)
    case atStart => exact ⟨0, Nat.zero_le _, rfl, (by rw [catK_zero, List.append_nil]; exact HB), hgz, K, hb⟩
    case round =>
    clear HB hgz K hb
    obtain ⟨k, hk, rfl, HB, hgz, K, hb⟩ := hrel
    by_cases hlt : k < n3
    · obtain ⟨⟨x0, x1⟩, hd⟩ : ∃ d, l3[k]? = some d := ⟨_, List.getElem?_eq_getElem (by have := hl.out.2.2.2; omega)⟩
      obtain ⟨b, off, hA, hblt, y0, y1⟩ := tie_at (HR.out _ hb).2.2.2 hlt hd
      have hst := Lib.hid (catK_step (f := tieS) hd)
      have hx := RG.out.t k _ hd
      have hlen := Lib.hid (show (P ++ catK tieS l3 k).length + (tieS k (x0, x1)).size ≤ 140737488355328 by have h1 := RG.out.lt hk; have h2 := tieS_size (k := k) hx; rw [List.length_append]; omega)
      have hx0 : 0 ≤ x0 ∧ x0 ≤ 1000 := hx.1
      have hx1 : 0 ≤ x1 ∧ x1 ≤ 1000 := hx.2
      have zx0 := decT_sz hx0.1 hx0.2
      have zx1 := decT_sz hx1.1 hx1.2
      have s0 : ¬ 9223372036854775807 < 4 + (decT x0).size := by omega
      have s1 : ¬ 9223372036854775807 < 4 + (decT x0).size + 1 := by omega
      have s2 : ¬ 9223372036854775807 < 4 + (decT x0).size + 1 + (decT x1).size := by omega
      have s3 : ¬ 9223372036854775807 < 4 + (decT x0).size + 1 + (decT x1).size + 1 := by omega
      subst hA
      have hz := hb.size
      clear hx hd
      go_upto_region 26 with fail
      obtain ⟨wv, hwv⟩ : ∃ wv, wv = wr.alloc (.cells #[.int .i64 x0, .int .i64 x1] 101) := ⟨_, rfl⟩
      rw [← hwv]
      have V : Blk wv wr.heap.size 101 #[.int .i64 x0, .int .i64 x1] := by rw [hwv]; exact Blk.new _ _ _
      have hv : Below wr.heap.size wr wv := by rw [hwv]; exact (by repeat' (first | (with_reducible exact Below.refl _ _) | (with_reducible assumption) | (with_reducible refine below_drewN ?_ _) | (with_reducible refine Below.drew ?_) | (with_reducible refine Below.alloc ?_ ?_ _) | (with_reducible refine Below.setCell ?_ ?_ _) | go_size))
      clear hwv
      have HBv := Lib.hid (fun (W : World) (hW : Below wv.heap.size wv W) => ((HB.next hv).next hW : Bld W gB gB (P ++ catK tieS l3 k)))
      have v0 : wv.cell? ⟨wr.heap.size, 0, none⟩ = some (.int .i64 x0) := V.cell 0
      have v1 : wv.cell? ⟨wr.heap.size, 1, none⟩ = some (.int .i64 x1) := V.cell 1
      have zV := V.lt
      have hvw : Below w.heap.size w wv := below_next hb hv
      have hvs := hv.size
      clear y0 y1
      go_region_held3 (fun w' => w'.cell? ⟨wr.heap.size, 0, none⟩ = some (.int .i64 x0) ∧ w'.cell? ⟨wr.heap.size, 1, none⟩ = some (.int .i64 x1))
        (first | exact ⟨v0, v1⟩ | exact ⟨u0, u1⟩)
        (first
          | (go_at_call 45
             refine (implDec _ _ (by assumption) (HT.out _ (below_next hvw (by repeat' (first | (with_reducible exact Below.refl _ _) | (with_reducible assumption) | (with_reducible refine below_drewN ?_ _) | (with_reducible refine Below.drew ?_) | (with_reducible refine Below.alloc ?_ ?_ _) | (with_reducible refine Below.setCell ?_ ?_ _) | go_size))))).mono ?_
             rintro e w8 ⟨rfl, h8⟩
             have q8 : Below wv.heap.size wv w8 := below_next (by repeat' (first | (with_reducible exact Below.refl _ _) | (with_reducible assumption) | (with_reducible refine below_drewN ?_ _) | (with_reducible refine Below.drew ?_) | (with_reducible refine Below.alloc ?_ ?_ _) | (with_reducible refine Below.setCell ?_ ?_ _) | go_size)) h8
             have V8 := V.next q8
             have u0 : w8.cell? ⟨wr.heap.size, 0, none⟩ = some (.int .i64 x0) := V8.cell 0
             have u1 : w8.cell? ⟨wr.heap.size, 1, none⟩ = some (.int .i64 x1) := V8.cell 1)
          | (go_at_call 51
             refine (bldStr gB gB _ _ _ (HBv.out _ (by repeat' (first | (with_reducible exact Below.refl _ _) | (with_reducible assumption) | (with_reducible refine below_drewN ?_ _) | (with_reducible refine Below.drew ?_) | (with_reducible refine Below.alloc ?_ ?_ _) | (with_reducible refine Below.setCell ?_ ?_ _) | go_size))) (by exact hlen.out) (by have := q8.size; omega)).mono ?_
             rintro e w7 ⟨rfl, HB7, h7, hk7⟩
             have hwz : gB ≤ w8.heap.size := by have := q8.size; omega
             have q7 : Below gB w8 w7 := by first | exact h7 | exact (Below.refl _ _).drew.trans h7
             have V7 := V8.kept hk7 (by decide) (by omega)
             have u0 : w7.cell? ⟨wr.heap.size, 0, none⟩ = some (.int .i64 x0) := V7.cell 0
             have u1 : w7.cell? ⟨wr.heap.size, 1, none⟩ = some (.int .i64 x1) := V7.cell 1))
      all_goals
        have K7 := ((K.next hv).next q8).below q7 hgw
        have hb7 : Below w.heap.size w w7 := (below_next hvw q8).trans (q7.mono (by omega))
        have hz7 : gB < w7.heap.size := by have := q7.size; have := q8.size; omega
        go_wp2_with fail
        go_roundw
        case rel => exact ⟨k + 1, by omega, by go_num, (by rw [hst.out, ← List.append_assoc]; exact HB7), hz7, K7, hb7⟩
        case measure => simp [intOf]; omega
    obtain rfl : n3 = k := by omega
    have cK := K.cell
    have zK := K.lt
    obtain ⟨P2, hP2⟩ : ∃ P2, P2 = P ++ catK tieS l3 n3 := ⟨_, rfl⟩
    have HPP4 := Lib.hid hP2
    have hPl2 : P2.length ≤ 1064000 := by rw [hP2, List.length_append]; have := RG.out.lt hk; omega
    have HB2 : Bld wr gB gB P2 := by rw [hP2]; exact HB
    clear hP2 HB
    have HB := HB2
    clear HB2 hPl
    have hPl := hPl2
    clear hPl2
    obtain ⟨P, hPP⟩ : ∃ P, P = P2 := ⟨_, rfl⟩
    subst hPP
    go_wp2_with fail
    refine (bldRead gB gB _ _ HB (by omega)).mono ?_
    rintro e w7 ⟨rfl, h7⟩
    have hb7 : Below w.heap.size w w7 := hb.trans (h7.mono (by omega))
    clear cK zK
    go_wp2
    go_ret
    exact ⟨ret_str (by rw [HF.out, HPP4.out, HPP3.out, HPP2.out, HPP1.out, HPP.out]), hb7⟩
end Go.Proofs.YtfapdhfjcnehhaaDoor

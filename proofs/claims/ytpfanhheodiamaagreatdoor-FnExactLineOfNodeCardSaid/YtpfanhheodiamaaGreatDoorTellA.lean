
/-
  Signs of nodes told: the state of a teller (impl.teller, spec.l07Flat) and what a sign put into it does; contracts of put, word, mark.
-/
import Derived.Test.YtpfanhheodiamaaGreatDoorTreeB
namespace Go.Proofs.YtpfanhheodiamaaGreatDoor
open Go.RowKit
set_option linter.unusedVariables false
set_option linter.unusedSimpArgs false

abbrev SgD := Int × ByteArray
abbrev TS := List SgD × List Int
def signCells (d : SgD) : List Value := [.int .i64 d.1, .string d.2, .int .i64 0, .bool false]
theorem signCells_len (d : SgD) : (signCells d).length = 4 := rfl
/-- Block T is a teller (of type ty) over the nodes at A, with these signs, and these beginnings in block Sb. -/
def TL (ty : TypeId) (T Sb : Nat) (A : Option Addr) (n c : Nat) (w0 : World) (s : TS) (w : World) : Prop :=
  ∃ AS cS, Blk w T ty #[.slice A n c, .slice AS s.1.length cS, .slice (some ⟨Sb, 0, none⟩) n n] ∧ Mine w w0.heap.size 73 4 AS s.1.length cS (s.1.flatMap signCells) ∧ Own w Sb 3 n (intCells s.2) ∧ s.2.length = n ∧ T ≠ Sb ∧ w0.heap.size ≤ T ∧ w0.heap.size ≤ Sb ∧ (∀ g, AS.map (·.block) = some g → g ≠ T ∧ g ≠ Sb) ∧ Below w0.heap.size w0 w
/-- But for the teller, its beginnings and rows of signs all stands as it did. -/
def Kp (T Sb : Nat) (w w' : World) : Prop := w.heap.size ≤ w'.heap.size ∧ ∀ g t cs, Blk w g t cs → g ≠ T → g ≠ Sb → t ≠ 73 → Blk w' g t cs
section
variable {ty : TypeId} {T Sb : Nat} {A : Option Addr} {n c : Nat} {w0 w w' w2 : World} {s : TS}
theorem Kp.refl (T Sb : Nat) (w : World) : Kp T Sb w w := ⟨Nat.le_refl _, fun g t cs h _ _ _ => h⟩
theorem Kp.trans (h : Kp T Sb w w') (k : Kp T Sb w' w2) : Kp T Sb w w2 := ⟨Nat.le_trans h.1 k.1, fun g t cs hb h1 h2 h3 => k.2 g t cs (h.2 g t cs hb h1 h2 h3) h1 h2 h3⟩
theorem Kp.alloc (h : Kp T Sb w w') (o : Obj) : Kp T Sb w (w'.alloc o) := ⟨Nat.le_trans h.1 (by simp), fun g t cs hb h1 h2 h3 => (h.2 g t cs hb h1 h2 h3).alloc o⟩
theorem Kp.of_alloc {o : Obj} (h : Kp T Sb (w.alloc o) w') : Kp T Sb w w' := ((Kp.refl T Sb w).alloc o).trans h
theorem Kp.drewN (h : Kp T Sb w w') (k : Nat) : Kp T Sb w (w'.drewN k) := h
theorem Blk.kp {g : Nat} {t : TypeId} {cs : Array Value} (h : Blk w g t cs) (k : Kp T Sb w w') (h1 : g ≠ T) (h2 : g ≠ Sb) (h3 : t ≠ 73) : Blk w' g t cs := k.2 g t cs h h1 h2 h3
theorem TL.blkT (h : TL ty T Sb A n c w0 s w) : T < w.heap.size := by obtain ⟨AS, cS, hb, _⟩ := h; exact hb.lt
theorem TL.blkS (h : TL ty T Sb A n c w0 s w) : Sb < w.heap.size := by obtain ⟨AS, cS, _, _, ho, _⟩ := h; exact ho.lt
theorem TL.below (h : TL ty T Sb A n c w0 s w) : Below w0.heap.size w0 w := by obtain ⟨AS, cS, _, _, _, _, _, _, _, _, hb⟩ := h; exact hb
theorem TL.len (h : TL ty T Sb A n c w0 s w) : s.2.length = n := by obtain ⟨AS, cS, _, _, _, hl, _⟩ := h; exact hl
theorem TL.alloc (h : TL ty T Sb A n c w0 s w) (o : Obj) : TL ty T Sb A n c w0 s (w.alloc o) := by
  obtain ⟨AS, cS, hb, hm, ho, h1, h2, h3, h4, h5, hbw⟩ := h
  exact ⟨AS, cS, hb.alloc o, hm.alloc o, ho.alloc o, h1, h2, h3, h4, h5, hbw.alloc hbw.size o⟩
theorem TL.drewN (h : TL ty T Sb A n c w0 s w) (k : Nat) : TL ty T Sb A n c w0 s (w.drewN k) := by
  obtain ⟨AS, cS, hb, hm, ho, h1, h2, h3, h4, h5, hbw⟩ := h
  exact ⟨AS, cS, hb.drewN k, hm.drewN k, ho.drewN k, h1, h2, h3, h4, h5, below_drewN hbw k⟩
theorem mine_blk {B : Nat} {e : TypeId} {sz : Nat} {xs : List Value} (h : Mine w B e sz A n c xs) {g : Nat} (hg : A.map (·.block) = some g) : ∃ cs, Blk w g e cs := by
  rcases h.own with ⟨rfl, _⟩ | ⟨g', rfl, _, _, _, rest, hb, _⟩
  · simp at hg
  · simp at hg; subst hg; exact ⟨_, hb⟩
theorem tl_off {AS : Option Addr} {cS m : Nat} {B : Nat} {xs : List Value} (hm : Mine w B 73 4 AS m cS xs) : ∀ g t cs, Blk w g t cs → t ≠ 73 → some g ≠ (Value.slice AS m cS).ownBlock := fun g t cs hk ht e => by
  have hrow : AS.map (·.block) = some g := by
    rcases hm.own with ⟨rfl, _, _⟩ | ⟨g', rfl, _⟩
    · simp [Value.ownBlock] at e
    · simp [Value.ownBlock] at e; subst e; rfl
  obtain ⟨cs', hk'⟩ := mine_blk hm hrow
  unfold Blk at hk hk'
  rw [hk] at hk'
  injection hk' with hk'
  injection hk' with _ h2
  exact ht h2
theorem tl_blk {o : Obj} {AS : Option Addr} {cS m B : Nat} {xs : List Value} {g : Nat} {t : TypeId} {cs : Array Value} {w3 : World} (hk : Blk w g t cs) (ht : t ≠ 73) (hm : Mine w B 73 4 AS m cS xs) (hg : (w.alloc o).grownBy w3 (Value.slice AS m cS).ownBlock) : Blk w3 g t cs :=
  (hk.alloc o).grown hg (tl_off hm g t cs hk ht)
/-- What a sign put behind the others does. -/
theorem TL.push {o : Obj} {AS : Option Addr} {cS : Nat} (hty : ty ≠ 73)
    (hb : Blk w T ty #[.slice A n c, .slice AS s.1.length cS, .slice (some ⟨Sb, 0, none⟩) n n]) (hm : Mine w w0.heap.size 73 4 AS s.1.length cS (s.1.flatMap signCells)) (ho : Own w Sb 3 n (intCells s.2)) (hl : s.2.length = n) (hTS : T ≠ Sb) (hT : w0.heap.size ≤ T) (hS : w0.heap.size ≤ Sb) (hbw : Below w0.heap.size w0 w)
    (d : SgD) {v' : Value} {w3 : World} (hown : w3.ownsRow w0.heap.size 73 4 v' (s.1.length + 1) (s.1.flatMap signCells ++ signCells d)) (hg : (w.alloc o).grownBy w3 (Value.slice AS s.1.length cS).ownBlock) :
    TL ty T Sb A n c w0 (s.1 ++ [d], s.2) (w3.setCell ⟨T, 1, none⟩ v') ∧ Kp T Sb w (w3.setCell ⟨T, 1, none⟩ v') := by
  have hoff := tl_off hm
  have hSb : ∃ cs, Blk w Sb 3 cs := by obtain ⟨rest, h, _⟩ := ho; exact ⟨_, h⟩
  obtain ⟨csS, hSb⟩ := hSb
  have hb3 : Blk w3 T ty #[.slice A n c, .slice AS s.1.length cS, .slice (some ⟨Sb, 0, none⟩) n n] := (hb.alloc o).grown hg (hoff T ty _ hb hty)
  have ho3 : Own w3 Sb 3 n (intCells s.2) := (ho.alloc o).grown hg (fun q e1 e2 => hoff Sb _ _ hSb (by decide) (by rw [e1, e2]))
  obtain ⟨A3, c3, rfl, m3⟩ := Mine.of hown
  have hbw3 : Below w0.heap.size w0 w3 := (hbw.alloc hbw.size o).grown hg (by have := hbw.size; simp; omega) (fun g hgg => own_blk hm hgg)
  have hne3 : ∀ g, A3.map (·.block) = some g → g ≠ T ∧ g ≠ Sb := fun g hgg => by
    obtain ⟨cs3, hk3⟩ := mine_blk m3 hgg
    have hb3' := hb3
    obtain ⟨rest, hs3, _⟩ := ho3
    constructor
    · rintro rfl
      unfold Blk at hk3 hb3'
      rw [hk3] at hb3'
      injection hb3' with hb3'
      injection hb3' with _ h2
      exact hty h2.symm
    · rintro rfl
      unfold Blk at hk3 hs3
      rw [hk3] at hs3
      injection hs3 with hs3
      injection hs3 with _ h2
      exact absurd h2 (by decide)
  have hll : (s.1 ++ [d]).length = s.1.length + 1 := by simp
  have hff : (s.1 ++ [d]).flatMap signCells = s.1.flatMap signCells ++ signCells d := by simp
  refine ⟨⟨A3, c3, ?_, ?_, ho3.far hTS.symm _, hl, hTS, hT, hS, hne3, hbw3.setCell hT _⟩, ?_, ?_⟩
  · have := hb3.set_ 1 (.slice A3 (s.1.length + 1) c3)
    rw [hll]
    simpa using this
  · rw [hll, hff]
    have hlen := m3.len
    rcases m3.own with ⟨_, h0, _⟩ | ⟨g, rfl, hB, hn', hc', ho'⟩
    · omega
    · exact Mine.mk_own (ho'.far (hne3 g rfl).1 _) hlen hB hn' hc'
  · exact Nat.le_trans (by simp) (Nat.le_trans hg.size (by simp [World.setCell]))
  · intro g t cs hk h1 h2 h3
    exact ((hk.alloc o).grown hg (hoff g t cs hk h3)).far h1 _
end
theorem infoSign : (Tryz.prog.info? 73).map (fun i => (i.zero, i.size, i.bytes)) = some (some (.agg #[.int .i64 0, .string ⟨#[]⟩, .int .i64 0, .bool false]), 4, 40) := by kernel_rfl
theorem cell4_new (w : World) (d : SgD) (t : TypeId) : ∀ j v, (signCells d)[j]? = some v → (w.alloc (.cells #[.int .i64 d.1, .string d.2, .int .i64 0, .bool false] t)).cell? ((⟨w.heap.size, 0, none⟩ : Addr).add j) = some v := by
  intro j v hj
  have hb := Blk.new w t #[.int .i64 d.1, .string d.2, .int .i64 0, .bool false]
  match j, hj with
  | 0, hj => obtain rfl := Option.some.inj hj; exact hb.cell 0
  | 1, hj => obtain rfl := Option.some.inj hj; exact hb.cell 1
  | 2, hj => obtain rfl := Option.some.inj hj; exact hb.cell 2
  | 3, hj => obtain rfl := Option.some.inj hj; exact hb.cell 3
  | j + 4, hj => simp [signCells] at hj
theorem sign_one (d : SgD) : ∀ u ∈ signCells d, u.oneCell' = true := by
  intro u hu
  simp [signCells] at hu
  rcases hu with rfl | rfl | rfl | rfl <;> rfl
/-- What puts a sign: the teller has it behind the others. -/
def Puts (ty : TypeId) (T Sb : Nat) (A : Option Addr) (n c : Nat) (w0 w : World) (s' : TS) (e : Ending) (w' : World) : Prop := e = .returned (.tuple #[]) ∧ TL ty T Sb A n c w0 s' w' ∧ Kp T Sb w w'
set_option maxRecDepth 100000 in
set_option maxHeartbeats 1600000 in
theorem specPut_any (T Sb : Nat) (A : Option Addr) (n c : Nat) (w0 w : World) (s : TS) (k : Int) (t : ByteArray) (h : TL 46 T Sb A n c w0 s w) (hs : s.1.length ≤ 1000000) :
    Calls Tryz.prog 49 #[.pointer (some ⟨T, 0, none⟩), .int .i64 k, .string t] w (Puts 46 T Sb A n c w0 w (s.1 ++ [(k, t)], s.2)) := by
  obtain ⟨AS, cS, hb, hm, ho, hl, hTS, hT, hS, hne, hbw⟩ := h
  obtain ⟨i0, hi, hz0, hz1, hz2⟩ := info_parts infoSign
  have HI := Lib.hid (And.intro hi (And.intro hz0 (And.intro hz1 hz2)))
  have HM := Lib.hid hm
  have HP := Lib.hid (fun (o : Obj) (v' : Value) (w3 : World) => TL.push (ty := 46) (s := s) (o := o) (v' := v') (w3 := w3) (by decide) hb hm ho hl hTS hT hS hbw (k, t))
  have HB := Lib.hid (fun (o : Obj) (w3 : World) => tl_blk (o := o) (w3 := w3) hb (by decide) hm)
  have k1 := hb.cell 1
  simp only [List.getElem?_toArray, List.getElem?_cons_zero, List.getElem?_cons_succ] at k1
  have kf := hb.frozen
  have kz := hb.lt
  clear hi hz0 hz1 hz2 hm ho hne
  unfold Puts
  go_enter Tryz.func49, Tryz.ntmps49
  go_wp2_with (at_builtin; (refine wpList_append_own _ rfl (.tmp 10) (.tmp 14) _ rfl w0.heap.size 73 i0 (.agg #[.int .i64 0, .string ⟨#[]⟩, .int .i64 0, .bool false]) 4 40 Tryz.underlying44 HI.out.1 HI.out.2.1 HI.out.2.2.1 HI.out.2.2.2 rfl (by decide) _ _ _ rfl (Mine.alloc HM.out _) ⟨w.heap.size, 0, none⟩ 1 1 (signCells (k, t)) rfl rfl (cell4_new _ (k, t) _) (sign_one _) (by unfold maxLen; omega) (by omega) (by have := hbw.size; simp; omega) ?_); intro v' w3 hown3 hg3 hnil3; (obtain ⟨A3, c3, rfl, m3⟩ := Mine.of hown3); (have hb3 := HB.out _ _ hg3); (have k31 := hb3.cell 1); (have f3 := hb3.frozen); (have z3 := hb3.lt); simp only [List.getElem?_toArray, List.getElem?_cons_zero, List.getElem?_cons_succ] at k31)
  have hfin := HP.out _ _ _ hown3 hg3
  go_wp2
  go_end0
  exact ⟨rfl, hfin⟩
end Go.Proofs.YtpfanhheodiamaaGreatDoor

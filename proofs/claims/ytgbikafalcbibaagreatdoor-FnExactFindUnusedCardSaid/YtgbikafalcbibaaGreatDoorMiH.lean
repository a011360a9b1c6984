/-
  Put together by program (shake.py): TellA, TellB, TellC, TellL, TellHd, TellM, TellP, TellNa.
-/
import Derived.Test.YtgbikafalcbibaaGreatDoorMiG
import Derived.Test.YtgbikafalcbibaaGreatDoorMiE
import Derived.Deep.RegionLaw
import Derived.Deep.AppendLies
import Derived.Deep.Draws
set_option maxRecDepth 100000
set_option maxHeartbeats 25600000
set_option linter.unusedVariables false
set_option linter.unusedSimpArgs false
open Go.Lib (hid)
open Go.Proofs.Tryz
namespace Go.Proofs.YtgbikafalcbibaaGreatDoor
open Go.RowKit
abbrev SgD := Int × ByteArray
abbrev TS := List SgD × List Int
def signCells (d : SgD) : List Value := [.int .i64 d.1, .string d.2, .int .i64 0, .bool false]
def TL (ty : TypeId) (T Sb : Nat) (A : Option Addr) (n c : Nat) (w0 : World) (s : TS) (w : World) : Prop :=
 ∃ AS cS, Blk w T ty #[.slice A n c, .slice AS s.1.length cS, .slice (some ⟨Sb, 0, none⟩) n n] ∧ Mine w w0.heap.size 68 4 AS s.1.length cS (s.1.flatMap signCells) ∧ Own w Sb 3 n (intCells s.2) ∧ s.2.length = n ∧ T ≠ Sb ∧ w0.heap.size ≤ T ∧ w0.heap.size ≤ Sb ∧ (∀ g, AS.map (·.block) = some g → g ≠ T ∧ g ≠ Sb) ∧ Below w0.heap.size w0 w
def Kp (T Sb : Nat) (w w' : World) : Prop := w.heap.size ≤ w'.heap.size ∧ ∀ g t cs, Blk w g t cs → g ≠ T → g ≠ Sb → t ≠ 68 → Blk w' g t cs
section
variable {ty : TypeId} {T Sb : Nat} {A : Option Addr} {n c : Nat} {w0 w w' w2 : World} {s : TS}
theorem Kp.refl (T Sb : Nat) (w : World) : Kp T Sb w w := ⟨Nat.le_refl _, fun g t cs h _ _ _ => h⟩
theorem Kp.trans (h : Kp T Sb w w') (k : Kp T Sb w' w2) : Kp T Sb w w2 := ⟨Nat.le_trans h.1 k.1, fun g t cs hb h1 h2 h3 => k.2 g t cs (h.2 g t cs hb h1 h2 h3) h1 h2 h3⟩
theorem Kp.alloc (h : Kp T Sb w w') (o : Obj) : Kp T Sb w (w'.alloc o) := ⟨Nat.le_trans h.1 (by simp), fun g t cs hb h1 h2 h3 => (h.2 g t cs hb h1 h2 h3).alloc o⟩
theorem Kp.of_alloc {o : Obj} (h : Kp T Sb (w.alloc o) w') : Kp T Sb w w' := ((Kp.refl T Sb w).alloc o).trans h
theorem Kp.drewN (h : Kp T Sb w w') (k : Nat) : Kp T Sb w (w'.drewN k) := h
theorem Blk.kp {g : Nat} {t : TypeId} {cs : Array Value} (h : Blk w g t cs) (k : Kp T Sb w w') (h1 : g ≠ T) (h2 : g ≠ Sb) (h3 : t ≠ 68) : Blk w' g t cs := k.2 g t cs h h1 h2 h3
theorem TL.blkT (h : TL ty T Sb A n c w0 s w) : T < w.heap.size := by obtain ⟨AS, cS, hb, _⟩ := h; exact hb.lt
theorem TL.blkS (h : TL ty T Sb A n c w0 s w) : Sb < w.heap.size := by obtain ⟨AS, cS, _, _, ho, _⟩ := h; exact ho.lt
theorem TL.below (h : TL ty T Sb A n c w0 s w) : Below w0.heap.size w0 w := by obtain ⟨AS, cS, _, _, _, _, _, _, _, _, hb⟩ := h; exact hb
theorem TL.len (h : TL ty T Sb A n c w0 s w) : s.2.length = n := by obtain ⟨AS, cS, _, _, _, hl, _⟩ := h; exact hl
theorem TL.alloc (h : TL ty T Sb A n c w0 s w) (o : Obj) : TL ty T Sb A n c w0 s (w.alloc o) := by
 obtain ⟨AS, cS, hb, hm, ho, h1, h2, h3, h4, h5, hbw⟩ := h
 exact ⟨AS, cS, hb.alloc o, hm.alloc o, ho.alloc o, h1, h2, h3, h4, h5, hbw.alloc hbw.size o⟩
theorem TL.drewN (h : TL ty T Sb A n c w0 s w) (k : Nat) : TL ty T Sb A n c w0 s (w.drewN k) := by
 obtain ⟨AS, cS, hb, hm, ho, h1, h2, h3, h4, h5, hbw⟩ := h
 exact ⟨AS, cS, hb.drewN k, hm.drewN k, ho.drewN k, h1, h2, h3, h4, h5, below_drewN hbw k⟩
theorem mine_blk {B : Nat} {e : TypeId} {sz : Nat} {xs : List Value} (h : Mine w B e sz A n c xs) {g : Nat} (hg : A.map (·.block) = some g) : ∃ cs, Blk w g e cs := by
 rcases h.own with ⟨rfl, _⟩ | ⟨g', rfl, _, _, _, rest, hb, _⟩
 ·simp at hg
 ·simp at hg; subst hg; exact ⟨_, hb⟩
theorem tl_off {AS : Option Addr} {cS m : Nat} {B : Nat} {xs : List Value} (hm : Mine w B 68 4 AS m cS xs) : ∀ g t cs, Blk w g t cs → t ≠ 68 → some g ≠ (Value.slice AS m cS).ownBlock := fun g t cs hk ht e => by
 have hrow : AS.map (·.block) = some g := by
  rcases hm.own with ⟨rfl, _, _⟩ | ⟨g', rfl, _⟩
  ·simp [Value.ownBlock] at e
  ·simp [Value.ownBlock] at e; subst e; rfl
 obtain ⟨cs', hk'⟩ := mine_blk hm hrow
 unfold Blk at hk hk'
 rw [hk] at hk'
 injection hk' with hk'
 injection hk' with _ h2
 exact ht h2
theorem tl_blk {o : Obj} {AS : Option Addr} {cS m B : Nat} {xs : List Value} {g : Nat} {t : TypeId} {cs : Array Value} {w3 : World} (hk : Blk w g t cs) (ht : t ≠ 68) (hm : Mine w B 68 4 AS m cS xs) (hg : (w.alloc o).grownBy w3 (Value.slice AS m cS).ownBlock) : Blk w3 g t cs :=
 (hk.alloc o).grown hg (tl_off hm g t cs hk ht)
theorem TL.push {o : Obj} {AS : Option Addr} {cS : Nat} (hty : ty ≠ 68)
  (hb : Blk w T ty #[.slice A n c, .slice AS s.1.length cS, .slice (some ⟨Sb, 0, none⟩) n n]) (hm : Mine w w0.heap.size 68 4 AS s.1.length cS (s.1.flatMap signCells)) (ho : Own w Sb 3 n (intCells s.2)) (hl : s.2.length = n) (hTS : T ≠ Sb) (hT : w0.heap.size ≤ T) (hS : w0.heap.size ≤ Sb) (hbw : Below w0.heap.size w0 w)
  (d : SgD) {v' : Value} {w3 : World} (hown : w3.ownsRow w0.heap.size 68 4 v' (s.1.length + 1) (s.1.flatMap signCells ++ signCells d)) (hg : (w.alloc o).grownBy w3 (Value.slice AS s.1.length cS).ownBlock) :
  TL ty T Sb A n c w0 (s.1 ++ [d], s.2) (w3.setCell ⟨T, 1, none⟩ v') ∧ Kp T Sb w (w3.setCell ⟨T, 1, none⟩ v') := by
 have hoff := tl_off hm
 have hSb : ∃ cs, Blk w Sb 3 cs := by obtain ⟨rest, h, _⟩ := ho; exact ⟨_, h⟩
 obtain ⟨csS, hSb⟩ := hSb
 have hb3 : Blk w3 T ty #[.slice A n c, .slice AS s.1.length cS, .slice (some ⟨Sb, 0, none⟩) n n] := (hb.alloc o).grown hg (hoff T ty _ hb hty)
 have ho3 : Own w3 Sb 3 n (intCells s.2) := (ho.alloc o).grown hg (fun q e1 e2 => hoff Sb _ _ hSb (by decide) (by rw [e1, e2]))
 obtain ⟨A3, c3, rfl, m3⟩ := Mine.of hown
 have hbw3 : Below w0.heap.size w0 w3 := (hbw.alloc hbw.size o).grown hg (by have := hbw.size; simp; omega) (fun g hgg => own_blk hm hgg)
 have hne3 : ∀ g, A3.map (·.block) = some g → g ≠ T ∧ g ≠ Sb := fun g hgg => by
  obtain ⟨cs3, hk3⟩ := mine_blk m3 hgg
  have hb3' := hb3
  obtain ⟨rest, hs3, _⟩ := ho3
  constructor
  ·rintro rfl
   unfold Blk at hk3 hb3'
   rw [hk3] at hb3'
   injection hb3' with hb3'
   injection hb3' with _ h2
   exact hty h2.symm
  ·rintro rfl
   unfold Blk at hk3 hs3
   rw [hk3] at hs3
   injection hs3 with hs3
   injection hs3 with _ h2
   exact absurd h2 (by decide)
 have hll : (s.1 ++ [d]).length = s.1.length + 1 := by simp
 have hff : (s.1 ++ [d]).flatMap signCells = s.1.flatMap signCells ++ signCells d := by simp
 refine ⟨⟨A3, c3, ?_, ?_, ho3.far hTS.symm _, hl, hTS, hT, hS, hne3, hbw3.setCell hT _⟩, ?_, ?_⟩
 ·have := hb3.set_ 1 (.slice A3 (s.1.length + 1) c3)
  rw [hll]
  simpa using this
 ·rw [hll, hff]
  have hlen := m3.len
  rcases m3.own with ⟨_, h0, _⟩ | ⟨g, rfl, hB, hn', hc', ho'⟩
  ·omega
  ·exact Mine.mk_own (ho'.far (hne3 g rfl).1 _) hlen hB hn' hc'
 ·exact Nat.le_trans (by simp) (Nat.le_trans hg.size (by simp [World.setCell]))
 ·intro g t cs hk h1 h2 h3
  exact ((hk.alloc o).grown hg (hoff g t cs hk h3)).far h1 _
end
theorem infoSign : (prog.info? 68).map (fun i => (i.zero, i.size, i.bytes)) = some (some (.agg #[.int .i64 0, .string ⟨#[]⟩, .int .i64 0, .bool false]), 4, 40) := by kernel_rfl
theorem cell4_new (w : World) (d : SgD) (t : TypeId) : ∀ j v, (signCells d)[j]? = some v → (w.alloc (.cells #[.int .i64 d.1, .string d.2, .int .i64 0, .bool false] t)).cell? ((⟨w.heap.size, 0, none⟩ : Addr).add j) = some v := by
 intro j v hj
 have hb := Blk.new w t #[.int .i64 d.1, .string d.2, .int .i64 0, .bool false]
 match j, hj with
 | 0, hj => obtain rfl := Option.some.inj hj; exact hb.cell 0
 | 1, hj => obtain rfl := Option.some.inj hj; exact hb.cell 1
 | 2, hj => obtain rfl := Option.some.inj hj; exact hb.cell 2
 | 3, hj => obtain rfl := Option.some.inj hj; exact hb.cell 3
 | j + 4, hj => simp [signCells] at hj
theorem sign_one (d : SgD) : ∀ u ∈ signCells d, u.oneCell' = true := by
 intro u hu
 simp [signCells] at hu
 rcases hu with rfl | rfl | rfl | rfl <;> rfl
def Puts (ty : TypeId) (T Sb : Nat) (A : Option Addr) (n c : Nat) (w0 w : World) (s' : TS) (e : Ending) (w' : World) : Prop := e = .returned (.tuple #[]) ∧ TL ty T Sb A n c w0 s' w' ∧ Kp T Sb w w'
theorem specPut_any (T Sb : Nat) (A : Option Addr) (n c : Nat) (w0 w : World) (s : TS) (k : Int) (t : ByteArray) (h : TL 97 T Sb A n c w0 s w) (hs : s.1.length ≤ 1000000) :
  Calls prog 112 #[.pointer (some ⟨T, 0, none⟩), .int .i64 k, .string t] w (Puts 97 T Sb A n c w0 w (s.1 ++ [(k, t)], s.2)) := by
 obtain ⟨AS, cS, hb, hm, ho, hl, hTS, hT, hS, hne, hbw⟩ := h
 obtain ⟨i0, hi, hz0, hz1, hz2⟩ := info_parts infoSign
 have HI := hid (And.intro hi (And.intro hz0 (And.intro hz1 hz2)))
 have HM := hid hm
 have HP := hid (fun (o : Obj) (v' : Value) (w3 : World) => TL.push (ty := 97) (s := s) (o := o) (v' := v') (w3 := w3) (by decide) hb hm ho hl hTS hT hS hbw (k, t))
 have HB := hid (fun (o : Obj) (w3 : World) => tl_blk (o := o) (w3 := w3) hb (by decide) hm)
 have k1 := hb.q1
 have kf := hb.frozen
 have kz := hb.lt
 clear hi hz0 hz1 hz2 hm ho hne
 unfold Puts
 go_enter func112, ntmps112
 go_wp2_with (at_builtin; (refine wpList_append_own _ rfl (.tmp 10) (.tmp 14) _ rfl w0.heap.size 68 i0 (.agg #[.int .i64 0, .string ⟨#[]⟩, .int .i64 0, .bool false]) 4 40 underlying57 HI.out.1 HI.out.2.1 HI.out.2.2.1 HI.out.2.2.2 rfl (by decide) _ _ _ rfl (Mine.alloc HM.out _) ⟨w.heap.size, 0, none⟩ 1 1 (signCells (k, t)) rfl rfl (cell4_new _ (k, t) _) (sign_one _) (by unfold maxLen; omega) (by omega) (by have := hbw.size; simp; omega) ?_); intro v' w3 hown3 hg3 hnil3; (obtain ⟨A3, c3, rfl, m3⟩ := Mine.of hown3); (have hb3 := HB.out _ _ hg3); (have k31 := hb3.cell 1); (have f3 := hb3.frozen); (have z3 := hb3.lt); simp only [List.getElem?_toArray, List.getElem?_cons_zero, List.getElem?_cons_succ] at k31)
 have hfin := HP.out _ _ _ hown3 hg3
 go_wp2
 go_end0
 exact ⟨rfl, hfin⟩
def putS (s : TS) (d : SgD) : TS := (s.1 ++ [d], s.2)
theorem specWord_any (T Sb : Nat) (A : Option Addr) (n c : Nat) (w0 w : World) (s : TS) (t : ByteArray) (h : TL 97 T Sb A n c w0 s w) (hs : s.1.length ≤ 1000000) :
  Calls prog 108 #[.pointer (some ⟨T, 0, none⟩), .string t] w (Puts 97 T Sb A n c w0 w (putS s (1, t))) := by
 have H := hid (specPut_any T Sb A n c w0 w s 1 t h hs)
 unfold Puts putS
 clear h
 go_enter func108, ntmps108
 go_wp2_with fail
 refine (H.out).mono ?_
 rintro e w2 ⟨rfl, h1, h2⟩
 go_wp2
 go_end0
 exact ⟨rfl, h1, h2⟩
theorem specMark_any (T Sb : Nat) (A : Option Addr) (n c : Nat) (w0 w : World) (s : TS) (t : ByteArray) (h : TL 97 T Sb A n c w0 s w) (hs : s.1.length ≤ 1000000) :
  Calls prog 109 #[.pointer (some ⟨T, 0, none⟩), .string t] w (Puts 97 T Sb A n c w0 w (putS s (4, t))) := by
 have H := hid (specPut_any T Sb A n c w0 w s 4 t h hs)
 unfold Puts putS
 clear h
 go_enter func109, ntmps109
 go_wp2_with fail
 refine (H.out).mono ?_
 rintro e w2 ⟨rfl, h1, h2⟩
 go_wp2
 go_end0
 exact ⟨rfl, h1, h2⟩
theorem implWord_any (T Sb : Nat) (A : Option Addr) (n c : Nat) (w0 w : World) (SS : TS) (t : ByteArray) (h : TL 76 T Sb A n c w0 SS w) (hs : SS.1.length ≤ 1000000) :
  Calls prog 151 #[.pointer (some ⟨T, 0, none⟩), .string t] w (Puts 76 T Sb A n c w0 w (putS SS (1, t))) := by
 obtain ⟨AS, cS, hb, hm, ho, hl, hTS, hT, hS, hne, hbw⟩ := h
 obtain ⟨i0, hi, hz0, hz1, hz2⟩ := info_parts infoSign
 have HI := hid (And.intro hi (And.intro hz0 (And.intro hz1 hz2)))
 have HM := hid hm
 have HP := hid (fun (o : Obj) (v' : Value) (w3 : World) => TL.push (ty := 76) (s := SS) (o := o) (v' := v') (w3 := w3) (by decide) hb hm ho hl hTS hT hS hbw (1, t))
 have HB := hid (fun (o : Obj) (w3 : World) => tl_blk (o := o) (w3 := w3) hb (by decide) hm)
 have k1 := hb.q1
 have kf := hb.frozen
 have kz := hb.lt
 clear hi hz0 hz1 hz2 hm ho hne
 unfold Puts putS
 go_enter func151, ntmps151
 go_wp2_with (at_builtin; (refine wpList_append_own _ rfl (.tmp 8) (.tmp 11) _ rfl w0.heap.size 68 i0 (.agg #[.int .i64 0, .string ⟨#[]⟩, .int .i64 0, .bool false]) 4 40 underlying57 HI.out.1 HI.out.2.1 HI.out.2.2.1 HI.out.2.2.2 rfl (by decide) _ _ _ rfl (Mine.alloc HM.out _) ⟨w.heap.size, 0, none⟩ 1 1 (signCells (1, t)) rfl rfl (cell4_new _ (1, t) _) (sign_one _) (by unfold maxLen; omega) (by omega) (by have := hbw.size; simp; omega) ?_); intro v' w3 hown3 hg3 hnil3; (obtain ⟨A3, c3, rfl, m3⟩ := Mine.of hown3); (have hb3 := HB.out _ _ hg3); (have k31 := hb3.cell 1); (have f3 := hb3.frozen); (have z3 := hb3.lt); simp only [List.getElem?_toArray, List.getElem?_cons_zero, List.getElem?_cons_succ] at k31)
 have hfin := HP.out _ _ _ hown3 hg3
 go_wp2
 go_end0
 exact ⟨rfl, hfin⟩
def marksS (s : TS) (ts : List ByteArray) : TS := (s.1 ++ ts.map (fun t => ((4 : Int), t)), s.2)
theorem marksS_step {s : TS} {ts : List ByteArray} {k : Nat} {t : ByteArray} (h : ts[k]? = some t) : marksS s (ts.take (k + 1)) = putS (marksS s (ts.take k)) (4, t) := by
 unfold marksS putS; rw [List.take_add_one, h]; simp
theorem implMark_many (T Sb : Nat) (A : Option Addr) (n c : Nat) (w0 w : World) (s : TS) (ts : List ByteArray) (g : Nat) (h : TL 76 T Sb A n c w0 s w) (hs : s.1.length + ts.length ≤ 1000000) (hg : Blk w g 9 (ts.map Value.string).toArray) (hgT : g ≠ T) (hgS : g ≠ Sb) :
  Calls prog 152 #[.pointer (some ⟨T, 0, none⟩), .slice (some ⟨g, 0, none⟩) ts.length ts.length] w (Puts 76 T Sb A n c w0 w (marksS s ts)) := by
 unfold Puts
 have HTL := hid h
 have HG := hid hg
 clear h hg
 go_enter func152, ntmps152
 go_wp2
 go_loopw [8] (fun i wr => ∃ k : Nat, k ≤ ts.length ∧ i = .int .i64 k ∧ TL 76 T Sb A n c w0 (marksS s (ts.take k)) wr ∧ Kp T Sb w wr) (fun i _ => ts.length - (intOf i).toNat)
 case atStart => exact ⟨0, Nat.zero_le _, rfl, by simpa [marksS] using HTL.out, Kp.refl _ _ _⟩
 case round =>
  obtain ⟨k, hk, rfl, htl, hkp⟩ := hrel
  by_cases hlt : k < ts.length
  ·obtain ⟨t, hd⟩ : ∃ d, ts[k]? = some d := ⟨_, List.getElem?_eq_getElem hlt⟩
   have hG := HG.out.kp hkp hgT hgS (by decide)
   have gk : wr.cell? ⟨g, k, none⟩ = some (.string t) := by rw [hG.cell]; simp [hd]
   have gz := hG.lt
   have gk2 : (k : Int) < ts.length := by omega
   have hst := hid (marksS_step (s := s) hd)
   have hlen : (marksS s (ts.take k)).1.length ≤ 1000000 := by unfold marksS; simp; omega
   generalize marksS s (ts.take k) = SS at htl hst hlen
   have hKP := hid hkp
   obtain ⟨AS, cS, hb, hm, ho, hl, hTS, hT, hS, hne, hbw⟩ := htl
   obtain ⟨i0, hi, hz0, hz1, hz2⟩ := info_parts infoSign
   have HI := hid (And.intro hi (And.intro hz0 (And.intro hz1 hz2)))
   have HM := hid hm
   have HP := hid (fun (o : Obj) (v' : Value) (w3 : World) => TL.push (ty := 76) (s := SS) (o := o) (v' := v') (w3 := w3) (by decide) hb hm ho hl hTS hT hS hbw (4, t))
   have HB := hid (fun (o : Obj) (w3 : World) => tl_blk (o := o) (w3 := w3) hb (by decide) hm)
   have k1 := hb.q1
   have kf := hb.frozen
   have kz := hb.lt
   clear hi hz0 hz1 hz2 hm ho hne
   clear hkp hd hG
   go_wp2_with (at_builtin; (refine wpList_append_own _ rfl (.tmp 16) (.tmp 19) _ rfl w0.heap.size 68 i0 (.agg #[.int .i64 0, .string ⟨#[]⟩, .int .i64 0, .bool false]) 4 40 underlying57 HI.out.1 HI.out.2.1 HI.out.2.2.1 HI.out.2.2.2 rfl (by decide) _ _ _ rfl (Mine.alloc HM.out _) ⟨wr.heap.size, 0, none⟩ 1 1 (signCells (4, t)) rfl rfl (cell4_new _ (4, t) _) (sign_one _) (by unfold maxLen; omega) (by omega) (by have := hbw.size; simp; omega) ?_); intro v' w3 hown3 hg3 hnil3; (obtain ⟨A3, c3, rfl, m3⟩ := Mine.of hown3); (have hb3 := HB.out _ _ hg3); (have k31 := hb3.cell 1); (have f3 := hb3.frozen); (have z3 := hb3.lt); simp only [List.getElem?_toArray, List.getElem?_cons_zero, List.getElem?_cons_succ] at k31)
   have hfin := HP.out _ _ _ hown3 hg3
   go_wp2
   go_roundw
   case rel => exact ⟨k + 1, by omega, by go_num, by rw [hst.out]; exact hfin.1, hKP.out.trans hfin.2⟩
   case measure => simp [intOf]; omega
  ·obtain rfl : k = ts.length := by omega
   rw [List.take_length] at htl
   go_wp2
   go_end0
   exact ⟨rfl, htl, hkp⟩
inductive Ev
 | sg (k : Int) (t : ByteArray)
 | kid (j : Int)
def stepE (f : Nat → TS → TS) (s : TS) : Ev → TS
 | .sg k t => putS s (k, t)
 | .kid j => f j.toNat s
def runE (f : Nat → TS → TS) (s : TS) (es : List Ev) : TS := es.foldl (stepE f) s
def Mono (f : Nat → TS → TS) : Prop := ∀ k s, s.1.length ≤ (f k s).1.length
section
variable {f : Nat → TS → TS} {s : TS} {es fs : List Ev}
theorem runE_app : runE f s (es ++ fs) = runE f (runE f s es) fs := List.foldl_append
theorem runE_cons {e : Ev} : runE f s (e :: es) = runE f (stepE f s e) es := rfl
theorem stepE_mono (h : Mono f) (e : Ev) : s.1.length ≤ (stepE f s e).1.length := by
 cases e with
 | sg k t => simp [stepE, putS]
 | kid j => exact h _ _
theorem runE_mono (h : Mono f) : ∀ (es : List Ev) (s : TS), s.1.length ≤ (runE f s es).1.length := by
 intro es
 induction es with
 | nil => intro s; exact Nat.le_refl _
 | cons e es ih => intro s; rw [runE_cons]; exact Nat.le_trans (stepE_mono h e) (ih _)
theorem runE_head (h : Mono f) {N : Nat} (hb : (runE f s (es ++ fs)).1.length ≤ N) : (runE f s es).1.length ≤ N := by
 rw [runE_app] at hb
 exact Nat.le_trans (runE_mono h fs _) hb
end
def mkE (t : ByteArray) : Ev := .sg 4 t
def sepE (mk : ByteArray) : List Int → List Ev
 | [] => []
 | k :: r => .kid k :: r.flatMap (fun v => [mkE mk, .kid v])
def allE (ks : List Int) : List Ev := ks.map .kid
theorem sepE_app (mk : ByteArray) {a : List Int} (ha : a ≠ []) (b : List Int) : sepE mk (a ++ b) = sepE mk a ++ b.flatMap (fun v => [mkE mk, .kid v]) := by
 cases a with
 | nil => exact absurd rfl ha
 | cons x a => simp [sepE]
theorem sepE_step {mk : ByteArray} {ks : List Int} {i : Nat} {v : Int} (hv : ks[i]? = some v) : sepE mk (ks.take (i + 1)) = sepE mk (ks.take i) ++ (if 0 < i then [mkE mk, .kid v] else [.kid v]) := by
 rw [List.take_add_one, hv]
 have hl := (List.getElem?_eq_some_iff.1 hv).1
 by_cases hi : 0 < i
 ·rw [sepE_app mk (by intro e; have := congrArg List.length e; rw [List.length_take, List.length_nil] at this; omega), if_pos hi]; simp
 ·obtain rfl : i = 0 := by omega
  simp [sepE]
theorem sepE_pre (mk : ByteArray) (ks : List Int) (i : Nat) : ∃ fs, sepE mk ks = sepE mk (ks.take i) ++ fs := by
 by_cases h : ks.take i = []
 ·exact ⟨sepE mk ks, by rw [h]; rfl⟩
 ·refine ⟨(ks.drop i).flatMap (fun v => [mkE mk, .kid v]), ?_⟩
  conv => lhs; rw [← List.take_append_drop i ks]
  exact sepE_app mk h _
theorem allE_step {ks : List Int} {i : Nat} {v : Int} (hv : ks[i]? = some v) : allE (ks.take (i + 1)) = allE (ks.take i) ++ [.kid v] := by
 rw [List.take_add_one, hv]; simp [allE]
theorem allE_pre (ks : List Int) (i : Nat) : ∃ fs, allE ks = allE (ks.take i) ++ fs := ⟨allE (ks.drop i), by unfold allE; rw [← List.map_append, List.take_append_drop]⟩
def t1 (n : Nat) : ByteArray := ⟨#[n.toUInt8]⟩
def evs (p : PN) : List Ev :=
 let k := p.kids
 let kd := fun (i : Nat) => Ev.kid (k.getD i 0)
 if p.kind = 1 then [.sg 1 p.text]
 else if p.kind = 2 then [.sg 2 p.text]
 else if p.kind = 3 then [.sg 3 p.text]
 else if p.kind = 4 then mkE ⟨#[91]⟩ :: (sepE ⟨#[44]⟩ k ++ [mkE ⟨#[93]⟩])
 else if p.kind = 5 then kd 0 :: mkE ⟨#[40]⟩ :: (sepE ⟨#[44]⟩ (k.drop 1) ++ [mkE ⟨#[41]⟩])
 else if p.kind = 6 then [kd 0, mkE ⟨#[46]⟩, .sg 1 p.text]
 else if p.kind = 7 then sepE p.text k
 else if p.kind = 8 then [kd 0, mkE ⟨#[63]⟩, kd 1, mkE ⟨#[58]⟩, kd 2]
 else if p.kind = 9 then mkE ⟨#[40]⟩ :: (sepE ⟨#[44]⟩ (k.take (k.length - 1)) ++ [mkE ⟨#[41]⟩, mkE ⟨#[61, 62]⟩, kd (k.length - 1)])
 else if p.kind = 10 then sepE ⟨#[46, 46]⟩ k
 else if p.kind = 11 then [mkE ⟨#[40]⟩, kd 0, mkE ⟨#[41]⟩]
 else if p.kind = 12 then .sg 1 ⟨#[118, 97, 114]⟩ :: .sg 1 p.text :: ((if 0 < k.length then [mkE ⟨#[61]⟩] else []) ++ (allE k ++ [mkE ⟨#[59]⟩]))
 else if p.kind = 13 then .sg 1 p.text :: ((if 0 < k.length then [mkE ⟨#[61]⟩] else []) ++ (allE k ++ [mkE ⟨#[59]⟩]))
 else if p.kind = 14 then allE k ++ [mkE ⟨#[59]⟩]
 else if p.kind = 15 then .sg 1 ⟨#[114, 101, 116, 117, 114, 110]⟩ :: (allE k ++ [mkE ⟨#[59]⟩])
 else if p.kind = 16 then .sg 1 ⟨#[105, 102]⟩ :: mkE ⟨#[40]⟩ :: kd 0 :: mkE ⟨#[41]⟩ :: kd 1 :: (if k.length = 3 then [.sg 1 ⟨#[101, 108, 115, 101]⟩, kd 2] else [])
 else if p.kind = 17 then [.sg 1 ⟨#[119, 104, 105, 108, 101]⟩, mkE ⟨#[40]⟩, kd 0, mkE ⟨#[41]⟩, kd 1]
 else if p.kind = 18 then mkE ⟨#[123]⟩ :: (allE k ++ [mkE ⟨#[125]⟩])
 else if p.kind = 19 then [.sg 5 p.text]
 else if p.kind = 20 then .sg 1 p.text :: mkE ⟨#[40]⟩ :: (sepE ⟨#[44]⟩ (k.take (k.length - 1)) ++ [mkE ⟨#[41]⟩, kd (k.length - 1)])
 else if p.kind = 21 then .sg 1 ⟨#[99, 108, 97, 115, 115]⟩ :: .sg 1 p.text :: mkE ⟨#[123]⟩ :: (allE k ++ [mkE ⟨#[125]⟩])
 else if p.kind = 22 then allE k
 else []
def tellF (ps : List PN) : Nat → Nat → TS → TS
 | 0, _, s => s
 | f + 1, k, s => match ps[k]? with | none => s | some p => runE (tellF ps f) (s.1, s.2.set k (s.1.length : Int)) (evs p)
theorem tellF_mono (ps : List PN) : ∀ f, Mono (tellF ps f) := by
 intro f
 induction f with
 | zero => intro k s; exact Nat.le_refl _
 | succ f ih =>
  intro k s
  unfold tellF
  cases ps[k]? with
  | none => exact Nat.le_refl _
  | some p => exact runE_mono ih (evs p) (s.1, s.2.set k (s.1.length : Int))
theorem tellF_step {ps : List PN} {f k : Nat} {p : PN} (h : ps[k]? = some p) (s : TS) : tellF ps (f + 1) k s = runE (tellF ps f) (s.1, s.2.set k (s.1.length : Int)) (evs p) := by
 conv => lhs; unfold tellF
 rw [h]
def NodeC (F : FuncId) (ty : TypeId) (T Sb : Nat) (A : Option Addr) (n c : Nat) (w0 : World) (ps : List PN) (f : Nat) : Prop :=
 ∀ (j : Nat) (s : TS) (w : World), j < f → j < n → TL ty T Sb A n c w0 s w → (tellF ps f j s).1.length ≤ 1000000 → Calls prog F #[.pointer (some ⟨T, 0, none⟩), .int .i64 j] w (Puts ty T Sb A n c w0 w (tellF ps f j s))
theorem implMark_one (T Sb : Nat) (A : Option Addr) (n c : Nat) (w0 w : World) (s : TS) (t : ByteArray) (g : Nat) (h : TL 76 T Sb A n c w0 s w) (hs : s.1.length + 1 ≤ 1000000) (hg : Blk w g 9 #[.string t]) (hgT : g ≠ T) (hgS : g ≠ Sb) :
  Calls prog 152 #[.pointer (some ⟨T, 0, none⟩), .slice (some ⟨g, 0, none⟩) 1 1] w (Puts 76 T Sb A n c w0 w (putS s (4, t))) :=
 implMark_many T Sb A n c w0 w s [t] g h hs hg hgT hgS
theorem implMark_two (T Sb : Nat) (A : Option Addr) (n c : Nat) (w0 w : World) (s : TS) (t u : ByteArray) (g : Nat) (h : TL 76 T Sb A n c w0 s w) (hs : s.1.length + 2 ≤ 1000000) (hg : Blk w g 9 #[.string t, .string u]) (hgT : g ≠ T) (hgS : g ≠ Sb) :
  Calls prog 152 #[.pointer (some ⟨T, 0, none⟩), .slice (some ⟨g, 0, none⟩) 2 2] w (Puts 76 T Sb A n c w0 w (putS (putS s (4, t)) (4, u))) := by
 have := implMark_many T Sb A n c w0 w s [t, u] g h hs hg hgT hgS
 rwa [show marksS s [t, u] = putS (putS s (4, t)) (4, u) by simp [marksS, putS]] at this
theorem implList_any (T Sb : Nat) (A : Option Addr) (n c : Nat) (w0 w : World) (ps : List PN) (f : Nat) (A' : Option Addr) (m c' : Nat) (l : List Int) (mk : ByteArray) (s : TS) (hN : NodeC 85 76 T Sb A n c w0 ps f) (hl : Hid (l.length = m)) (hm : m ≤ 4096) (hr : Rd w0 1 A' m (intCells l)) (hv : Hid (∀ v ∈ l, 0 ≤ v ∧ v < (f : Int) ∧ v < (n : Int))) (h : TL 76 T Sb A n c w0 s w) (hs : (runE (tellF ps f) s (sepE mk l)).1.length ≤ 1000000) :
  Calls prog 153 #[.pointer (some ⟨T, 0, none⟩), .slice A' m c', .string mk] w (Puts 76 T Sb A n c w0 w (runE (tellF ps f) s (sepE mk l))) := by
 unfold Puts
 have HTL := hid h
 have HN := hid hN
 have HR := hid hr
 have HS := hid (fun i => (show (runE (tellF ps f) s (sepE mk (l.take i))).1.length ≤ 1000000 by
  obtain ⟨fs, hfs⟩ := sepE_pre mk l i
  rw [hfs] at hs
  exact runE_head (tellF_mono ps f) hs))
 clear h hN hr hs
 go_enter func153, ntmps153
 go_wp2
 go_loopw [10] (fun j wr => ∃ i : Nat, i ≤ m ∧ j = .int .i64 i ∧ TL 76 T Sb A n c w0 (runE (tellF ps f) s (sepE mk (l.take i))) wr ∧ Kp T Sb w wr) (fun j _ => m - (intOf j).toNat)
 case atStart => exact ⟨0, Nat.zero_le _, rfl, by simpa [runE, sepE, allE] using HTL.out, Kp.refl _ _ _⟩
 case round =>
  obtain ⟨i, hi, rfl, htl, hkp⟩ := hrel
  by_cases hlt : i < m
  ·obtain ⟨v, hd⟩ : ∃ d, l[i]? = some d := ⟨_, gE (by have := hl.out; omega)⟩
   have hvv := hv.out v (List.mem_of_getElem? hd)
   obtain ⟨q, rfl⟩ := Int.eq_ofNat_of_zero_le hvv.1
   have hqf : q < f := by omega
   have hqn : q < n := by omega
   have gi : (i : Int) < m := by omega
   obtain ⟨b5, off5, rfl, hblt5, cv⟩ := int_at (HR.out.below htl.below) hlt hd
   have hnext := HS.out (i + 1)
   have HD := hid hd
   have HT1 := hid htl
   have HKP := hid hkp
   have zT := htl.blkT
   have zS := htl.blkS
   clear hvv hd htl hkp
   have hst := hid (sepE_step (mk := mk) HD.out)
   by_cases hi0 : 0 < i
   ·have hi0' : (0 : Int) < i := by omega
    have hrun := hid (show runE (tellF ps f) s (sepE mk (l.take (i + 1))) = tellF ps f q (putS (runE (tellF ps f) s (sepE mk (l.take i))) (4, mk)) by
     rw [hst.out, if_pos hi0, runE_app]; rfl)
    rw [hrun.out] at hnext
    have hlen1 : (runE (tellF ps f) s (sepE mk (l.take i))).1.length + 1 ≤ 1000000 := by
     have := Nat.le_trans (tellF_mono ps f q (putS (runE (tellF ps f) s (sepE mk (l.take i))) (4, mk))) hnext
     simpa [putS] using this
    generalize runE (tellF ps f) s (sepE mk (l.take i)) = SI at HT1 hrun hnext hlen1
    clear hst
    have HM := hid (fun (W : World) (g : Nat) (ht : TL 76 T Sb A n c w0 SI W) (hg : Blk W g 9 #[.string mk]) h1 h2 => implMark_one T Sb A n c w0 W SI mk g ht hlen1 hg h1 h2)
    go_wp2_with fail
    refine (HM.out _ _ (HT1.out.alloc _) (Blk.new _ _ _) (by omega) (by omega)).mono ?_
    rintro e w2 ⟨rfl, ht2, hk2⟩
    have hk3 := HKP.out.trans hk2.of_alloc
    go_wp2_with fail
    refine (HN.out q _ _ hqf hqn ht2 hnext).mono ?_
    rintro e w3 ⟨rfl, ht3, hk4⟩
    go_wp2
    go_roundw
    case rel => exact ⟨i + 1, by omega, by go_num, (by rw [hrun.out]; exact ht3), hk3.trans hk4⟩
    case measure => simp [intOf]; omega
   ·have hi0' : ¬ (0 : Int) < i := by omega
    have hrun := hid (show runE (tellF ps f) s (sepE mk (l.take (i + 1))) = tellF ps f q (runE (tellF ps f) s (sepE mk (l.take i))) by
     rw [hst.out, if_neg hi0, runE_app]; rfl)
    rw [hrun.out] at hnext
    generalize runE (tellF ps f) s (sepE mk (l.take i)) = SI at HT1 hrun hnext
    clear hst
    go_wp2_with fail
    refine (HN.out q _ _ hqf hqn HT1.out hnext).mono ?_
    rintro e w3 ⟨rfl, ht3, hk4⟩
    go_wp2
    go_roundw
    case rel => exact ⟨i + 1, by omega, by go_num, (by rw [hrun.out]; exact ht3), HKP.out.trans hk4⟩
    case measure => simp [intOf]; omega
  ·obtain rfl : i = m := by omega
   rw [show l.take i = l by rw [List.take_of_length_le (by have := hl.out; omega)]] at htl
   have HT1 := hid htl
   have HKP := hid hkp
   clear htl hkp
   go_wp2
   go_end0
   exact ⟨rfl, HT1.out, HKP.out⟩
theorem implEach_any (T Sb : Nat) (A : Option Addr) (n c : Nat) (w0 w : World) (ps : List PN) (f : Nat) (A' : Option Addr) (m c' : Nat) (l : List Int) (s : TS) (hN : NodeC 85 76 T Sb A n c w0 ps f) (hl : Hid (l.length = m)) (hm : m ≤ 4096) (hr : Rd w0 1 A' m (intCells l)) (hv : Hid (∀ v ∈ l, 0 ≤ v ∧ v < (f : Int) ∧ v < (n : Int))) (h : TL 76 T Sb A n c w0 s w) (hs : (runE (tellF ps f) s (allE l)).1.length ≤ 1000000) :
  Calls prog 154 #[.pointer (some ⟨T, 0, none⟩), .slice A' m c'] w (Puts 76 T Sb A n c w0 w (runE (tellF ps f) s (allE l))) := by
 unfold Puts
 have HTL := hid h
 have HN := hid hN
 have HR := hid hr
 have HS := hid (fun i => (show (runE (tellF ps f) s (allE (l.take i))).1.length ≤ 1000000 by
  obtain ⟨fs, hfs⟩ := allE_pre l i
  rw [hfs] at hs
  exact runE_head (tellF_mono ps f) hs))
 clear h hN hr hs
 go_enter func154, ntmps154
 go_wp2
 go_loopw [8] (fun j wr => ∃ i : Nat, i ≤ m ∧ j = .int .i64 i ∧ TL 76 T Sb A n c w0 (runE (tellF ps f) s (allE (l.take i))) wr ∧ Kp T Sb w wr) (fun j _ => m - (intOf j).toNat)
 case atStart => exact ⟨0, Nat.zero_le _, rfl, by simpa [runE, sepE, allE] using HTL.out, Kp.refl _ _ _⟩
 case round =>
  obtain ⟨i, hi, rfl, htl, hkp⟩ := hrel
  by_cases hlt : i < m
  ·obtain ⟨v, hd⟩ : ∃ d, l[i]? = some d := ⟨_, gE (by have := hl.out; omega)⟩
   have hvv := hv.out v (List.mem_of_getElem? hd)
   obtain ⟨q, rfl⟩ := Int.eq_ofNat_of_zero_le hvv.1
   have hqf : q < f := by omega
   have hqn : q < n := by omega
   have gi : (i : Int) < m := by omega
   obtain ⟨b5, off5, rfl, hblt5, cv⟩ := int_at (HR.out.below htl.below) hlt hd
   have hnext := HS.out (i + 1)
   have HD := hid hd
   have HT1 := hid htl
   have HKP := hid hkp
   have zT := htl.blkT
   have zS := htl.blkS
   clear hvv hd htl hkp
   have hrun := hid (show runE (tellF ps f) s (allE (l.take (i + 1))) = tellF ps f q (runE (tellF ps f) s (allE (l.take i))) by
    rw [allE_step HD.out, runE_app]; rfl)
   rw [hrun.out] at hnext
   generalize runE (tellF ps f) s (allE (l.take i)) = SI at HT1 hrun hnext
   go_wp2_with fail
   refine (HN.out q _ _ hqf hqn HT1.out hnext).mono ?_
   rintro e w3 ⟨rfl, ht3, hk4⟩
   go_wp2
   go_roundw
   case rel => exact ⟨i + 1, by omega, by go_num, (by rw [hrun.out]; exact ht3), HKP.out.trans hk4⟩
   case measure => simp [intOf]; omega
  ·obtain rfl : i = m := by omega
   rw [show l.take i = l by rw [List.take_of_length_le (by have := hl.out; omega)]] at htl
   have HT1 := hid htl
   have HKP := hid hkp
   clear htl hkp
   go_wp2
   go_end0
   exact ⟨rfl, HT1.out, HKP.out⟩
theorem specSome_any (T Sb : Nat) (A : Option Addr) (n c : Nat) (w0 w : World) (ps : List PN) (f : Nat) (A' : Option Addr) (m c' : Nat) (l : List Int) (s : TS) (hN : NodeC 80 97 T Sb A n c w0 ps f) (hl : Hid (l.length = m)) (hm : m ≤ 4096) (hr : Rd w0 1 A' m (intCells l)) (hv : Hid (∀ v ∈ l, 0 ≤ v ∧ v < (f : Int) ∧ v < (n : Int))) (h : TL 97 T Sb A n c w0 s w) (hs : (runE (tellF ps f) s (sepE ⟨#[44]⟩ l)).1.length ≤ 1000000) :
  Calls prog 113 #[.pointer (some ⟨T, 0, none⟩), .slice A' m c'] w (Puts 97 T Sb A n c w0 w (runE (tellF ps f) s (sepE ⟨#[44]⟩ l))) := by
 unfold Puts
 have HTL := hid h
 have HN := hid hN
 have HR := hid hr
 have HS := hid (fun i => (show (runE (tellF ps f) s (sepE ⟨#[44]⟩ (l.take i))).1.length ≤ 1000000 by
  obtain ⟨fs, hfs⟩ := sepE_pre ⟨#[44]⟩ l i
  rw [hfs] at hs
  exact runE_head (tellF_mono ps f) hs))
 clear h hN hr hs
 go_enter func113, ntmps113
 go_wp2
 go_loopw [4] (fun j wr => ∃ i : Nat, i ≤ m ∧ j = .int .i64 i ∧ TL 97 T Sb A n c w0 (runE (tellF ps f) s (sepE ⟨#[44]⟩ (l.take i))) wr ∧ Kp T Sb w wr) (fun j _ => m - (intOf j).toNat)
 case atStart => exact ⟨0, Nat.zero_le _, rfl, by simpa [runE, sepE, allE] using HTL.out, Kp.refl _ _ _⟩
 case round =>
  obtain ⟨i, hi, rfl, htl, hkp⟩ := hrel
  by_cases hlt : i < m
  ·obtain ⟨v, hd⟩ : ∃ d, l[i]? = some d := ⟨_, gE (by have := hl.out; omega)⟩
   have hvv := hv.out v (List.mem_of_getElem? hd)
   obtain ⟨q, rfl⟩ := Int.eq_ofNat_of_zero_le hvv.1
   have hqf : q < f := by omega
   have hqn : q < n := by omega
   have gi : (i : Int) < m := by omega
   obtain ⟨b5, off5, rfl, hblt5, cv⟩ := int_at (HR.out.below htl.below) hlt hd
   have hnext := HS.out (i + 1)
   have HD := hid hd
   have HT1 := hid htl
   have HKP := hid hkp
   have zT := htl.blkT
   have zS := htl.blkS
   clear hvv hd htl hkp
   have hst := hid (sepE_step (mk := ⟨#[44]⟩) HD.out)
   by_cases hi0 : 0 < i
   ·have hi0' : (0 : Int) < i := by omega
    have hrun := hid (show runE (tellF ps f) s (sepE ⟨#[44]⟩ (l.take (i + 1))) = tellF ps f q (putS (runE (tellF ps f) s (sepE ⟨#[44]⟩ (l.take i))) (4, ⟨#[44]⟩)) by
     rw [hst.out, if_pos hi0, runE_app]; rfl)
    rw [hrun.out] at hnext
    have hlen1 : (runE (tellF ps f) s (sepE ⟨#[44]⟩ (l.take i))).1.length + 1 ≤ 1000000 := by
     have := Nat.le_trans (tellF_mono ps f q (putS (runE (tellF ps f) s (sepE ⟨#[44]⟩ (l.take i))) (4, ⟨#[44]⟩))) hnext
     simpa [putS] using this
    generalize runE (tellF ps f) s (sepE ⟨#[44]⟩ (l.take i)) = SI at HT1 hrun hnext hlen1
    clear hst
    have HM := hid (specMark_any T Sb A n c w0 wr SI ⟨#[44]⟩ HT1.out (by omega))
    go_wp2_with fail
    refine (HM.out).mono ?_
    rintro e w2 ⟨rfl, ht2, hk2⟩
    have hk3 := HKP.out.trans hk2
    obtain ⟨b6, off6, e6, hblt6, cv2⟩ := int_at (HR.out.below ht2.below) hlt HD.out
    injection e6 with e6
    injection e6 with e61 e62
    subst e61; subst e62
    go_wp2_with fail
    refine (HN.out q _ _ hqf hqn ht2 hnext).mono ?_
    rintro e w3 ⟨rfl, ht3, hk4⟩
    go_wp2
    go_roundw
    case rel => exact ⟨i + 1, by omega, by go_num, (by rw [hrun.out]; exact ht3), hk3.trans hk4⟩
    case measure => simp [intOf]; omega
   ·have hi0' : ¬ (0 : Int) < i := by omega
    have hrun := hid (show runE (tellF ps f) s (sepE ⟨#[44]⟩ (l.take (i + 1))) = tellF ps f q (runE (tellF ps f) s (sepE ⟨#[44]⟩ (l.take i))) by
     rw [hst.out, if_neg hi0, runE_app]; rfl)
    rw [hrun.out] at hnext
    generalize runE (tellF ps f) s (sepE ⟨#[44]⟩ (l.take i)) = SI at HT1 hrun hnext
    clear hst
    go_wp2_with fail
    refine (HN.out q _ _ hqf hqn HT1.out hnext).mono ?_
    rintro e w3 ⟨rfl, ht3, hk4⟩
    go_wp2
    go_roundw
    case rel => exact ⟨i + 1, by omega, by go_num, (by rw [hrun.out]; exact ht3), HKP.out.trans hk4⟩
    case measure => simp [intOf]; omega
  ·obtain rfl : i = m := by omega
   rw [show l.take i = l by rw [List.take_of_length_le (by have := hl.out; omega)]] at htl
   have HT1 := hid htl
   have HKP := hid hkp
   clear htl hkp
   go_wp2
   go_end0
   exact ⟨rfl, HT1.out, HKP.out⟩
theorem specAll_any (T Sb : Nat) (A : Option Addr) (n c : Nat) (w0 w : World) (ps : List PN) (f : Nat) (A' : Option Addr) (m c' : Nat) (l : List Int) (s : TS) (hN : NodeC 80 97 T Sb A n c w0 ps f) (hl : Hid (l.length = m)) (hm : m ≤ 4096) (hr : Rd w0 1 A' m (intCells l)) (hv : Hid (∀ v ∈ l, 0 ≤ v ∧ v < (f : Int) ∧ v < (n : Int))) (h : TL 97 T Sb A n c w0 s w) (hs : (runE (tellF ps f) s (allE l)).1.length ≤ 1000000) :
  Calls prog 110 #[.pointer (some ⟨T, 0, none⟩), .slice A' m c'] w (Puts 97 T Sb A n c w0 w (runE (tellF ps f) s (allE l))) := by
 unfold Puts
 have HTL := hid h
 have HN := hid hN
 have HR := hid hr
 have HS := hid (fun i => (show (runE (tellF ps f) s (allE (l.take i))).1.length ≤ 1000000 by
  obtain ⟨fs, hfs⟩ := allE_pre l i
  rw [hfs] at hs
  exact runE_head (tellF_mono ps f) hs))
 clear h hN hr hs
 go_enter func110, ntmps110
 go_wp2
 go_loopw [4] (fun j wr => ∃ i : Nat, i ≤ m ∧ j = .int .i64 i ∧ TL 97 T Sb A n c w0 (runE (tellF ps f) s (allE (l.take i))) wr ∧ Kp T Sb w wr) (fun j _ => m - (intOf j).toNat)
 case atStart => exact ⟨0, Nat.zero_le _, rfl, by simpa [runE, sepE, allE] using HTL.out, Kp.refl _ _ _⟩
 case round =>
  obtain ⟨i, hi, rfl, htl, hkp⟩ := hrel
  by_cases hlt : i < m
  ·obtain ⟨v, hd⟩ : ∃ d, l[i]? = some d := ⟨_, gE (by have := hl.out; omega)⟩
   have hvv := hv.out v (List.mem_of_getElem? hd)
   obtain ⟨q, rfl⟩ := Int.eq_ofNat_of_zero_le hvv.1
   have hqf : q < f := by omega
   have hqn : q < n := by omega
   have gi : (i : Int) < m := by omega
   obtain ⟨b5, off5, rfl, hblt5, cv⟩ := int_at (HR.out.below htl.below) hlt hd
   have hnext := HS.out (i + 1)
   have HD := hid hd
   have HT1 := hid htl
   have HKP := hid hkp
   have zT := htl.blkT
   have zS := htl.blkS
   clear hvv hd htl hkp
   have hrun := hid (show runE (tellF ps f) s (allE (l.take (i + 1))) = tellF ps f q (runE (tellF ps f) s (allE (l.take i))) by
    rw [allE_step HD.out, runE_app]; rfl)
   rw [hrun.out] at hnext
   generalize runE (tellF ps f) s (allE (l.take i)) = SI at HT1 hrun hnext
   go_wp2_with fail
   refine (HN.out q _ _ hqf hqn HT1.out hnext).mono ?_
   rintro e w3 ⟨rfl, ht3, hk4⟩
   go_wp2
   go_roundw
   case rel => exact ⟨i + 1, by omega, by go_num, (by rw [hrun.out]; exact ht3), HKP.out.trans hk4⟩
   case measure => simp [intOf]; omega
  ·obtain rfl : i = m := by omega
   rw [show l.take i = l by rw [List.take_of_length_le (by have := hl.out; omega)]] at htl
   have HT1 := hid htl
   have HKP := hid hkp
   clear htl hkp
   go_wp2
   go_end0
   exact ⟨rfl, HT1.out, HKP.out⟩
def LeftE (f : Nat → TS → TS) (s : TS) (es : List Ev) (fin : TS) : Prop := Mono f ∧ runE f s es = fin ∧ fin.1.length ≤ 1000000
section
variable {f : Nat → TS → TS} {s fin : TS} {a b : List Ev}
theorem LeftE.seg (h : LeftE f s (a ++ b) fin) : (runE f s a).1.length ≤ 1000000 ∧ LeftE f (runE f s a) b fin := by
 obtain ⟨hm, h1, h2⟩ := h
 have h3 : (runE f s (a ++ b)).1.length ≤ 1000000 := by rw [h1]; exact h2
 exact ⟨runE_head hm h3, hm, by rw [← h1, runE_app], h2⟩
theorem LeftE.done (h : LeftE f s [] fin) : s = fin := h.2.1
theorem run1_len (hm : Mono f) {e : Ev} (h : (runE f s [e]).1.length ≤ 1000000) : s.1.length ≤ 1000000 := Nat.le_trans (runE_mono hm [e] s) h
theorem run1_len1 {t : ByteArray} (h : (runE f s [mkE t]).1.length ≤ 1000000) : s.1.length + 1 ≤ 1000000 := by simpa [runE, stepE, mkE, putS] using h
theorem run1_len2 {t u : ByteArray} (h : (runE f s [mkE t, mkE u]).1.length ≤ 1000000) : s.1.length + 2 ≤ 1000000 := by simpa [runE, stepE, mkE, putS] using h
end
theorem cell_kid {W : World} {b off m j : Nat} {l : List Int} {v : Int} (h : Rd W 1 (some ⟨b, off, none⟩) m (intCells l)) (hj : j < m) (hd : l[j]? = some v) : W.cell? ⟨b, off + j, none⟩ = some (.int .i64 v) := by
 obtain ⟨b', off', e, _, hc⟩ := int_at h hj hd
 injection e with e
 injection e with e1 e2
 subst e1; subst e2
 exact hc
def heldE (t : ByteArray) (q : Nat) : List Ev := [Ev.sg 1 t, mkE ⟨#[40]⟩, Ev.kid (q : Int), mkE ⟨#[41]⟩]
theorem specHeld_any (T Sb : Nat) (A : Option Addr) (n c : Nat) (w0 w : World) (ps : List PN) (f : Nat) (t : ByteArray) (q : Nat) (s : TS) (hN : NodeC 80 97 T Sb A n c w0 ps f) (hqf : q < f) (hqn : q < n) (h : TL 97 T Sb A n c w0 s w) (hS : (runE (tellF ps f) s (heldE t q)).1.length ≤ 1000000) :
  Calls prog 111 #[.pointer (some ⟨T, 0, none⟩), .string t, .int .i64 q] w (Puts 97 T Sb A n c w0 w (runE (tellF ps f) s (heldE t q))) := by
 have hL : LeftE (tellF ps f) s ([Ev.sg 1 t] ++ ([mkE ⟨#[40]⟩] ++ ([Ev.kid (q : Int)] ++ ([mkE ⟨#[41]⟩] ++ [])))) (runE (tellF ps f) s (heldE t q)) := ⟨tellF_mono ps f, rfl, hS⟩
 generalize runE (tellF ps f) s (heldE t q) = fin at hL ⊢
 unfold Puts
 have HL := hid hL
 have HN := hid hN
 have ht := hid h
 clear hL hN h hS
 go_enter func111, ntmps111
 have hbd := HL.out.seg.1
 replace HL := hid HL.out.seg.2
 have HM := hid (fun W h => specWord_any T Sb A n c w0 W _ t h (run1_len (tellF_mono ps f) hbd))
 go_wp2_with fail
 refine (HM.out _ ht.out).mono ?_
 rintro e w1 ⟨rfl, ht2, hk1⟩
 clear HM ht
 have ht := hid (show TL 97 T Sb A n c w0 (runE (tellF ps f) s [Ev.sg 1 t]) w1 from ht2)
 clear ht2 hbd
 generalize runE (tellF ps f) s [Ev.sg 1 t] = S1 at HL ht
 have hbd := HL.out.seg.1
 replace HL := hid HL.out.seg.2
 have HM := hid (fun W h => specMark_any T Sb A n c w0 W _ ⟨#[40]⟩ h (run1_len (tellF_mono ps f) hbd))
 go_wp2_with fail
 refine (HM.out _ ht.out).mono ?_
 rintro e w2 ⟨rfl, ht2, hk2⟩
 clear HM ht
 have ht := hid (show TL 97 T Sb A n c w0 (runE (tellF ps f) S1 [mkE ⟨#[40]⟩]) w2 from ht2)
 clear ht2 hbd
 generalize runE (tellF ps f) S1 [mkE ⟨#[40]⟩] = S2 at HL ht
 have hbd := HL.out.seg.1
 replace HL := hid HL.out.seg.2
 have HM := hid (fun W h => HN.out q _ W hqf hqn h hbd)
 go_wp2_with fail
 refine (HM.out _ ht.out).mono ?_
 rintro e w3 ⟨rfl, ht2, hk3⟩
 clear HM ht
 have ht := hid (show TL 97 T Sb A n c w0 (runE (tellF ps f) S2 [Ev.kid (q : Int)]) w3 from ht2)
 clear ht2 hbd
 generalize runE (tellF ps f) S2 [Ev.kid (q : Int)] = S3 at HL ht
 have hbd := HL.out.seg.1
 replace HL := hid HL.out.seg.2
 have HM := hid (fun W h => specMark_any T Sb A n c w0 W _ ⟨#[41]⟩ h (run1_len (tellF_mono ps f) hbd))
 go_wp2_with fail
 refine (HM.out _ ht.out).mono ?_
 rintro e w4 ⟨rfl, ht2, hk4⟩
 clear HM ht
 have ht := hid (show TL 97 T Sb A n c w0 (runE (tellF ps f) S3 [mkE ⟨#[41]⟩]) w4 from ht2)
 clear ht2 hbd
 generalize runE (tellF ps f) S3 [mkE ⟨#[41]⟩] = S4 at HL ht
 have hfin := HL.out.done
 subst hfin
 clear HL HN
 go_wp2
 go_end0
 exact ⟨rfl, ht.out, ((hk1.trans hk2).trans hk3).trans hk4⟩
structure At (ty : TypeId) (T Sb : Nat) (A : Option Addr) (n c : Nat) (w0 w : World) (FN : FuncId) (ps : List PN) (f : Nat) (fin : TS) (g : Nat) (kd : Int) (text : ByteArray) (A' : Option Addr) (m c' : Nat) (z : Bool) (l : List Int) (s : TS) (es : List Ev) (W : World) : Prop where
 ht : TL ty T Sb A n c w0 s W
 K : Blk W g 36 #[.int .i64 kd, .string text, .slice A' m c', .bool z]
 P : Kp T Sb w W
 L : LeftE (tellF ps f) s es fin
 gT : g ≠ T
 gS : g ≠ Sb
 hl : l.length = m
 hm : m ≤ 12
 hr : Rd w0 1 A' m (intCells l)
 hv : ∀ v ∈ l, 0 ≤ v ∧ v < (f : Int) ∧ v < (n : Int)
 N : NodeC FN ty T Sb A n c w0 ps f
section
variable {ty : TypeId} {T Sb : Nat} {A : Option Addr} {n c : Nat} {w0 w W : World} {FN : FuncId} {ps : List PN} {f : Nat} {fin : TS} {g : Nat} {kd : Int} {text : ByteArray} {A' : Option Addr} {m c' : Nat} {z : Bool} {l : List Int} {s : TS} {es a : List Ev} {b off v v' v'' : Nat} {R : Ending → World → Prop} {t u : ByteArray} {A2 : Option Addr} {m2 c2 : Nat} {l2 : List Int}
theorem At.new (h : TL ty T Sb A n c w0 s W) (hp : Kp T Sb w W) (hL : LeftE (tellF ps f) s es fin) (hN : NodeC FN ty T Sb A n c w0 ps f) (hv : ∀ v ∈ l, 0 ≤ v ∧ v < (f : Int) ∧ v < (n : Int)) (hr : Rd w0 1 A' m (intCells l)) (hl : l.length = m) (hm : m ≤ 12) :
  Hid (At ty T Sb A n c w0 w FN ps f fin W.heap.size kd text A' m c' z l s es (W.alloc (.cells #[.int .i64 kd, .string text, .slice A' m c', .bool z] 36))) :=
 ⟨h.alloc _, Blk.new _ _ _, hp.alloc _, hL, by have := h.blkT; omega, by have := h.blkS; omega, hl, hm, hr, hv, hN⟩
theorem At.facts (H : Hid (At ty T Sb A n c w0 w FN ps f fin g kd text A' m c' z l s es W)) : W.cell? ⟨g, 0, none⟩ = some (.int .i64 kd) ∧ W.cell? ⟨g, 1, none⟩ = some (.string text) ∧ W.cell? ⟨g, 2, none⟩ = some (.slice A' m c') ∧ W.cell? ⟨g, 3, none⟩ = some (.bool z) ∧ g < W.heap.size ∧ T < W.heap.size ∧ Sb < W.heap.size :=
 ⟨H.out.K.cell 0, H.out.K.cell 1, H.out.K.cell 2, H.out.K.cell 3, H.out.K.lt, H.out.ht.blkT, H.out.ht.blkS⟩
theorem At.kid {v : Int} (H : Hid (At ty T Sb A n c w0 w FN ps f fin g kd text (some ⟨b, off, none⟩) m c' z l s es W)) (j : Nat) (hd : l[j]? = some v) : W.cell? ⟨b, off + j, none⟩ = some (.int .i64 v) :=
 cell_kid (H.out.hr.below H.out.ht.below) (by rw [← H.out.hl]; exact (List.getElem?_eq_some_iff.1 hd).1) hd
theorem At.kc1 (H : Hid (At ty T Sb A n c w0 w FN ps f fin g kd text (some ⟨b, off, none⟩) m c' z ((v : Int) :: l) s es W)) : W.cell? ⟨b, off, none⟩ = some (.int .i64 v) ∧ True ∧ True := ⟨At.kid H 0 rfl, trivial, trivial⟩
theorem At.kc2 (H : Hid (At ty T Sb A n c w0 w FN ps f fin g kd text (some ⟨b, off, none⟩) m c' z [(v : Int), (v' : Int)] s es W)) : W.cell? ⟨b, off, none⟩ = some (.int .i64 v) ∧ W.cell? ⟨b, off + 1, none⟩ = some (.int .i64 v') ∧ True := ⟨At.kid H 0 rfl, At.kid H 1 rfl, trivial⟩
theorem At.kc3 (H : Hid (At ty T Sb A n c w0 w FN ps f fin g kd text (some ⟨b, off, none⟩) m c' z [(v : Int), (v' : Int), (v'' : Int)] s es W)) : W.cell? ⟨b, off, none⟩ = some (.int .i64 v) ∧ W.cell? ⟨b, off + 1, none⟩ = some (.int .i64 v') ∧ W.cell? ⟨b, off + 2, none⟩ = some (.int .i64 v'') := ⟨At.kid H 0 rfl, At.kid H 1 rfl, At.kid H 2 rfl⟩
theorem At.kcl (H : Hid (At ty T Sb A n c w0 w FN ps f fin g kd text (some ⟨b, off, none⟩) (m + 1) c' z (l ++ [(v : Int)]) s es W)) : W.cell? ⟨b, off + m, none⟩ = some (.int .i64 v) ∧ True ∧ True :=
 ⟨At.kid H m (by have := H.out.hl; rw [lA] at this; simp at this; subst this; simp), trivial, trivial⟩
theorem At.next (H : Hid (At ty T Sb A n c w0 w FN ps f fin g kd text A' m c' z l s (a ++ es) W)) {F : FuncId} {args : Array Value} (hc : (runE (tellF ps f) s a).1.length ≤ 1000000 → Calls prog F args W (Puts ty T Sb A n c w0 W (runE (tellF ps f) s a)))
  (k : ∀ W1 s1, Hid (At ty T Sb A n c w0 w FN ps f fin g kd text A' m c' z l s1 es W1) → R (.returned (.tuple #[])) W1) : Calls prog F args W R :=
 (hc H.out.L.seg.1).mono (by rintro e w1 ⟨rfl, h1, h2⟩; exact k w1 _ ⟨h1, H.out.K.kp h2 H.out.gT H.out.gS (by decide), H.out.P.trans h2, H.out.L.seg.2, H.out.gT, H.out.gS, H.out.hl, H.out.hm, H.out.hr, H.out.hv, H.out.N⟩)
theorem At.alloc (H : Hid (At ty T Sb A n c w0 w FN ps f fin g kd text A' m c' z l s es W)) (o : Obj) : Hid (At ty T Sb A n c w0 w FN ps f fin g kd text A' m c' z l s es (W.alloc o)) :=
 ⟨H.out.ht.alloc o, H.out.K.alloc o, H.out.P.alloc o, H.out.L, H.out.gT, H.out.gS, H.out.hl, H.out.hm, H.out.hr, H.out.hv, H.out.N⟩
theorem At.fin_ (H : Hid (At ty T Sb A n c w0 w FN ps f fin g kd text A' m c' z l s [] W)) : TL ty T Sb A n c w0 fin W ∧ Kp T Sb w W := by
 have h := H.out.L.done
 subst h
 exact ⟨H.out.ht, H.out.P⟩
theorem At.one (H : Hid (At ty T Sb A n c w0 w FN ps f fin g kd text A' m c' z l s (Ev.kid (v : Int) :: es) W)) (k : ∀ W1 s1, Hid (At ty T Sb A n c w0 w FN ps f fin g kd text A' m c' z l s1 es W1) → R (.returned (.tuple #[])) W1) (hi : (v : Int) ∈ l := by simp) : Calls prog FN #[.pointer (some ⟨T, 0, none⟩), .int .i64 v] W R :=
 At.next (a := [Ev.kid (v : Int)]) H (fun hb => H.out.N v s W (by have := H.out.hv _ hi; omega) (by have := H.out.hv _ hi; omega) H.out.ht hb) k
end
section
variable {T Sb : Nat} {A : Option Addr} {n c : Nat} {w0 w W : World} {FN : FuncId} {ps : List PN} {f : Nat} {fin : TS} {g : Nat} {kd : Int} {text : ByteArray} {A' : Option Addr} {m c' : Nat} {z : Bool} {l : List Int} {s : TS} {es : List Ev} {b off v : Nat} {R : Ending → World → Prop} {t u : ByteArray} {A2 : Option Addr} {m2 c2 : Nat} {l2 : List Int}
theorem At.sword (H : Hid (At 97 T Sb A n c w0 w FN ps f fin g kd text A' m c' z l s (Ev.sg 1 t :: es) W)) (k : ∀ W1 s1, Hid (At 97 T Sb A n c w0 w FN ps f fin g kd text A' m c' z l s1 es W1) → R (.returned (.tuple #[])) W1) : Calls prog 108 #[.pointer (some ⟨T, 0, none⟩), .string t] W R :=
 At.next (a := [Ev.sg 1 t]) H (fun hb => specWord_any T Sb A n c w0 W s t H.out.ht (run1_len (tellF_mono ps f) hb)) k
theorem At.smark (H : Hid (At 97 T Sb A n c w0 w FN ps f fin g kd text A' m c' z l s (mkE t :: es) W)) (k : ∀ W1 s1, Hid (At 97 T Sb A n c w0 w FN ps f fin g kd text A' m c' z l s1 es W1) → R (.returned (.tuple #[])) W1) : Calls prog 109 #[.pointer (some ⟨T, 0, none⟩), .string t] W R :=
 At.next (a := [mkE t]) H (fun hb => specMark_any T Sb A n c w0 W s t H.out.ht (run1_len (tellF_mono ps f) hb)) k
theorem At.sput {q : Int} (H : Hid (At 97 T Sb A n c w0 w FN ps f fin g kd text A' m c' z l s (Ev.sg q t :: es) W)) (k : ∀ W1 s1, Hid (At 97 T Sb A n c w0 w FN ps f fin g kd text A' m c' z l s1 es W1) → R (.returned (.tuple #[])) W1) : Calls prog 112 #[.pointer (some ⟨T, 0, none⟩), .int .i64 q, .string t] W R :=
 At.next (a := [Ev.sg q t]) H (fun hb => specPut_any T Sb A n c w0 W s q t H.out.ht (run1_len (tellF_mono ps f) hb)) k
theorem At.sheld (H : Hid (At 97 T Sb A n c w0 w 80 ps f fin g kd text A' m c' z l s (Ev.sg 1 t :: mkE ⟨#[40]⟩ :: Ev.kid (v : Int) :: mkE ⟨#[41]⟩ :: es) W)) (k : ∀ W1 s1, Hid (At 97 T Sb A n c w0 w 80 ps f fin g kd text A' m c' z l s1 es W1) → R (.returned (.tuple #[])) W1) (hi : (v : Int) ∈ l := by simp) : Calls prog 111 #[.pointer (some ⟨T, 0, none⟩), .string t, .int .i64 v] W R :=
 At.next (a := heldE t v) H (fun hb => specHeld_any T Sb A n c w0 W ps f t v s H.out.N (by have := H.out.hv _ hi; omega) (by have := H.out.hv _ hi; omega) H.out.ht hb) k
theorem At.ssome (H : Hid (At 97 T Sb A n c w0 w 80 ps f fin g kd text A' m c' z l s (sepE ⟨#[44]⟩ l2 ++ es) W)) (hl : l2.length = m2) (hm : m2 ≤ 12) (hr : Rd w0 1 A2 m2 (intCells l2)) (hi : ∀ v ∈ l2, v ∈ l) (k : ∀ W1 s1, Hid (At 97 T Sb A n c w0 w 80 ps f fin g kd text A' m c' z l s1 es W1) → R (.returned (.tuple #[])) W1) : Calls prog 113 #[.pointer (some ⟨T, 0, none⟩), .slice A2 m2 c2] W R :=
 At.next H (fun hb => specSome_any T Sb A n c w0 W ps f A2 m2 c2 l2 s H.out.N hl (by omega) hr (hid (fun v h => H.out.hv v (hi v h))) H.out.ht hb) k
theorem At.sall (H : Hid (At 97 T Sb A n c w0 w 80 ps f fin g kd text A' m c' z l s (allE l ++ es) W)) (k : ∀ W1 s1, Hid (At 97 T Sb A n c w0 w 80 ps f fin g kd text A' m c' z l s1 es W1) → R (.returned (.tuple #[])) W1) : Calls prog 110 #[.pointer (some ⟨T, 0, none⟩), .slice A' m c2] W R :=
 At.next H (fun hb => specAll_any T Sb A n c w0 W ps f A' m c2 l s H.out.N H.out.hl (by have := H.out.hm; omega) H.out.hr H.out.hv H.out.ht hb) k
theorem At.iword (H : Hid (At 76 T Sb A n c w0 w FN ps f fin g kd text A' m c' z l s (Ev.sg 1 t :: es) W)) (k : ∀ W1 s1, Hid (At 76 T Sb A n c w0 w FN ps f fin g kd text A' m c' z l s1 es W1) → R (.returned (.tuple #[])) W1) : Calls prog 151 #[.pointer (some ⟨T, 0, none⟩), .string t] W R :=
 At.next (a := [Ev.sg 1 t]) H (fun hb => implWord_any T Sb A n c w0 W s t H.out.ht (run1_len (tellF_mono ps f) hb)) k
theorem At.imark {g0 : Nat} (H : Hid (At 76 T Sb A n c w0 w FN ps f fin g kd text A' m c' z l s (mkE t :: es) W)) (k : ∀ W1 s1, Hid (At 76 T Sb A n c w0 w FN ps f fin g kd text A' m c' z l s1 es W1) → R (.returned (.tuple #[])) W1) (hg : g0 = W.heap.size := by simp) : Calls prog 152 #[.pointer (some ⟨T, 0, none⟩), .slice (some ⟨g0, 0, none⟩) 1 1] (W.alloc (.cells #[.string t] 9)) R := by
 subst hg
 exact At.next (a := [mkE t]) (At.alloc H _) (fun hb => implMark_one T Sb A n c w0 _ s t _ (H.out.ht.alloc _) (run1_len1 hb) (Blk.new _ _ _) (by have := H.out.ht.blkT; omega) (by have := H.out.ht.blkS; omega)) k
theorem At.imark2 {g0 : Nat} (H : Hid (At 76 T Sb A n c w0 w FN ps f fin g kd text A' m c' z l s (mkE t :: mkE u :: es) W)) (k : ∀ W1 s1, Hid (At 76 T Sb A n c w0 w FN ps f fin g kd text A' m c' z l s1 es W1) → R (.returned (.tuple #[])) W1) (hg : g0 = W.heap.size := by simp) : Calls prog 152 #[.pointer (some ⟨T, 0, none⟩), .slice (some ⟨g0, 0, none⟩) 2 2] (W.alloc (.cells #[.string t, .string u] 9)) R := by
 subst hg
 exact At.next (a := [mkE t, mkE u]) (At.alloc H _) (fun hb => implMark_two T Sb A n c w0 _ s t u _ (H.out.ht.alloc _) (run1_len2 hb) (Blk.new _ _ _) (by have := H.out.ht.blkT; omega) (by have := H.out.ht.blkS; omega)) k
theorem At.q2 (H : Hid (At 76 T Sb A n c w0 w FN ps f fin g kd text A' m c' z l s (mkE t :: mkE u :: es) W)) : True := trivial
theorem At.ilist (H : Hid (At 76 T Sb A n c w0 w 85 ps f fin g kd text A' m c' z l s (sepE t l2 ++ es) W)) (hl : l2.length = m2) (hm : m2 ≤ 12) (hr : Rd w0 1 A2 m2 (intCells l2)) (hi : ∀ v ∈ l2, v ∈ l) (k : ∀ W1 s1, Hid (At 76 T Sb A n c w0 w 85 ps f fin g kd text A' m c' z l s1 es W1) → R (.returned (.tuple #[])) W1) : Calls prog 153 #[.pointer (some ⟨T, 0, none⟩), .slice A2 m2 c2, .string t] W R :=
 At.next H (fun hb => implList_any T Sb A n c w0 W ps f A2 m2 c2 l2 t s H.out.N hl (by omega) hr (hid (fun v h => H.out.hv v (hi v h))) H.out.ht hb) k
theorem At.ieach (H : Hid (At 76 T Sb A n c w0 w 85 ps f fin g kd text A' m c' z l s (allE l ++ es) W)) (k : ∀ W1 s1, Hid (At 76 T Sb A n c w0 w 85 ps f fin g kd text A' m c' z l s1 es W1) → R (.returned (.tuple #[])) W1) : Calls prog 154 #[.pointer (some ⟨T, 0, none⟩), .slice A' m c2] W R :=
 At.next H (fun hb => implEach_any T Sb A n c w0 W ps f A' m c2 l s H.out.N H.out.hl (by have := H.out.hm; omega) H.out.hr H.out.hv H.out.ht hb) k
end
inductive EvF (t : ByteArray) : Int → List Int → Nat → List Ev → Prop
 | k1 : EvF t 1 [] 0 [.sg 1 t]
 | k2 : EvF t 2 [] 0 [.sg 2 t]
 | k3 : EvF t 3 [] 0 [.sg 3 t]
 | k4 (l : List Int) (m : Nat) : EvF t 4 l m (mkE ⟨#[91]⟩ :: (sepE ⟨#[44]⟩ l ++ [mkE ⟨#[93]⟩]))
 | k5 (v : Nat) (l : List Int) (m : Nat) (hm : 0 < m) (em : ((m + 1 : Nat) : Int) - 1 = (m : Int)) : EvF t 5 ((v : Int) :: l) (m + 1) (.kid (v : Int) :: mkE ⟨#[40]⟩ :: (sepE ⟨#[44]⟩ l ++ [mkE ⟨#[41]⟩]))
 | k5n (v : Nat) : EvF t 5 [(v : Int)] 1 (.kid (v : Int) :: mkE ⟨#[40]⟩ :: (sepE ⟨#[44]⟩ [] ++ [mkE ⟨#[41]⟩]))
 | k6 (v : Nat) : EvF t 6 [(v : Int)] 1 [.kid (v : Int), mkE ⟨#[46]⟩, .sg 1 t]
 | k7 (l : List Int) (m : Nat) (h2 : 2 ≤ m) : EvF t 7 l m (sepE t l ++ [])
 | k8 (v v' v'' : Nat) : EvF t 8 [(v : Int), (v' : Int), (v'' : Int)] 3 [.kid (v : Int), mkE ⟨#[63]⟩, .kid (v' : Int), mkE ⟨#[58]⟩, .kid (v'' : Int)]
 | k9 (l : List Int) (v m : Nat) (em : ((m + 1 : Nat) : Int) - 1 = (m : Int)) : EvF t 9 (l ++ [(v : Int)]) (m + 1) (mkE ⟨#[40]⟩ :: (sepE ⟨#[44]⟩ l ++ [mkE ⟨#[41]⟩, mkE ⟨#[61, 62]⟩, .kid (v : Int)]))
 | k10 (l : List Int) (m : Nat) (h2 : 2 ≤ m) : EvF t 10 l m (sepE ⟨#[46, 46]⟩ l ++ [])
 | k11 (v : Nat) : EvF t 11 [(v : Int)] 1 [mkE ⟨#[40]⟩, .kid (v : Int), mkE ⟨#[41]⟩]
 | k12 (v : Nat) : EvF t 12 [(v : Int)] 1 [.sg 1 ⟨#[118, 97, 114]⟩, .sg 1 t, mkE ⟨#[61]⟩, .kid (v : Int), mkE ⟨#[59]⟩]
 | k12n : EvF t 12 [] 0 [.sg 1 ⟨#[118, 97, 114]⟩, .sg 1 t, mkE ⟨#[59]⟩]
 | k13 (v : Nat) : EvF t 13 [(v : Int)] 1 [.sg 1 t, mkE ⟨#[61]⟩, .kid (v : Int), mkE ⟨#[59]⟩]
 | k14 (v : Nat) : EvF t 14 [(v : Int)] 1 [.kid (v : Int), mkE ⟨#[59]⟩]
 | k15 (l : List Int) (m : Nat) : EvF t 15 l m (.sg 1 ⟨#[114, 101, 116, 117, 114, 110]⟩ :: (allE l ++ [mkE ⟨#[59]⟩]))
 | k16 (v v' : Nat) : EvF t 16 [(v : Int), (v' : Int)] 2 [.sg 1 ⟨#[105, 102]⟩, mkE ⟨#[40]⟩, .kid (v : Int), mkE ⟨#[41]⟩, .kid (v' : Int)]
 | k16e (v v' v'' : Nat) : EvF t 16 [(v : Int), (v' : Int), (v'' : Int)] 3 [.sg 1 ⟨#[105, 102]⟩, mkE ⟨#[40]⟩, .kid (v : Int), mkE ⟨#[41]⟩, .kid (v' : Int), .sg 1 ⟨#[101, 108, 115, 101]⟩, .kid (v'' : Int)]
 | k17 (v v' : Nat) : EvF t 17 [(v : Int), (v' : Int)] 2 [.sg 1 ⟨#[119, 104, 105, 108, 101]⟩, mkE ⟨#[40]⟩, .kid (v : Int), mkE ⟨#[41]⟩, .kid (v' : Int)]
 | k18 (l : List Int) (m : Nat) : EvF t 18 l m (mkE ⟨#[123]⟩ :: (allE l ++ [mkE ⟨#[125]⟩]))
 | k19 : EvF t 19 [] 0 [.sg 5 t]
 | k20 (l : List Int) (v m : Nat) (em : ((m + 1 : Nat) : Int) - 1 = (m : Int)) : EvF t 20 (l ++ [(v : Int)]) (m + 1) (.sg 1 t :: mkE ⟨#[40]⟩ :: (sepE ⟨#[44]⟩ l ++ [mkE ⟨#[41]⟩, .kid (v : Int)]))
 | k21 (l : List Int) (m : Nat) : EvF t 21 l m (.sg 1 ⟨#[99, 108, 97, 115, 115]⟩ :: .sg 1 t :: mkE ⟨#[123]⟩ :: (allE l ++ [mkE ⟨#[125]⟩]))
 | k22 (l : List Int) (m : Nat) : EvF t 22 l m (allE l ++ [])
theorem lit1 {l : List Int} (h : l.length = 1) (hv : ∀ v ∈ l, 0 ≤ v) : ∃ a : Nat, l = [(a : Int)] := by
 match l, h with
 | [x], _ => obtain ⟨a, rfl⟩ := Int.eq_ofNat_of_zero_le (hv x (by simp)); exact ⟨a, rfl⟩
theorem lit2 {l : List Int} (h : l.length = 2) (hv : ∀ v ∈ l, 0 ≤ v) : ∃ a b : Nat, l = [(a : Int), (b : Int)] := by
 match l, h with
 | x :: r, h =>
  obtain ⟨a, rfl⟩ := Int.eq_ofNat_of_zero_le (hv x (by simp))
  obtain ⟨b, rfl⟩ := lit1 (l := r) (by simpa using h) (fun v h => hv v (by simp [h]))
  exact ⟨a, b, rfl⟩
theorem lit3 {l : List Int} (h : l.length = 3) (hv : ∀ v ∈ l, 0 ≤ v) : ∃ a b c : Nat, l = [(a : Int), (b : Int), (c : Int)] := by
 match l, h with
 | x :: r, h =>
  obtain ⟨a, rfl⟩ := Int.eq_ofNat_of_zero_le (hv x (by simp))
  obtain ⟨b, c, rfl⟩ := lit2 (l := r) (by simpa using h) (fun v h => hv v (by simp [h]))
  exact ⟨a, b, c, rfl⟩
theorem litl {l : List Int} (h : 1 ≤ l.length) (hv : ∀ v ∈ l, 0 ≤ v) : ∃ (r : List Int) (a : Nat), l = r ++ [(a : Int)] := by
 rcases List.eq_nil_or_concat l with rfl | ⟨r, x, rfl⟩
 ·simp at h
 ·obtain ⟨a, rfl⟩ := Int.eq_ofNat_of_zero_le (hv x (by simp)); exact ⟨r, a, by simp⟩
theorem evF_of {kd : Int} {t : ByteArray} {l : List Int} {z : Bool} (hk : 1 ≤ kd ∧ kd ≤ 22) (hlo : cntLo kd ≤ (l.length : Int)) (hhi : (l.length : Int) ≤ cntHi kd) (hv : ∀ v ∈ l, 0 ≤ v) : l.length ≤ 12 ∧ EvF t kd l l.length (evs ⟨kd, t, l, z⟩) := by
 have h2 : kd = 1 ∨ kd = 2 ∨ kd = 3 ∨ kd = 4 ∨ kd = 5 ∨ kd = 6 ∨ kd = 7 ∨ kd = 8 ∨ kd = 9 ∨ kd = 10 ∨ kd = 11 ∨ kd = 12 ∨ kd = 13 ∨ kd = 14 ∨ kd = 15 ∨ kd = 16 ∨ kd = 17 ∨ kd = 18 ∨ kd = 19 ∨ kd = 20 ∨ kd = 21 ∨ kd = 22 := by omega
 rcases h2 with rfl | rfl | rfl | rfl | rfl | rfl | rfl | rfl | rfl | rfl | rfl | rfl | rfl | rfl | rfl | rfl | rfl | rfl | rfl | rfl | rfl | rfl
 all_goals
  simp only [cntLo, cntHi, Int.reduceEq, or_self, or_true, true_or, or_false, false_or, if_true, if_false] at hlo hhi
  refine ⟨by omega, ?_⟩
  first
  | (have e : l.length = 0 := (by omega); obtain rfl : l = [] := List.eq_nil_of_length_eq_zero e; first | exact .k1 | exact .k2 | exact .k3 | exact .k19)
  | exact .k4 l _
  | exact .k15 l _
  | exact .k18 l _
  | exact .k21 l _
  | (have e := EvF.k7 (t := t) l l.length (by omega); rw [List.append_nil] at e; exact e)
  | (have e := EvF.k10 (t := t) l l.length (by omega); rw [List.append_nil] at e; exact e)
  | (have e := EvF.k22 (t := t) l l.length; rw [List.append_nil] at e; exact e)
  | (have e : l.length = 1 := (by omega); obtain ⟨a, rfl⟩ := lit1 e hv; first | exact .k6 a | exact .k11 a | exact .k13 a | exact .k14 a | exact .k12 a | exact .k5n a)
  | (have e : l.length = 2 := (by omega); obtain ⟨a, b, rfl⟩ := lit2 e hv; first | exact .k16 a b | exact .k17 a b)
  | (have e : l.length = 3 := (by omega); obtain ⟨a, b, d, rfl⟩ := lit3 e hv; first | exact .k8 a b d | exact .k16e a b d)
  | (have e : l.length = 0 := (by omega); obtain rfl : l = [] := List.eq_nil_of_length_eq_zero e; exact .k12n)
  | skip
 ·obtain ⟨x, r, rfl⟩ : ∃ x r, l = x :: r := by
   match l, hlo with
   | x :: r, _ => exact ⟨x, r, rfl⟩
  obtain ⟨a, rfl⟩ := Int.eq_ofNat_of_zero_le (hv x (by simp))
  by_cases h0 : r.length = 0
  ·obtain rfl := List.eq_nil_of_length_eq_zero h0
   exact .k5n a
  ·exact .k5 a r r.length (by omega) (by omega)
 ·obtain ⟨r, a, rfl⟩ := litl (by omega) hv
  simpa [evs] using EvF.k9 (t := t) r a r.length (by omega)
 ·by_cases h0 : l.length = 0
  ·obtain rfl := List.eq_nil_of_length_eq_zero h0
   exact .k12n
  ·obtain ⟨a, rfl⟩ := lit1 (by omega) hv
   exact .k12 a
 ·by_cases h0 : l.length = 2
  ·obtain ⟨a, b, rfl⟩ := lit2 h0 hv
   exact .k16 a b
  ·obtain ⟨a, b, d, rfl⟩ := lit3 (by omega) hv
   exact .k16e a b d
 ·obtain ⟨r, a, rfl⟩ := litl (by omega) hv
  simpa [evs] using EvF.k20 (t := t) r a r.length (by omega)
theorem rd_addr {w : World} {A : Option Addr} {m : Nat} {l : List Int} (h : Rd w 1 A m (intCells l)) (hl : l.length = m) (hm : 0 < m) : ∃ b off, A = some ⟨b, off, none⟩ := by
 obtain ⟨x, hx⟩ : ∃ x, l[0]? = some x := ⟨_, gE (by omega)⟩
 obtain ⟨b, off, e, _⟩ := int_at h hm hx
 exact ⟨b, off, e⟩
theorem len_snoc {l : List Int} {v : Int} {m : Nat} (h : (l ++ [v]).length = m + 1) : l.length = m := by simpa using h
theorem rd1_snoc {w : World} {A : Option Addr} {l : List Int} {v : Int} {m : Nat} (h : Rd w 1 A (m + 1) (intCells (l ++ [v]))) (hl : (l ++ [v]).length = m + 1) : Rd w 1 A m (intCells l) := by
 have h2 := rd1_take h hl (Nat.le_succ m)
 rwa [List.take_left' (len_snoc hl)] at h2
theorem grown_undrew' {w w' : World} {row : Option Nat} (h : w.drew.grownBy w' row) : w.grownBy w' row := ⟨h.os, h.tape, h.output, h.size, h.block⟩
theorem iv_2 (T Sb : Nat) (A : Option Addr) (n c : Nat) (w0 w : World) (ps : List PN) (f : Nat) (text : ByteArray) (A' : Option Addr) (m c' : Nat) (z : Bool) (s fin : TS) (h : TL 76 T Sb A n c w0 s w) (hL : LeftE (tellF ps f) s [Ev.sg 2 text] fin) :
  Calls prog 120 #[.pointer (some ⟨T, 0, none⟩), .agg #[.int .i64 2, .string text, .slice A' m c', .bool z]] w (Puts 76 T Sb A n c w0 w fin) := by
 have hs := run1_len (tellF_mono ps f) (show (runE (tellF ps f) s [Ev.sg 2 text]).1.length ≤ 1000000 by rw [hL.2.1]; exact hL.2.2)
 have hfin : fin = (s.1 ++ [((2 : Int), text)], s.2) := hL.2.1.symm
 subst hfin
 have gT : w.heap.size ≠ T := by have := h.blkT; omega
 have gS : w.heap.size ≠ Sb := by have := h.blkS; omega
 obtain ⟨AS, cS, hb, hm, ho, hl, hTS, hT, hS, hne, hbw⟩ := h.alloc (.cells #[.int .i64 2, .string text, .slice A' m c', .bool z] 36)
 have K := Blk.new w 36 #[.int .i64 2, .string text, .slice A' m c', .bool z]
 have P : Kp T Sb w (w.alloc (.cells #[.int .i64 2, .string text, .slice A' m c', .bool z] 36)) := (Kp.refl T Sb w).alloc _
 obtain ⟨i0, hi, hz0, hz1, hz2⟩ := info_parts infoSign
 have HI := hid (And.intro hi (And.intro hz0 (And.intro hz1 hz2)))
 have HM := hid hm
 have HP := hid (fun (o : Obj) (v' : Value) (w3 : World) => TL.push (ty := 76) (s := s) (o := o) (v' := v') (w3 := w3) (by decide) hb hm ho hl hTS hT hS hbw (2, text))
 have HB := hid (fun (o : Obj) (w3 : World) => tl_blk (o := o) (w3 := w3) hb (by decide) hm)
 have k1 : (w.alloc (.cells #[.int .i64 2, .string text, .slice A' m c', .bool z] 36)).cell? ⟨T, 1, none⟩ = some (.slice AS s.1.length cS) := hb.cell 1
 have a1 : ∀ o, ((w.alloc (.cells #[.int .i64 2, .string text, .slice A' m c', .bool z] 36)).alloc o).cell? ⟨T, 1, none⟩ = some (.slice AS s.1.length cS) := fun o => (hb.alloc o).cell 1
 have kx : (w.alloc (.cells #[.int .i64 2, .string text, .slice A' m c', .bool z] 36)).cell? ⟨w.heap.size, 1, none⟩ = some (.string text) := K.cell 1
 have ax : ∀ o, ((w.alloc (.cells #[.int .i64 2, .string text, .slice A' m c', .bool z] 36)).alloc o).cell? ⟨w.heap.size, 1, none⟩ = some (.string text) := fun o => (K.alloc o).cell 1
 have kf := hb.frozen
 have kz := hb.lt
 have hnb : ((w.alloc (.cells #[.int .i64 2, .string text, .slice A' m c', .bool z] 36)).alloc (.cells #[.int .i64 2, .string text, .int .i64 0, .bool false] 68)).heap[w.heap.size + 1]? = some (.cells #[.int .i64 2, .string text, .int .i64 0, .bool false] 68 (0, 0)) := by
  have := heap_alloc_new (w.alloc (.cells #[.int .i64 2, .string text, .slice A' m c', .bool z] 36)) (.cells #[.int .i64 2, .string text, .int .i64 0, .bool false] 68)
  rwa [World.size_alloc] at this
 have hszw := hbw.size
 clear hi hz0 hz1 hz2 hm ho hne hL
 unfold Puts
 go_enter func120, ntmps120
 go_upto_region 6 with fail
 go_region_law
  (refine step_append_lies _ rfl (.tmp 23) (.tmp 27) 57 rfl w0.heap.size 68 i0 (.agg #[.int .i64 0, .string ⟨#[]⟩, .int .i64 0, .bool false]) 4 40 underlying57 HI.out.1 HI.out.2.1 HI.out.2.2.1 HI.out.2.2.2 rfl (by decide) (.slice AS s.1.length cS) s.1.length (s.1.flatMap signCells) (by first | (simp [Act.eval]; done) | (simp [Act.eval, Act.put]; done) | rfl) (by first | exact (HM.out.alloc _).drew | exact HM.out.alloc _) ⟨w.heap.size + 1, 0, none⟩ 1 1 (signCells (2, text)) (by first | (simp [Act.eval]; done) | (simp [Act.eval, Act.put]; done) | rfl) (by rfl) (World.news_of_block (cs := #[.int .i64 2, .string text, .int .i64 0, .bool false]) (t := 68) (fr := (0, 0)) hnb) (sign_one _) (by decide) (by unfold maxLen; omega) (by omega) (by simp at hszw ⊢; omega) (w.heap.size + 1 + 1) (by simp) ?_
   intro q cap w6 hown6 hgrow hat hlt6
   have hgrow2 : ((w.alloc (.cells #[.int .i64 2, .string text, .slice A' m c', .bool z] 36)).alloc (.cells #[.int .i64 2, .string text, .int .i64 0, .bool false] 68)).grownBy w6 (Value.slice AS s.1.length cS).ownBlock := (by first | exact hgrow | exact grown_undrew' hgrow)
   have hb6 := HB.out _ _ hgrow2
   have fz : w6.cell? ⟨T, 1, none⟩ = some (.slice AS s.1.length cS) := hb6.cell 1
   have fzf := hb6.frozen
   have fzl := hb6.lt
   have hfin := hid (HP.out _ _ _ hown6 hgrow2)
   clear hown6 hgrow hat hgrow2 hb6)
 all_goals
  go_wp2
  go_end0
  exact ⟨rfl, hfin.out.1, P.trans hfin.out.2⟩
theorem iv_3 (T Sb : Nat) (A : Option Addr) (n c : Nat) (w0 w : World) (ps : List PN) (f : Nat) (text : ByteArray) (A' : Option Addr) (m c' : Nat) (z : Bool) (s fin : TS) (h : TL 76 T Sb A n c w0 s w) (hL : LeftE (tellF ps f) s [Ev.sg 3 text] fin) :
  Calls prog 120 #[.pointer (some ⟨T, 0, none⟩), .agg #[.int .i64 3, .string text, .slice A' m c', .bool z]] w (Puts 76 T Sb A n c w0 w fin) := by
 have hs := run1_len (tellF_mono ps f) (show (runE (tellF ps f) s [Ev.sg 3 text]).1.length ≤ 1000000 by rw [hL.2.1]; exact hL.2.2)
 have hfin : fin = (s.1 ++ [((3 : Int), text)], s.2) := hL.2.1.symm
 subst hfin
 have gT : w.heap.size ≠ T := by have := h.blkT; omega
 have gS : w.heap.size ≠ Sb := by have := h.blkS; omega
 obtain ⟨AS, cS, hb, hm, ho, hl, hTS, hT, hS, hne, hbw⟩ := h.alloc (.cells #[.int .i64 3, .string text, .slice A' m c', .bool z] 36)
 have K := Blk.new w 36 #[.int .i64 3, .string text, .slice A' m c', .bool z]
 have P : Kp T Sb w (w.alloc (.cells #[.int .i64 3, .string text, .slice A' m c', .bool z] 36)) := (Kp.refl T Sb w).alloc _
 obtain ⟨i0, hi, hz0, hz1, hz2⟩ := info_parts infoSign
 have HI := hid (And.intro hi (And.intro hz0 (And.intro hz1 hz2)))
 have HM := hid hm
 have HP := hid (fun (o : Obj) (v' : Value) (w3 : World) => TL.push (ty := 76) (s := s) (o := o) (v' := v') (w3 := w3) (by decide) hb hm ho hl hTS hT hS hbw (3, text))
 have HB := hid (fun (o : Obj) (w3 : World) => tl_blk (o := o) (w3 := w3) hb (by decide) hm)
 have k1 : (w.alloc (.cells #[.int .i64 3, .string text, .slice A' m c', .bool z] 36)).cell? ⟨T, 1, none⟩ = some (.slice AS s.1.length cS) := hb.cell 1
 have a1 : ∀ o, ((w.alloc (.cells #[.int .i64 3, .string text, .slice A' m c', .bool z] 36)).alloc o).cell? ⟨T, 1, none⟩ = some (.slice AS s.1.length cS) := fun o => (hb.alloc o).cell 1
 have kx : (w.alloc (.cells #[.int .i64 3, .string text, .slice A' m c', .bool z] 36)).cell? ⟨w.heap.size, 1, none⟩ = some (.string text) := K.cell 1
 have ax : ∀ o, ((w.alloc (.cells #[.int .i64 3, .string text, .slice A' m c', .bool z] 36)).alloc o).cell? ⟨w.heap.size, 1, none⟩ = some (.string text) := fun o => (K.alloc o).cell 1
 have kf := hb.frozen
 have kz := hb.lt
 have hnb : ((w.alloc (.cells #[.int .i64 3, .string text, .slice A' m c', .bool z] 36)).alloc (.cells #[.int .i64 3, .string text, .int .i64 0, .bool false] 68)).heap[w.heap.size + 1]? = some (.cells #[.int .i64 3, .string text, .int .i64 0, .bool false] 68 (0, 0)) := by
  have := heap_alloc_new (w.alloc (.cells #[.int .i64 3, .string text, .slice A' m c', .bool z] 36)) (.cells #[.int .i64 3, .string text, .int .i64 0, .bool false] 68)
  rwa [World.size_alloc] at this
 have hszw := hbw.size
 clear hi hz0 hz1 hz2 hm ho hne hL
 unfold Puts
 go_enter func120, ntmps120
 go_upto_region 8 with fail
 go_region_law
  (refine step_append_lies _ rfl (.tmp 37) (.tmp 41) 57 rfl w0.heap.size 68 i0 (.agg #[.int .i64 0, .string ⟨#[]⟩, .int .i64 0, .bool false]) 4 40 underlying57 HI.out.1 HI.out.2.1 HI.out.2.2.1 HI.out.2.2.2 rfl (by decide) (.slice AS s.1.length cS) s.1.length (s.1.flatMap signCells) (by first | (simp [Act.eval]; done) | (simp [Act.eval, Act.put]; done) | rfl) (by first | exact (HM.out.alloc _).drew | exact HM.out.alloc _) ⟨w.heap.size + 1, 0, none⟩ 1 1 (signCells (3, text)) (by first | (simp [Act.eval]; done) | (simp [Act.eval, Act.put]; done) | rfl) (by rfl) (World.news_of_block (cs := #[.int .i64 3, .string text, .int .i64 0, .bool false]) (t := 68) (fr := (0, 0)) hnb) (sign_one _) (by decide) (by unfold maxLen; omega) (by omega) (by simp at hszw ⊢; omega) (w.heap.size + 1 + 1) (by simp) ?_
   intro q cap w6 hown6 hgrow hat hlt6
   have hgrow2 : ((w.alloc (.cells #[.int .i64 3, .string text, .slice A' m c', .bool z] 36)).alloc (.cells #[.int .i64 3, .string text, .int .i64 0, .bool false] 68)).grownBy w6 (Value.slice AS s.1.length cS).ownBlock := (by first | exact hgrow | exact grown_undrew' hgrow)
   have hb6 := HB.out _ _ hgrow2
   have fz : w6.cell? ⟨T, 1, none⟩ = some (.slice AS s.1.length cS) := hb6.cell 1
   have fzf := hb6.frozen
   have fzl := hb6.lt
   have hfin := hid (HP.out _ _ _ hown6 hgrow2)
   clear hown6 hgrow hat hgrow2 hb6)
 all_goals
  go_wp2
  go_end0
  exact ⟨rfl, hfin.out.1, P.trans hfin.out.2⟩
theorem io_19 (T Sb : Nat) (A : Option Addr) (n c : Nat) (w0 w : World) (ps : List PN) (f : Nat) (text : ByteArray) (A' : Option Addr) (m c' : Nat) (z : Bool) (s fin : TS) (h : TL 76 T Sb A n c w0 s w) (hL : LeftE (tellF ps f) s [Ev.sg 5 text] fin) :
  Calls prog 121 #[.pointer (some ⟨T, 0, none⟩), .agg #[.int .i64 19, .string text, .slice A' m c', .bool z]] w (Puts 76 T Sb A n c w0 w fin) := by
 have hs := run1_len (tellF_mono ps f) (show (runE (tellF ps f) s [Ev.sg 5 text]).1.length ≤ 1000000 by rw [hL.2.1]; exact hL.2.2)
 have hfin : fin = (s.1 ++ [((5 : Int), text)], s.2) := hL.2.1.symm
 subst hfin
 have gT : w.heap.size ≠ T := by have := h.blkT; omega
 have gS : w.heap.size ≠ Sb := by have := h.blkS; omega
 obtain ⟨AS, cS, hb, hm, ho, hl, hTS, hT, hS, hne, hbw⟩ := h.alloc (.cells #[.int .i64 19, .string text, .slice A' m c', .bool z] 36)
 have K := Blk.new w 36 #[.int .i64 19, .string text, .slice A' m c', .bool z]
 have P : Kp T Sb w (w.alloc (.cells #[.int .i64 19, .string text, .slice A' m c', .bool z] 36)) := (Kp.refl T Sb w).alloc _
 obtain ⟨i0, hi, hz0, hz1, hz2⟩ := info_parts infoSign
 have HI := hid (And.intro hi (And.intro hz0 (And.intro hz1 hz2)))
 have HM := hid hm
 have HP := hid (fun (o : Obj) (v' : Value) (w3 : World) => TL.push (ty := 76) (s := s) (o := o) (v' := v') (w3 := w3) (by decide) hb hm ho hl hTS hT hS hbw (5, text))
 have HB := hid (fun (o : Obj) (w3 : World) => tl_blk (o := o) (w3 := w3) hb (by decide) hm)
 have k1 : (w.alloc (.cells #[.int .i64 19, .string text, .slice A' m c', .bool z] 36)).cell? ⟨T, 1, none⟩ = some (.slice AS s.1.length cS) := hb.cell 1
 have a1 : ∀ o, ((w.alloc (.cells #[.int .i64 19, .string text, .slice A' m c', .bool z] 36)).alloc o).cell? ⟨T, 1, none⟩ = some (.slice AS s.1.length cS) := fun o => (hb.alloc o).cell 1
 have kx : (w.alloc (.cells #[.int .i64 19, .string text, .slice A' m c', .bool z] 36)).cell? ⟨w.heap.size, 1, none⟩ = some (.string text) := K.cell 1
 have ax : ∀ o, ((w.alloc (.cells #[.int .i64 19, .string text, .slice A' m c', .bool z] 36)).alloc o).cell? ⟨w.heap.size, 1, none⟩ = some (.string text) := fun o => (K.alloc o).cell 1
 have kf := hb.frozen
 have kz := hb.lt
 have hnb : ((w.alloc (.cells #[.int .i64 19, .string text, .slice A' m c', .bool z] 36)).alloc (.cells #[.int .i64 5, .string text, .int .i64 0, .bool false] 68)).heap[w.heap.size + 1]? = some (.cells #[.int .i64 5, .string text, .int .i64 0, .bool false] 68 (0, 0)) := by
  have := heap_alloc_new (w.alloc (.cells #[.int .i64 19, .string text, .slice A' m c', .bool z] 36)) (.cells #[.int .i64 5, .string text, .int .i64 0, .bool false] 68)
  rwa [World.size_alloc] at this
 have hszw := hbw.size
 clear hi hz0 hz1 hz2 hm ho hne hL
 unfold Puts
 go_enter func121, ntmps121
 go_upto_region 35 with fail
 go_region_law
  (refine step_append_lies _ rfl (.tmp 110) (.tmp 114) 57 rfl w0.heap.size 68 i0 (.agg #[.int .i64 0, .string ⟨#[]⟩, .int .i64 0, .bool false]) 4 40 underlying57 HI.out.1 HI.out.2.1 HI.out.2.2.1 HI.out.2.2.2 rfl (by decide) (.slice AS s.1.length cS) s.1.length (s.1.flatMap signCells) (by first | (simp [Act.eval]; done) | (simp [Act.eval, Act.put]; done) | rfl) (by first | exact (HM.out.alloc _).drew | exact HM.out.alloc _) ⟨w.heap.size + 1, 0, none⟩ 1 1 (signCells (5, text)) (by first | (simp [Act.eval]; done) | (simp [Act.eval, Act.put]; done) | rfl) (by rfl) (World.news_of_block (cs := #[.int .i64 5, .string text, .int .i64 0, .bool false]) (t := 68) (fr := (0, 0)) hnb) (sign_one _) (by decide) (by unfold maxLen; omega) (by omega) (by simp at hszw ⊢; omega) (w.heap.size + 1 + 1) (by simp) ?_
   intro q cap w6 hown6 hgrow hat hlt6
   have hgrow2 : ((w.alloc (.cells #[.int .i64 19, .string text, .slice A' m c', .bool z] 36)).alloc (.cells #[.int .i64 5, .string text, .int .i64 0, .bool false] 68)).grownBy w6 (Value.slice AS s.1.length cS).ownBlock := (by first | exact hgrow | exact grown_undrew' hgrow)
   have hb6 := HB.out _ _ hgrow2
   have fz : w6.cell? ⟨T, 1, none⟩ = some (.slice AS s.1.length cS) := hb6.cell 1
   have fzf := hb6.frozen
   have fzl := hb6.lt
   have hfin := hid (HP.out _ _ _ hown6 hgrow2)
   clear hown6 hgrow hat hgrow2 hb6)
 all_goals
  go_wp2
  go_end0
  exact ⟨rfl, hfin.out.1, P.trans hfin.out.2⟩
theorem iv_any (T Sb : Nat) (A : Option Addr) (n c : Nat) (w0 w : World) (ps : List PN) (f : Nat) (kd : Int) (text : ByteArray) (A' : Option Addr) (m c' : Nat) (z : Bool) (l : List Int) (es : List Ev) (s fin : TS) (hN : NodeC 85 76 T Sb A n c w0 ps f) (h : TL 76 T Sb A n c w0 s w) (hr : Rd w0 1 A' m (intCells l)) (hl : l.length = m) (hm : m ≤ 12) (hcap : m ≤ c') (hv : Hid (∀ v ∈ l, 0 ≤ v ∧ v < (f : Int) ∧ v < (n : Int))) (hk : 1 ≤ kd ∧ kd ≤ 11) (hF : EvF text kd l m es) (hL : LeftE (tellF ps f) s es fin) :
  Calls prog 120 #[.pointer (some ⟨T, 0, none⟩), .agg #[.int .i64 kd, .string text, .slice A' m c', .bool z]] w (Puts 76 T Sb A n c w0 w fin) := by
 have H := At.new (kd := kd) (text := text) (c' := c') (z := z) (A' := A') h (Kp.refl T Sb w) hL hN hv.out hr hl hm
 have zT := h.blkT
 have zS := h.blkS
 cases hF
 all_goals first | (exfalso; omega) | skip
 case k2 => exact iv_2 T Sb A n c w0 w ps f text A' 0 c' z s fin h hL
 case k3 => exact iv_3 T Sb A n c w0 w ps f text A' 0 c' z s fin h hL
 case' k9 => have k9 := True.intro
 case' k5n => rcases (show c' = 1 ∨ 1 < c' by omega) with rfl | hc1
 all_goals
  first | (have ha := rd_addr hr hl (by omega); obtain ⟨b5, off5, rfl⟩ := ha) | skip
  clear h hL hN hv hr hl
  unfold Puts
  first | obtain ⟨cv0, cv1, cv2⟩ := At.kc3 H | obtain ⟨cv0, cv1, cv2⟩ := At.kc2 H | obtain ⟨cv0, cv1, cv2⟩ := At.kc1 H | obtain ⟨cv0, cv1, cv2⟩ := At.kcl H | skip
  go_enter func120, ntmps120
  repeat
   go_wp2_with fail
   first
   | (go_at_call 85; refine At.one H ?_)
   | (go_at_call 151; refine At.iword H ?_)
   | (go_at_call 152; have f9 := k9; have q9 := At.q2 H; refine At.imark2 H ?_)
   | (go_at_call 152; refine At.imark H ?_)
   | (go_at_call 154; refine At.ieach H ?_)
   | (go_at_call 153; refine At.ilist H H.out.hl H.out.hm H.out.hr (fun v h => h) ?_)
   | (go_at_call 153; refine At.ilist H (Nat.succ.inj H.out.hl) (Nat.le_of_succ_le H.out.hm) (rd1_drop H.out.hr H.out.hl (by omega)) (fun v h => List.mem_cons_of_mem _ h) ?_)
   | (go_at_call 153; refine At.ilist (l2 := []) H rfl (by decide) (Rd.none_ _ _ _) (fun v h => absurd h (by simp)) ?_)
   | (go_at_call 153; refine At.ilist H (len_snoc H.out.hl) (Nat.le_of_succ_le H.out.hm) (rd1_snoc H.out.hr H.out.hl) (fun v h => List.mem_append_left _ h) ?_)
   try clear k0 k1 k2 k3 kz zT zS
   try clear cv0 cv1 cv2
   intro W1 s1 H1
   clear H
   have H := H1
   clear H1
   obtain ⟨k0, k1, k2, k3, kz, zT, zS⟩ := At.facts H
   first | obtain ⟨cv0, cv1, cv2⟩ := At.kc3 H | obtain ⟨cv0, cv1, cv2⟩ := At.kc2 H | obtain ⟨cv0, cv1, cv2⟩ := At.kc1 H | obtain ⟨cv0, cv1, cv2⟩ := At.kcl H | skip
  go_wp2
  go_end0
  exact ⟨rfl, (At.fin_ H).1, (At.fin_ H).2⟩
end Go.Proofs.YtgbikafalcbibaaGreatDoor

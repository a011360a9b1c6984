
/-
  Nodes, continued: slices of them (laws.szNodeS, toNodeS, eqNodeS).
-/
import Derived.Test.YtpfanhheodiamaaGreatDoorFamNode
namespace Go.Proofs.YtpfanhheodiamaaGreatDoor
open Go.RowKit
set_option linter.unusedVariables false

/-- The slice at A of n elements reads as these nodes, wherever their kids lie. -/
def Nps (w : World) (A : Option Addr) (n : Nat) (ps : List PN) : Prop := ∃ l, Nds w A n l ∧ (∀ d ∈ l, d.cnt ≤ d.cap) ∧ l.map Nd.pn = ps
section
variable {w w' : World} {A : Option Addr} {n k : Nat} {ps : List PN} {p : PN} {o o' : Obj}
theorem Nps.len (h : Nps w A n ps) : ps.length = n := by obtain ⟨l, h, _, rfl⟩ := h; rw [List.length_map]; exact h.1
theorem Nps.next (h : Nps w A n ps) (hb : Below w.heap.size w w') : Nps w' A n ps := by obtain ⟨l, h, c, e⟩ := h; exact ⟨l, h.next hb, c, e⟩
theorem Nps.below (h : Nps w A n ps) (hb : Below w.heap.size w w') : Nps w' A n ps := h.next hb
theorem Nps.alloc (h : Nps w A n ps) (o : Obj) : Nps (w.alloc o) A n ps := by obtain ⟨l, h, c, e⟩ := h; exact ⟨l, h.alloc o, c, e⟩
theorem Nps.next1 (h : Nps w A n ps) (hb : Below (w.alloc o).heap.size (w.alloc o) w') : Nps w' A n ps := (h.alloc o).next hb
theorem Nps.next2 (h : Nps w A n ps) (hb : Below ((w.alloc o).alloc o').heap.size ((w.alloc o).alloc o') w') : Nps w' A n ps := ((h.alloc o).alloc o').next hb
theorem Nps.drewN (h : Nps w A n ps) (k : Nat) : Nps (w.drewN k) A n ps := h
theorem Nps.drew (h : Nps w A n ps) : Nps w.drew A n ps := h
theorem Nps.get (h : Nps w A n ps) (hk : k < n) : ∃ p, ps[k]? = some p := ⟨_, List.getElem?_eq_getElem (by have := h.len; omega)⟩
theorem Nps.atc (h : Nps w A n ps) (hk : k < n) (hd : ps[k]? = some p) :
    ∃ b off A' c', A = some ⟨b, off, none⟩ ∧ b < w.heap.size ∧ w.cell? ⟨b, off + k * 4, none⟩ = some (.int .i64 p.kind) ∧ w.cell? ⟨b, off + k * 4 + 1, none⟩ = some (.string p.text) ∧ w.cell? ⟨b, off + k * 4 + 2, none⟩ = some (.slice A' p.kids.length c') ∧ w.cell? ⟨b, off + k * 4 + 3, none⟩ = some (.bool p.blank) ∧ p.kids.length ≤ c' ∧ Rd w 1 A' p.kids.length (intCells p.kids) := by
  obtain ⟨l, h, hcap, rfl⟩ := h
  rw [List.getElem?_map] at hd
  obtain ⟨d, hd2, rfl⟩ := Option.map_eq_some_iff.1 hd
  obtain ⟨b, off, e, hb, c0, c1, c2, c3⟩ := h.at_ hk hd2
  have hc := h.cnt (List.mem_of_getElem? hd2)
  have hr := h.kids hd2
  refine ⟨b, off, d.adr, d.cap, e, hb, c0, c1, ?_, c3, ?_, ?_⟩
  · show w.cell? _ = some (.slice d.adr d.kids.length d.cap); rw [hc]; exact c2
  · show d.kids.length ≤ d.cap; rw [hc]; exact hcap d (List.mem_of_getElem? hd2)
  · show Rd w 1 d.adr d.kids.length (intCells d.kids); rw [hc]; exact hr
theorem Nps.at_ (h : Nps w A n ps) (hk : k < n) (hd : ps[k]? = some p) :
    ∃ b off A' c', A = some ⟨b, off, none⟩ ∧ b < w.heap.size ∧ w.cell? ⟨b, off + k * 4, none⟩ = some (.int .i64 p.kind) ∧ w.cell? ⟨b, off + k * 4 + 1, none⟩ = some (.string p.text) ∧ w.cell? ⟨b, off + k * 4 + 2, none⟩ = some (.slice A' p.kids.length c') ∧ w.cell? ⟨b, off + k * 4 + 3, none⟩ = some (.bool p.blank) ∧ Rd w 1 A' p.kids.length (intCells p.kids) := by
  obtain ⟨b, off, A', c', e, hb, c0, c1, c2, c3, _, hr⟩ := h.atc hk hd
  exact ⟨b, off, A', c', e, hb, c0, c1, c2, c3, hr⟩
end

set_option maxHeartbeats 400000 in
theorem szNodeS_ok (A : Option Addr) (n c : Nat) (l : List Nd) (left : Int) (w : World) (h1 : left ≤ 1048576) (hl : l.length = n)
    (hr : Nds w A n l) (hle : (szNodeL l : Nat) ≤ left) :
    Calls Tryz.prog 6 #[.slice A n c, .int .i64 left] w fun e w' => e = .returned (.int .i64 (left - (szNodeL l : Nat))) ∧ Below w.heap.size w w' := by
  unfold szNodeL at hle ⊢
  have g0 : (0 : Int) ≤ left - n := by omega
  have gn : n ≤ 1048576 := by omega
  have HL := Lib.hid hl
  have HR := Lib.hid hr
  clear hl hr
  go_enter Tryz.func6, Tryz.ntmps6
  go_wp2
  go_loopw [1, 5] (fun s i wr => ∃ k : Nat, k ≤ n ∧ i = .int .i64 k ∧ s = .int .i64 (left - n - sumK szNode l k) ∧ Below w.heap.size w wr) (fun s i _ => n - (intOf i).toNat)
  case atStart => exact ⟨0, Nat.zero_le _, rfl, by rw [sumK_zero]; go_num, Below.refl _ _⟩
  case round =>
    obtain ⟨k, hk, rfl, rfl, hb⟩ := hrel
    by_cases hkn : k < n
    · obtain ⟨d, hd⟩ : ∃ d, l[k]? = some d := ⟨_, List.getElem?_eq_getElem (by have := HL.out; omega)⟩
      obtain ⟨b, off, rfl, hblt, c0, c1, c2, c3⟩ := (HR.out.below hb).at_ hkn hd
      have hq2 := Lib.hid (sumK_succ szNode l k _ hd)
      have hq3 := Lib.hid (show (szNode d : Nat) ≤ left - n - sumK szNode l k by have := sumK_le szNode l (k + 1); have := hq2.out; have := HL.out; omega)
      have hq4 := Lib.hid (show left - n - sumK szNode l k ≤ 1048576 by omega)
      have hq5 : (0 : Int) ≤ left - n - sumK szNode l k - (szNode d : Nat) := by have := hq3.out; omega
      clear hd
      go_wp2_with fail
      refine (szNode_ok _ _ _ hq4.out hq3.out).mono ?_
      rintro e w2 ⟨rfl, h2⟩
      have hb2 := hb.trans (h2.mono hb.size)
      clear hblt c0 c1 c2 c3
      go_wp2
      go_roundw
      case rel => exact ⟨k + 1, by omega, by go_num, by rw [hq2.out]; go_num, (by repeat' (first | (with_reducible exact Below.refl _ _) | (with_reducible assumption) | (with_reducible refine below_drewN ?_ _) | (with_reducible refine Below.drew ?_) | (with_reducible refine Below.alloc ?_ ?_ _) | (with_reducible refine Below.setCell ?_ ?_ _) | go_size))⟩
      case measure => simp [intOf]; omega
    · obtain rfl : k = n := by omega
      have ht : left - (k : Nat) - sumK szNode l k = left - ((l.length + (l.map szNode).sum : Nat) : Int) := by
        have := HL.out; rw [sumK_all _ _ _ (by omega)]; omega
      have HT := Lib.hid ht
      clear ht
      go_wp2
      go_ret
      exact ⟨ret_int HT.out, (by repeat' (first | (with_reducible exact Below.refl _ _) | (with_reducible assumption) | (with_reducible refine below_drewN ?_ _) | (with_reducible refine Below.drew ?_) | (with_reducible refine Below.alloc ?_ ?_ _) | (with_reducible refine Below.setCell ?_ ?_ _) | go_size))⟩
set_option maxHeartbeats 400000 in
theorem szNodeS_big (A : Option Addr) (n c : Nat) (l : List Nd) (left : Int) (w : World) (h0 : 0 ≤ left) (h1 : left ≤ 1048576) (hn : n ≤ maxLen) (hl : l.length = n)
    (hr : Nds w A n l) (hs : ∀ d ∈ l, OkNode d) (hle : left < (szNodeL l : Nat)) :
    Calls Tryz.prog 6 #[.slice A n c, .int .i64 left] w fun e w' => e = .returned (.int .i64 (-1)) ∧ Below w.heap.size w w' := by
  unfold maxLen at hn
  unfold szNodeL at hle
  have HL := Lib.hid hl
  have HS := Lib.hid hs
  have HR := Lib.hid hr
  clear hl hs hr
  by_cases h2 : left < n
  · go_enter Tryz.func6, Tryz.ntmps6
    go_wp2
    go_ret
    exact ⟨rfl, (by repeat' (first | (with_reducible exact Below.refl _ _) | (with_reducible assumption) | (with_reducible refine below_drewN ?_ _) | (with_reducible refine Below.drew ?_) | (with_reducible refine Below.alloc ?_ ?_ _) | (with_reducible refine Below.setCell ?_ ?_ _) | go_size))⟩
  · have g0 : (0 : Int) ≤ left - n := by omega
    go_enter Tryz.func6, Tryz.ntmps6
    go_wp2
    go_loopw [1, 5] (fun s i wr => ∃ k : Nat, k ≤ n ∧ i = .int .i64 k ∧ 0 ≤ left - n - sumK szNode l k ∧ s = .int .i64 (left - n - sumK szNode l k) ∧ Below w.heap.size w wr) (fun s i _ => n - (intOf i).toNat)
    case atStart => exact ⟨0, Nat.zero_le _, rfl, by rw [sumK_zero]; omega, by rw [sumK_zero]; go_num, Below.refl _ _⟩
    case round =>
      obtain ⟨k, hk, rfl, hp, rfl, hb⟩ := hrel
      by_cases hkn : k < n
      · obtain ⟨d, hd⟩ : ∃ d, l[k]? = some d := ⟨_, List.getElem?_eq_getElem (by have := HL.out; omega)⟩
        have HKh := Lib.hid (HS.out _ (List.mem_of_getElem? hd))
        obtain ⟨b, off, rfl, hblt, c0, c1, c2, c3⟩ := (HR.out.below hb).at_ hkn hd
        have hq2 := Lib.hid (sumK_succ szNode l k _ hd)
        have hq4 := Lib.hid (show left - n - sumK szNode l k ≤ 1048576 by omega)
        clear hd
        by_cases hq3 : (szNode d : Nat) ≤ left - n - sumK szNode l k
        · have hq5 : (0 : Int) ≤ left - n - sumK szNode l k - (szNode d : Nat) := by omega
          have hq3h := Lib.hid hq3
          clear hq3
          go_wp2_with fail
          refine (szNode_ok _ _ _ hq4.out hq3h.out).mono ?_
          rintro e w2 ⟨rfl, h2⟩
          have hb2 := hb.trans (h2.mono hb.size)
          clear hblt c0 c1 c2 c3
          go_wp2
          go_roundw
          case rel => exact ⟨k + 1, by omega, by go_num, by rw [hq2.out]; omega, by rw [hq2.out]; go_num, (by repeat' (first | (with_reducible exact Below.refl _ _) | (with_reducible assumption) | (with_reducible refine below_drewN ?_ _) | (with_reducible refine Below.drew ?_) | (with_reducible refine Below.alloc ?_ ?_ _) | (with_reducible refine Below.setCell ?_ ?_ _) | go_size))⟩
          case measure => simp [intOf]; omega
        · have hq3h := Lib.hid (show left - n - sumK szNode l k < (szNode d : Nat) by omega)
          have hph := Lib.hid hp
          clear hq3
          go_wp2_with fail
          refine (szNode_big _ _ _ hph.out hq4.out HKh.out.1 HKh.out.2.1 hq3h.out).mono ?_
          rintro e w2 ⟨rfl, h2⟩
          have hb2 := hb.trans (h2.mono hb.size)
          clear hblt c0 c1 c2 c3
          go_wp2
          go_ret
          exact ⟨rfl, (by repeat' (first | (with_reducible exact Below.refl _ _) | (with_reducible assumption) | (with_reducible refine below_drewN ?_ _) | (with_reducible refine Below.drew ?_) | (with_reducible refine Below.alloc ?_ ?_ _) | (with_reducible refine Below.setCell ?_ ?_ _) | go_size))⟩
      · have hf : False := by
          have := HL.out; rw [sumK_all _ _ _ (by omega)] at hp; omega
        exact hf.elim

set_option maxRecDepth 100000 in
set_option maxHeartbeats 800000 in
theorem toNode_any (d : Nd) (w : World) (hn : d.cnt ≤ 1048576) (hr : Rd w 1 d.adr d.cnt (intCells d.kids)) :
    Calls Tryz.prog 22 #[.agg #[.int .i64 d.kind, .string d.text, .slice d.adr d.cnt d.cap, .bool d.blank]] w fun e w' => ∃ g, e = .returned (.agg #[.int .i64 d.kind, .string d.text, .slice (some ⟨g, 0, none⟩) d.cnt d.cnt, .bool d.blank]) ∧ Own w' g 3 d.cnt (intCells d.kids) ∧ w.heap.size ≤ g ∧ Below w.heap.size w w' := by
  obtain ⟨x0, x1, A, n, c, ks, x3⟩ := d
  dsimp only at hn hr ⊢
  have HL := Lib.hid (rd1_len hr)
  have HR := Lib.hid hr
  have hbw := Below.refl w.heap.size w
  clear hr
  go_enter Tryz.func22, Tryz.ntmps22
  go_wp2_with fail
  refine Calls.mono (toIntS_any _ _ _ ks _ hn HL ?_) ?_
  · with_reducible exact ((HR.out.alloc _).alloc _).alloc _
  rintro e w2 ⟨g, rfl, ho, hg, h2⟩
  have K1 := Blk.fresh3 h2
  have K2 := Blk.fresh2 h2
  have K3 := Blk.fresh h2
  replace hbw := below_next3 hbw h2
  simp only [World.size_alloc] at K2 K3 hg
  have z1 := K1.lt
  have z2 := K2.lt
  have z3 := K3.lt
  have f2 := K2.frozen
  have f3 := K3.frozen
  have a1 := K1.cell
  have d0 : w2.cell? ⟨w.heap.size + 1, 0, none⟩ = some (.int .i64 0) := K2.cell 0
  have d1 : w2.cell? ⟨w.heap.size + 1, 1, none⟩ = some (.string ⟨#[]⟩) := K2.cell 1
  have d2 : w2.cell? ⟨w.heap.size + 1, 2, none⟩ = some (.slice none 0 0) := K2.cell 2
  have d3 : w2.cell? ⟨w.heap.size + 1, 3, none⟩ = some (.bool false) := K2.cell 3
  have e0 : w2.cell? ⟨w.heap.size + 1 + 1, 0, none⟩ = some (.int .i64 x0) := K3.cell 0
  have e1 : w2.cell? ⟨w.heap.size + 1 + 1, 1, none⟩ = some (.string x1) := K3.cell 1
  have e2 : w2.cell? ⟨w.heap.size + 1 + 1, 2, none⟩ = some (.slice none 0 0) := K3.cell 2
  have e3 : w2.cell? ⟨w.heap.size + 1 + 1, 3, none⟩ = some (.bool false) := K3.cell 3
  have HO := Lib.hid ho
  clear K1 K2 K3 h2 ho
  go_wp2
  refine bodyPost_ret (by simp [results, Tryz.results22, go_sem, d0, d1, d2, d3]; try rfl) rfl ?_
  refine ⟨g, rfl, ?_, by omega, (by repeat' (first | (with_reducible exact Below.refl _ _) | (with_reducible assumption) | (with_reducible refine below_drewN ?_ _) | (with_reducible refine Below.drew ?_) | (with_reducible refine Below.alloc ?_ ?_ _) | (with_reducible refine Below.setCell ?_ ?_ _) | go_size))⟩
  repeat (first | with_reducible exact HO.out | with_reducible refine Own.far ?_ (by simp; omega) _)

/-- Of a slice of nodes that is being filled: the first k stand. -/
def ToN (w : World) (B n k : Nat) (l : List Nd) : Prop :=
  l.length = k ∧ Own w B 48 (n * 4) (l.flatMap nodeCells) ∧ ∀ d ∈ l, (d.kids.length = d.cnt ∧ d.cnt ≤ d.cap) ∧ ∃ h, d.adr = some ⟨h, 0, none⟩ ∧ B < h ∧ Own w h 3 d.cnt (intCells d.kids)
theorem ToN.next {w w' : World} {B n k : Nat} {l : List Nd} (h : ToN w B n k l) (hb : Below w.heap.size w w') : ToN w' B n k l :=
  ⟨h.1, h.2.1.next hb, fun d hd => by obtain ⟨e, x, e1, h1, ho⟩ := h.2.2 d hd; exact ⟨e, x, e1, h1, ho.next hb⟩⟩
theorem ToN.push {w : World} {B n k : Nat} {l : List Nd} (h : ToN w B n k l) (hk : k < n) (d : Nd) (hc : d.kids.length = d.cnt ∧ d.cnt ≤ d.cap) {g : Nat} (ha : d.adr = some ⟨g, 0, none⟩) (hB : B < g) (ho : Own w g 3 d.cnt (intCells d.kids)) {v0 v1 v2 v3 : Value} (hv : nodeCells d = [v0, v1, v2, v3]) :
    ToN ((((w.setCell ⟨B, k * 4, none⟩ v0).setCell ⟨B, k * 4 + 1, none⟩ v1).setCell ⟨B, k * 4 + 2, none⟩ v2).setCell ⟨B, k * 4 + 3, none⟩ v3) B n (k + 1) (l ++ [d]) := by
  obtain ⟨h1, h2, h3⟩ := h
  have hlen : (l.flatMap nodeCells).length = k * 4 := by rw [flat_len nodeCells nodeCells_len, h1]
  have hp0 := h2.push (by simp [hlen]; omega) (i := k * 4) (by simp [hlen]) v0
  have hp1 := hp0.push (by simp [hlen]; omega) (i := k * 4 + 1) (by simp [hlen]) v1
  have hp2 := hp1.push (by simp [hlen]; omega) (i := k * 4 + 2) (by simp [hlen]) v2
  have hp3 := hp2.push (by simp [hlen]; omega) (i := k * 4 + 3) (by simp [hlen]) v3
  refine ⟨by simp [h1], ?_, fun x hx => ?_⟩
  · rw [List.flatMap_append, show [d].flatMap nodeCells = [v0, v1, v2, v3] by simp [hv]]
    simpa using hp3
  · rcases List.mem_append.1 hx with hx | hx
    · obtain ⟨e, y, e1, h4, hw⟩ := h3 x hx
      exact ⟨e, y, e1, h4, (((hw.far (by simp; omega) _).far (by simp; omega) _).far (by simp; omega) _).far (by simp; omega) _⟩
    · obtain rfl := List.mem_singleton.1 hx
      exact ⟨hc, g, ha, hB, (((ho.far (by simp; omega) _).far (by simp; omega) _).far (by simp; omega) _).far (by simp; omega) _⟩
theorem infoNode : (Tryz.prog.info? 48).map (fun i => (i.zero, i.size, i.bytes)) = some (some (.agg #[.int .i64 0, .string ⟨#[]⟩, .slice none 0 0, .bool false]), 4, 56) := by kernel_rfl
set_option maxHeartbeats 800000 in
theorem toNodeS_any (A : Option Addr) (n c : Nat) (l : List Nd) (w : World) (hn : n ≤ 1048576) (hr : Nds w A n l) (hm : Hid (∀ d ∈ l, d.cnt ≤ 1048576)) :
    Calls Tryz.prog 8 #[.slice A n c] w fun e w' => ∃ l', e = .returned (.slice (some ⟨w.heap.size, 0, none⟩) n n) ∧ Hid (l'.map Nd.pn = l.map Nd.pn) ∧ OwnNds w' 48 3 w.heap.size w.heap.size n l' ∧ Nps w' (some ⟨w.heap.size, 0, none⟩) n (l.map Nd.pn) ∧ Below w.heap.size w w' := by
  obtain ⟨i0, hi, hz0, hz1, hz2⟩ := info_parts infoNode
  have hmk := fun W => run_make_rowN (P := Tryz.prog) 25 48 i0 _ Tryz.underlying25 hi hz0 .i64 .i64 n n (Nat.le_refl _) (by rw [hz2]; omega) (by omega) W
  have HR := Lib.hid hr
  have HL := Lib.hid hr.len
  rw [hz1] at hmk
  clear hi hz0 hz1 hz2 hr
  go_enter Tryz.func8, Tryz.ntmps8
  go_wp2
  clear hmk
  go_loopw [4] (fun i wr => ∃ (k : Nat) (l' : List Nd), k ≤ n ∧ i = .int .i64 k ∧ Hid (l'.map Nd.pn = (l.take k).map Nd.pn) ∧ ToN wr w.heap.size n k l' ∧ Below w.heap.size w wr) (fun i _ => n - (intOf i).toNat)
  case atStart => exact ⟨0, [], Nat.zero_le _, rfl, (show _ = _ by simp), ⟨rfl, Own.made (size_madeCells _ _), fun d hd => by cases hd⟩, (by repeat' (first | (with_reducible exact Below.refl _ _) | (with_reducible assumption) | (with_reducible refine below_drewN ?_ _) | (with_reducible refine Below.drew ?_) | (with_reducible refine Below.alloc ?_ ?_ _) | (with_reducible refine Below.setCell ?_ ?_ _) | go_size))⟩
  case round =>
    obtain ⟨k, l', hk, rfl, HE, hto, hb⟩ := hrel
    by_cases hkn : k < n
    · obtain ⟨d, hd⟩ : ∃ d, l[k]? = some d := ⟨_, List.getElem?_eq_getElem (by have := HL.out; omega)⟩
      obtain ⟨b, off, rfl, hblt, c0, c1, c2, c3⟩ := (HR.out.below hb).at_ hkn hd
      have HK := Lib.hid ((HR.out.below hb).kids hd)
      have hmk := hm.out d (List.mem_of_getElem? hd)
      have HD := Lib.hid hd
      clear hd
      go_wp2_with fail
      refine (toNode_any _ _ hmk HK.out).mono ?_
      rintro e w2 ⟨g, rfl, ho, hg, h2⟩
      have hb2 := hb.trans (h2.mono hb.size)
      have hgg0 := hto.2.1.lt
      replace hto := hto.next h2
      have hzz := hb2.size
      have hgg := hto.2.1.lt
      obtain ⟨o0, e0⟩ := hto.2.1.there (i := k * 4) (by omega)
      obtain ⟨o1, e1⟩ := hto.2.1.there (i := k * 4 + 1) (by omega)
      obtain ⟨o2, e2⟩ := hto.2.1.there (i := k * 4 + 2) (by omega)
      obtain ⟨o3, e3⟩ := hto.2.1.there (i := k * 4 + 3) (by omega)
      have hfz := hto.2.1.frozen
      have HTO := Lib.hid hto
      have HO := Lib.hid ho
      have hg2 : w.heap.size < g := by omega
      clear hblt c0 c1 c2 c3 hto ho hg
      go_wp2
      go_roundw
      case rel =>
        have hcnt : d.kids.length = d.cnt := rd1_len HK.out
        refine ⟨k + 1, l' ++ [⟨d.kind, d.text, some ⟨g, 0, none⟩, d.cnt, d.cnt, d.kids, d.blank⟩], by omega, by go_num, ?_, ?_, (by repeat' (first | (with_reducible exact Below.refl _ _) | (with_reducible assumption) | (with_reducible refine below_drewN ?_ _) | (with_reducible refine Below.drew ?_) | (with_reducible refine Below.alloc ?_ ?_ _) | (with_reducible refine Below.setCell ?_ ?_ _) | go_size))⟩
        · show _ = _
          rw [List.map_append, HE.out, List.take_add_one, HD.out]
          simp [Nd.pn]
        · exact HTO.out.push hkn ⟨d.kind, d.text, some ⟨g, 0, none⟩, d.cnt, d.cnt, d.kids, d.blank⟩ ⟨hcnt, Nat.le_refl _⟩ rfl hg2 HO.out rfl
      case measure => simp [intOf]; omega
    · obtain rfl : k = n := by omega
      have HE2 : Hid (l'.map Nd.pn = l.map Nd.pn) := (show _ = _ by rw [HE.out, List.take_of_length_le (by have := HL.out; omega)])
      have hown : OwnNds wr 48 3 w.heap.size w.heap.size k l' := ⟨hto.1, Nat.le_refl _, hto.2.1, fun d hd => by
        obtain ⟨_, x, e1, h4, ho⟩ := hto.2.2 d hd
        exact ⟨x, e1, by omega, by omega, ho⟩⟩
      have hnps : Nps wr (some ⟨w.heap.size, 0, none⟩) k (l.map Nd.pn) := ⟨l', hown.nds (fun d hd => (hto.2.2 d hd).1.1), fun d hd => (hto.2.2 d hd).1.2, HE2.out⟩
      have H1 := Lib.hid hown
      have H2 := Lib.hid hnps
      clear hto hown hnps
      go_wp2
      go_ret
      exact ⟨l', rfl, HE2, H1.out, H2.out, hb⟩
set_option maxRecDepth 100000 in
set_option maxHeartbeats 800000 in
theorem eqNode_same (k : Int) (t : ByteArray) (ks : List Int) (z : Bool) (A B : Option Addr) (c c' : Nat) (w : World) (hn : ks.length ≤ 4194304) (ha : Rd w 1 A ks.length (intCells ks)) (hb : Rd w 1 B ks.length (intCells ks)) :
    Calls Tryz.prog 26 #[.agg #[.int .i64 k, .string t, .slice A ks.length c, .bool z], .agg #[.int .i64 k, .string t, .slice B ks.length c', .bool z]] w fun e w' => e = .returned (.bool true) ∧ Below w.heap.size w w' := by
  have HA := Lib.hid ha
  have HB := Lib.hid hb
  have hbw := Below.refl w.heap.size w
  clear ha hb
  go_enter Tryz.func26, Tryz.ntmps26
  go_wp2_with fail
  refine Calls.mono (eqIntS_same _ _ _ _ _ ks _ hn (Lib.hid rfl) ?_ ?_) ?_
  · with_reducible exact (HA.out.alloc _).alloc _
  · with_reducible exact (HB.out.alloc _).alloc _
  rintro e w2 ⟨rfl, h2⟩
  have K1 := Blk.fresh2 h2
  have K2 := Blk.fresh h2
  replace hbw := below_next2 hbw h2
  simp only [World.size_alloc] at K2
  have z1 := K1.lt
  have z2 := K2.lt
  have d3 : w2.cell? ⟨w.heap.size, 3, none⟩ = some (.bool z) := K1.cell 3
  have e3 : w2.cell? ⟨w.heap.size + 1, 3, none⟩ = some (.bool z) := K2.cell 3
  clear K1 K2 h2
  go_wp2
  go_ret
  exact ⟨rfl, hbw⟩
set_option maxRecDepth 100000 in
set_option maxHeartbeats 800000 in
theorem eqNodeS_same (A B : Option Addr) (n c c' : Nat) (ps : List PN) (w : World) (hn : n ≤ 4194304) (ha : Nps w A n ps) (hb : Nps w B n ps) (hs : Hid (∀ p ∈ ps, p.kids.length ≤ 4194304)) :
    Calls Tryz.prog 10 #[.slice A n c, .slice B n c'] w fun e w' => e = .returned (.bool true) ∧ Below w.heap.size w w' := by
  have HL := Lib.hid ha.len
  have HA := Lib.hid ha
  have HB := Lib.hid hb
  clear ha hb
  go_enter Tryz.func10, Tryz.ntmps10
  go_wp2
  go_loopw [5] (fun i wr => ∃ k : Nat, k ≤ n ∧ i = .int .i64 k ∧ Below w.heap.size w wr) (fun i _ => n - (intOf i).toNat)
  case atStart => exact ⟨0, Nat.zero_le _, rfl, Below.refl _ _⟩
  case round =>
    obtain ⟨k, hk, rfl, hbb⟩ := hrel
    by_cases hkn : k < n
    · obtain ⟨p, hd⟩ : ∃ d, ps[k]? = some d := ⟨_, List.getElem?_eq_getElem (by have := HL.out; omega)⟩
      obtain ⟨b, off, A1, c1, rfl, hblt, d0, d1, d2, d3, hr1⟩ := (HA.out.below hbb).at_ hkn hd
      obtain ⟨b', off', A2, c2, rfl, hblt', d0b, d1b, d2b, d3b, hr2⟩ := (HB.out.below hbb).at_ hkn hd
      have hsz := hs.out p (List.mem_of_getElem? hd)
      have HR1 := Lib.hid hr1
      have HR2 := Lib.hid hr2
      clear hd hr1 hr2
      go_upto_region 6 with fail
      go_still_tail 8, (by kernel_rfl)
      change wpList _ _ _ _ _ wr.drew
      go_wp2_with fail
      refine (eqNode_same p.kind p.text p.kids p.blank _ _ _ _ _ hsz HR1.out.drew HR2.out.drew).mono ?_
      rintro e w2 ⟨rfl, h2⟩
      have hb2 : Below w.heap.size w w2 := hbb.drew.trans (h2.mono hbb.size)
      clear hblt hblt' d0 d1 d2 d3 d0b d1b d2b d3b
      go_wp2
      go_roundw
      case rel => exact ⟨k + 1, by omega, by go_num, (by repeat' (first | (with_reducible exact Below.refl _ _) | (with_reducible assumption) | (with_reducible refine below_drewN ?_ _) | (with_reducible refine Below.drew ?_) | (with_reducible refine Below.alloc ?_ ?_ _) | (with_reducible refine Below.setCell ?_ ?_ _) | go_size))⟩
      case measure => simp [intOf]; omega
    · obtain rfl : k = n := by omega
      go_wp2
      go_ret
      exact ⟨rfl, hbb⟩
end Go.Proofs.YtpfanhheodiamaaGreatDoor

/-
  Put together by program (shake.py): TreatA, RfP, RfQ, RfS, RfR, TreatB, LawTreat.
-/
import Derived.Test.YtgaajcbklkchjaaGreatDoorMtJ
import Derived.Test.YtgaajcbklkchjaaGreatDoorMtK
import Derived.Test.YtgaajcbklkchjaaGreatDoorMtL
import Derived.Test.YtgaajcbklkchjaaGreatDoorMtM
import Derived.Test.YtgaajcbklkchjaaGreatDoorMtG
import Derived.Deep.RegionLaw
import Derived.Laws.AppendOwnNone
import Derived.Deep.RegionHeld3
import Derived.Test.YtgaajcbklkchjaaGreatDoorMtH
import Derived.Test.YtgaajcbklkchjaaGreatDoorMtB
set_option maxRecDepth 100000
set_option maxHeartbeats 25600000
set_option linter.unusedVariables false
set_option linter.unusedSimpArgs false
open Go.Lib (hid)
open Go.Proofs.Tryz
namespace Go.Proofs.YtgaajcbklkchjaaGreatDoor
open Go.RowKit
theorem Made.parts {w w' : World} {ps : List PN} {A : Option Addr} {n c : Nat} (h : Made w ps (.returned (.slice A n c)) w') : Npc w' A n ps ∧ Below w.heap.size w w' := by
 obtain ⟨A', n', c', l, he, hN, hE, hB⟩ := h
 injection he with he
 injection he with e1 e2 e3
 subst e1; subst e2; subst e3; subst hE
 exact ⟨hN.npc, hB⟩
theorem implTreated_any (A : Option Addr) (n c : Nat) (ps : List PN) (a b : Int) (s f o : Bool) (w : World) (hf : FineT ps) (hps : Nps w A n ps) (htab : Hid (Tab w)) :
  Calls prog 9 #[.slice A n c, .agg #[.int .i64 a, .int .i64 b, .bool s, .bool f, .bool o]] w (Made w (treatV lessB ps s f o)) := by
 have hl := hps.len
 have hn : n ≤ 1048576 := by rw [← hl]; exact hf.2
 have hba : Below w.heap.size w (w.alloc (.cells #[.int .i64 a, .int .i64 b, .bool s, .bool f, .bool o] 29)) := grow_
 have HBA := hid hba
 have HC := hid (implCopy_any A n c ps _ hn (hps.next hba) hf.1)
 have HF := hid hf
 have HK := hid (Blk.new w 29 #[.int .i64 a, .int .i64 b, .bool s, .bool f, .bool o])
 obtain ⟨Q, hQ⟩ : ∃ Q, treatV lessB ps s f o = Q := ⟨_, rfl⟩
 rw [hQ]
 replace hQ := hid hQ
 clear hps hf hba hl
 go_enter func9, ntmps9
 go_wp2_with fail
 refine HC.out.mono ?_
 rintro e w1 h1
 have HM := hid (h1.from HBA.out)
 obtain ⟨A1, n1, c1, l1, rfl, h1n, h1e, h1b⟩ := h1
 replace HK := hid (HK.out.next h1b)
 have x2 := HK.out.q2
 have x3 := HK.out.q3
 have x4 := HK.out.q4
 have xf := HK.out.frozen
 have xz := HK.out.lt
 clear h1n h1e h1b HC HBA
 cases f <;> cases s <;> cases o
 ·go_wp2
  go_ret
  rw [← hQ.out]
  exact HM.out
 ·go_wp2_with fail
  refine (implOrdered_any _ _ _ _ _ HF.out (Made.parts HM.out).1.nps).mono ?_
  rintro e w2 h2
  replace HM := hid (h2.from (Made.parts HM.out).2)
  obtain ⟨A2, n2, c2, l2, rfl, h2n, h2e, h2b⟩ := h2
  replace HK := hid (HK.out.next h2b)
  clear x2 x3 x4 xf xz h2n h2e h2b
  have x2 := HK.out.q2
  have x3 := HK.out.q3
  have x4 := HK.out.q4
  have xf := HK.out.frozen
  have xz := HK.out.lt
  go_wp2
  go_ret
  rw [← hQ.out]
  exact HM.out
 ·go_wp2_with fail
  refine (implSpared_any _ _ _ _ _ HF.out (Made.parts HM.out).1.nps).mono ?_
  rintro e w2 h2
  replace HM := hid (h2.from (Made.parts HM.out).2)
  obtain ⟨A2, n2, c2, l2, rfl, h2n, h2e, h2b⟩ := h2
  replace HK := hid (HK.out.next h2b)
  clear x2 x3 x4 xf xz h2n h2e h2b
  have x2 := HK.out.q2
  have x3 := HK.out.q3
  have x4 := HK.out.q4
  have xf := HK.out.frozen
  have xz := HK.out.lt
  go_wp2
  go_ret
  rw [← hQ.out]
  exact HM.out
 ·go_wp2_with fail
  refine (implSpared_any _ _ _ _ _ HF.out (Made.parts HM.out).1.nps).mono ?_
  rintro e w2 h2
  replace HM := hid (h2.from (Made.parts HM.out).2)
  obtain ⟨A2, n2, c2, l2, rfl, h2n, h2e, h2b⟩ := h2
  replace HK := hid (HK.out.next h2b)
  clear x2 x3 x4 xf xz h2n h2e h2b
  have x2 := HK.out.q2
  have x3 := HK.out.q3
  have x4 := HK.out.q4
  have xf := HK.out.frozen
  have xz := HK.out.lt
  go_wp2_with fail
  refine (implOrdered_any _ _ _ _ _ (sparedV_fine HF.out) (Made.parts HM.out).1.nps).mono ?_
  rintro e w3 h3
  replace HM := hid (h3.from (Made.parts HM.out).2)
  obtain ⟨A3, n3, c3, l3, rfl, h3n, h3e, h3b⟩ := h3
  replace HK := hid (HK.out.next h3b)
  clear x2 x3 x4 xf xz h3n h3e h3b
  have x2 := HK.out.q2
  have x3 := HK.out.q3
  have x4 := HK.out.q4
  have xf := HK.out.frozen
  have xz := HK.out.lt
  go_wp2
  go_ret
  rw [← hQ.out]
  exact HM.out
 ·go_wp2_with fail
  refine (implFolded_any _ _ _ _ _ HF.out (Made.parts HM.out).1.nps (hid (Tab.next htab.out (Made.parts HM.out).2))).mono ?_
  rintro e w2 h2
  replace HM := hid (h2.from (Made.parts HM.out).2)
  obtain ⟨A2, n2, c2, l2, rfl, h2n, h2e, h2b⟩ := h2
  replace HK := hid (HK.out.next h2b)
  clear x2 x3 x4 xf xz h2n h2e h2b
  have x2 := HK.out.q2
  have x3 := HK.out.q3
  have x4 := HK.out.q4
  have xf := HK.out.frozen
  have xz := HK.out.lt
  go_wp2
  go_ret
  rw [← hQ.out]
  exact HM.out
 ·go_wp2_with fail
  refine (implFolded_any _ _ _ _ _ HF.out (Made.parts HM.out).1.nps (hid (Tab.next htab.out (Made.parts HM.out).2))).mono ?_
  rintro e w2 h2
  replace HM := hid (h2.from (Made.parts HM.out).2)
  obtain ⟨A2, n2, c2, l2, rfl, h2n, h2e, h2b⟩ := h2
  replace HK := hid (HK.out.next h2b)
  clear x2 x3 x4 xf xz h2n h2e h2b
  have x2 := HK.out.q2
  have x3 := HK.out.q3
  have x4 := HK.out.q4
  have xf := HK.out.frozen
  have xz := HK.out.lt
  go_wp2_with fail
  refine (implOrdered_any _ _ _ _ _ (foldedV_fine HF.out) (Made.parts HM.out).1.nps).mono ?_
  rintro e w3 h3
  replace HM := hid (h3.from (Made.parts HM.out).2)
  obtain ⟨A3, n3, c3, l3, rfl, h3n, h3e, h3b⟩ := h3
  replace HK := hid (HK.out.next h3b)
  clear x2 x3 x4 xf xz h3n h3e h3b
  have x2 := HK.out.q2
  have x3 := HK.out.q3
  have x4 := HK.out.q4
  have xf := HK.out.frozen
  have xz := HK.out.lt
  go_wp2
  go_ret
  rw [← hQ.out]
  exact HM.out
 ·go_wp2_with fail
  refine (implFolded_any _ _ _ _ _ HF.out (Made.parts HM.out).1.nps (hid (Tab.next htab.out (Made.parts HM.out).2))).mono ?_
  rintro e w2 h2
  replace HM := hid (h2.from (Made.parts HM.out).2)
  obtain ⟨A2, n2, c2, l2, rfl, h2n, h2e, h2b⟩ := h2
  replace HK := hid (HK.out.next h2b)
  clear x2 x3 x4 xf xz h2n h2e h2b
  have x2 := HK.out.q2
  have x3 := HK.out.q3
  have x4 := HK.out.q4
  have xf := HK.out.frozen
  have xz := HK.out.lt
  go_wp2_with fail
  refine (implSpared_any _ _ _ _ _ (foldedV_fine HF.out) (Made.parts HM.out).1.nps).mono ?_
  rintro e w3 h3
  replace HM := hid (h3.from (Made.parts HM.out).2)
  obtain ⟨A3, n3, c3, l3, rfl, h3n, h3e, h3b⟩ := h3
  replace HK := hid (HK.out.next h3b)
  clear x2 x3 x4 xf xz h3n h3e h3b
  have x2 := HK.out.q2
  have x3 := HK.out.q3
  have x4 := HK.out.q4
  have xf := HK.out.frozen
  have xz := HK.out.lt
  go_wp2
  go_ret
  rw [← hQ.out]
  exact HM.out
 ·go_wp2_with fail
  refine (implFolded_any _ _ _ _ _ HF.out (Made.parts HM.out).1.nps (hid (Tab.next htab.out (Made.parts HM.out).2))).mono ?_
  rintro e w2 h2
  replace HM := hid (h2.from (Made.parts HM.out).2)
  obtain ⟨A2, n2, c2, l2, rfl, h2n, h2e, h2b⟩ := h2
  replace HK := hid (HK.out.next h2b)
  clear x2 x3 x4 xf xz h2n h2e h2b
  have x2 := HK.out.q2
  have x3 := HK.out.q3
  have x4 := HK.out.q4
  have xf := HK.out.frozen
  have xz := HK.out.lt
  go_wp2_with fail
  refine (implSpared_any _ _ _ _ _ (foldedV_fine HF.out) (Made.parts HM.out).1.nps).mono ?_
  rintro e w3 h3
  replace HM := hid (h3.from (Made.parts HM.out).2)
  obtain ⟨A3, n3, c3, l3, rfl, h3n, h3e, h3b⟩ := h3
  replace HK := hid (HK.out.next h3b)
  clear x2 x3 x4 xf xz h3n h3e h3b
  have x2 := HK.out.q2
  have x3 := HK.out.q3
  have x4 := HK.out.q4
  have xf := HK.out.frozen
  have xz := HK.out.lt
  go_wp2_with fail
  refine (implOrdered_any _ _ _ _ _ (sparedV_fine (foldedV_fine HF.out)) (Made.parts HM.out).1.nps).mono ?_
  rintro e w4 h4
  replace HM := hid (h4.from (Made.parts HM.out).2)
  obtain ⟨A4, n4, c4, l4, rfl, h4n, h4e, h4b⟩ := h4
  replace HK := hid (HK.out.next h4b)
  clear x2 x3 x4 xf xz h4n h4e h4b
  have x2 := HK.out.q2
  have x3 := HK.out.q3
  have x4 := HK.out.q4
  have xf := HK.out.frozen
  have xz := HK.out.lt
  go_wp2
  go_ret
  rw [← hQ.out]
  exact HM.out
def offD (d : Nd) : Nd := ⟨d.kind, d.text, d.adr, d.cnt, d.cap, d.kids, false⟩
theorem offD_cells (d : Nd) : nodeCells (offD d) = (nodeCells d).set 3 (.bool false) := rfl
section
variable {R : MC} {w : World} {row0 : Option Nat} {g gn : Nat} {box : Array Value} {j : Nat} {AK : Option Addr} {cK : Nat} {ks : List Int} {AL : Option Addr} {cL : Nat} {l : List Nd} {d : Nd} {wr : World}
theorem KidG.offLast (hR : R.imp = false) (h : KidG R w row0 g box j AK cK ks AL cL (l ++ [d]) wr) (hA : AL = some ⟨gn, 0, none⟩) : KidG R w row0 g box j AK cK ks AL cL (l ++ [offD d]) (wr.setCell ⟨gn, l.length * 4 + 3, none⟩ (.bool false)) := by
 obtain ⟨c1, c2, c3, c6, c7⟩ := h.mkc
 have hsz : (wr.setCell ⟨gn, l.length * 4 + 3, none⟩ (.bool false)).heap.size = wr.heap.size := by simp [World.setCell]
 have hk := Kept.of_set wr (B := gn) (hi := gn + 1) (Nat.le_refl _) (by omega) (l.length * 4 + 3) (.bool false)
 obtain ⟨cs, hrow⟩ := mine_blk' c2 (g := gn) (by rw [hA]; rfl)
 have hB : R.w0.heap.size ≤ gn := (Mine.blk c2 (g := gn) (by rw [hA]; rfl)).1
 have hgg : g ≠ gn := fun e => h.off (by rw [hA, e]; rfl)
 have hll : (l ++ [offD d]).length = (l ++ [d]).length := by simp
 have hkid : ∀ x, KidsIn wr R.w0.heap.size (R.res AK).U x → KidsIn (wr.setCell ⟨gn, l.length * 4 + 3, none⟩ (.bool false)) R.w0.heap.size (R.res AK).U x := fun x hx => ⟨hx.1, mine_set hx.2 hrow (by decide) _ _⟩
 refine ⟨h.klen, ⟨fun hi => ?_, ?_, ⟨fun x hx => ?_, fun q hq => by rw [hsz]; exact c3.2.1 q hq, ?_⟩, c6.setCell hB _, c7⟩, ⟨by rw [hsz]; exact h.ke.1, h.ke.2.1, fun q hq ht hr => ?_⟩, mine_set h.row hrow (by decide) _ _, h.box.keptR hk (by omega), h.ge, h.off⟩
 ·have hi2 : R.imp = true := hi
  rw [hR] at hi2; cases hi2
 ·rcases c2.own with ⟨e, _⟩ | ⟨g', e, h1, h2, h3, ho⟩
  ·rw [hA] at e; cases e
  ·have e2 := e
   rw [hA] at e; injection e with e; injection e with e1 e3 e4; subst e1
   rw [e2, hll]
   refine Mine.mk_own ?_ (by rw [flat_len nodeCells nodeCells_len, hll]) h1 h2 h3
   rw [← flat_put l [] d (offD d) 3 (.bool false) (by decide) (offD_cells d)]
   exact ho.set (by rw [flat_len nodeCells nodeCells_len]; simp; omega) _
 ·rcases List.mem_append.1 hx with hx | hx
  ·exact hkid x (c3.1 x (by simp [hx]))
  ·obtain rfl := List.mem_singleton.1 hx
   exact hkid d (c3.1 d (by simp))
 ·exact apart_swap (d' := offD d) c3.2.2 rfl
 ·refine (hk.2.2 q (Nat.lt_of_lt_of_le hq h.ke.1) ?_).trans (h.ke.2.2 q hq ht hr)
  rcases h.ke.2.1 with e | ⟨g2, e, hg2⟩
  ·have : q ≠ gn := fun e3 => hr (by rw [← e, hA, e3]; rfl)
   omega
  ·rw [hA] at e
   injection e with e
   simp only at e
   omega
end
theorem ordered_eq {ps : List PN} {m : Nat} (hF : TreeF ps m) (lt : ByteArray → ByteArray → Bool) :
  mkV idW (oldP ps m (ordK lt ps m)) m [] = (ordS ps (ordK lt ps m) [] []).1 ++ [⟨22, ⟨#[]⟩, (ordS ps (ordK lt ps m) [] []).2, false⟩] := by
 obtain ⟨x, hx, h22, htx, hbl⟩ := hF.root
 have hO := ordK_ok lt hF.tree hx
 have hr := oldP_root (K := ordK lt ps m) hO.head hx
 rw [mkV_eq (idW_fits hO.goodO) hr rfl, hO.all [], htx, h22, hbl]
 rfl
theorem ordS_step {ps : List PN} {kid : Int} {r : List Int} {o : List PN} {ks : List Int} :
 ordS ps (kid :: r) o ks = ordS ps r (if ks.length = 0 then (mkV idW ps kid.toNat o).modify ((mkV idW ps kid.toNat o).length - 1) offN else mkV idW ps kid.toNat o) (ks ++ [((mkV idW ps kid.toNat o).length : Int) - 1]) := rfl
theorem Grps.ke {R : MC} {q : Int} {V : Value} {AN : Option Addr} {cN : Nat} {ln : List Nd} {w w' : World} {row' : Option Nat} {B n c : Nat} {A : Option Addr} {l : List Gd} (hR : R.imp = false) (h : Grps w B A n c l) (hc : MkC R q V AN cN ln w) (k : Ke R (AN.map (·.block)) w row' w') : Grps w' B A n c l := by
 refine ⟨h.len, ?_, fun d hd => hc.keepI k (h.notes d hd)⟩
 have hl := h.row.len
 rcases h.row.own with ⟨e1, e2, e3⟩ | ⟨g, e1, hB, hn, hcc, rest, hb, hs⟩
 ·rw [e1, e2, e3]; exact ⟨by rw [hl, e2], .inl ⟨rfl, rfl⟩⟩
 ·rw [e1]; exact Mine.mk_own ⟨rest, hc.keepB k hb (fun hi => by rw [hR] at hi; cases hi) (by decide), hs⟩ hl hB hn hcc
theorem costK_perm {g : Nat → Nat} {a b : List Int} (h : a.Perm b) : costK g a = costK g b := by
 unfold costK
 exact (h.map _).sum_nat
theorem step_append_rd {P : Program} {w : World} {ops : Array Oper} {o : Oper} {a : Act} {K : Act → World → Prop} {Q : Exit → Act → World → Prop} {E : Prop} (hgd : o.guard = none) (s x : Operand) (t : TypeId)
  (ho : o.op = .call { callee := .builtin .append, args := #[s, x], argTypes := #[t, t] })
  (base : Nat) (e : TypeId) (i : TypeInfo) (z : Value) (size bytes : Nat) (ht : P.underlying t = some (.slice e)) (hi : P.info? e = some i) (hz : i.zero = some z)
  (hsize : i.size = size) (hby : i.bytes = bytes) (hzs : z.cells.size = size) (hsz : 0 < size)
  (v : Value) (n : Nat) (xs : List Value) (hs : a.eval s = v) (hown : w.ownsRow base e size v n xs)
  (A : Option Addr) (m c : Nat) (news : List Value) (hx : a.eval x = .slice A m c) (hm : Rd w size A m news) (hA : A = none → m = 0 ∧ c = 0) (h1 : ∀ u ∈ news, u.oneCell' = true)
  (h63 : n + m ≤ maxLen) (hbytes : (n + m) * bytes ≤ 140737488355328) (hbase : base ≤ w.heap.size)
  (h : ∀ v' w', w'.ownsRow base e size v' (n + m) (xs ++ news) → w.grownBy w' v.ownBlock → (v'.ownBlock = v.ownBlock ∨ v'.ownBlock = some w.heap.size) → K (a.put o.dst v') w') :
  if Region.wanted o (yielded ops a.tmps) = true then Oper.wp P o a w K Q else E := by
 have hw : Region.wanted o (yielded ops a.tmps) = true := by simp [Region.wanted, hgd]
 rw [if_pos hw]
 cases A with
 | none =>
  obtain ⟨rfl, rfl⟩ := hA rfl
  have e0 : news = [] := List.eq_nil_of_length_eq_zero (by simpa using hm.1)
  subst e0
  have hrun := run_append_owned_none (P := P) (w := w) base t o.type e i size ht hi v n xs hown
  unfold Oper.wp
  simp [execOp, ho, resolve, invoke, builtin, hs, hx, hrun, Result.andThen]
  exact h v w (by rw [List.append_nil]; exact hown) ⟨rfl, rfl, rfl, Nat.le_refl _, fun k _ _ => rfl⟩ (.inl rfl)
 | some ad =>
  have hnews : ∀ j u, news[j]? = some u → w.cell? (ad.add j) = some u := fun j u hj => by
   have hj2 := (List.getElem?_eq_some_iff.1 hj).1
   rw [hm.1] at hj2
   have h0 : 0 < m := Nat.pos_of_ne_zero (fun e => by subst e; simp at hj2)
   obtain ⟨b, off, e', _, hcc⟩ := hm.2 h0
   injection e' with e'
   subst e'
   have h7 := hcc j u hj
   unfold Addr.add
   split
   ·next e => subst e; simpa using h7
   ·simpa using h7
  obtain ⟨v', w', hr, h2, h3, _⟩ := run_append_own (P := P) w base t o.type e i z size bytes ht hi hz hsize hby hzs hsz v n xs hown ad m c news hm.1 hnews h1 h63 hbytes hbase
  have h4 := append_where (P := P) w base t o.type e i z size bytes ht hi hz hsize hby hsz v n xs hown ad m c news hm.1 hnews h1 h63 hbytes hr
  unfold Oper.wp
  simp [execOp, ho, resolve, invoke, builtin, hs, hx, hr, Result.andThen]
  exact h v' w' h2 h3 h4
theorem rd_blk {w : World} {g : Nat} {t : TypeId} {u : Value} (h : Blk w g t #[u]) : Rd w 1 (some ⟨g, 0, none⟩) 1 [u] := by
 refine ⟨rfl, fun _ => ⟨g, 0, rfl, h.lt, fun j v hj => ?_⟩⟩
 have hj1 : j < 1 := (List.getElem?_eq_some_iff.1 hj).1
 obtain rfl : j = 0 := by omega
 rw [h.cell]
 exact hj
structure SideG (kb ws B : Nat) (A : Option Addr) (n c : Nat) (l : List Gd) (Ad : Option Addr) (na ca : Nat) (kv : List Int) (AK : Option Addr) (w : World) : Prop where
 grps : Grps w B A n c l
 row : Mine w B 3 1 Ad na ca (intCells kv)
 ak : ∀ g, AK.map (·.block) = some g → g = kb ∨ ws ≤ g
 apart : ∀ g, AK.map (·.block) = some g → Ad.map (·.block) ≠ some g
 size : ws ≤ w.heap.size
 low : kb < B
 notes : ∀ d ∈ l, ∀ g, d.adr.map (·.block) = some g → g < ws
section
variable {kb ws B : Nat} {A : Option Addr} {n c : Nat} {l : List Gd} {Ad : Option Addr} {na ca : Nat} {kv : List Int} {AK A' : Option Addr} {w w' w1 w3 : World}
theorem SideG.next (h : SideG kb ws B A n c l Ad na ca kv AK w) (hb : Below w.heap.size w w') : SideG kb ws B A n c l Ad na ca kv AK w' :=
 ⟨h.grps.next hb, h.row.next hb, h.ak, h.apart, Nat.le_trans h.size hb.size, h.low, h.notes⟩
theorem SideG.ke {R : MC} {q : Int} {V : Value} {AN : Option Addr} {cN : Nat} {ln : List Nd} {row' : Option Nat} (hR : R.imp = false) (h : SideG kb ws B A n c l Ad na ca kv AK w) (hc : MkC R q V AN cN ln w) (k : Ke R (AN.map (·.block)) w row' w') : SideG kb ws B A n c l Ad na ca kv AK w' :=
 ⟨h.grps.ke hR hc k, hc.keepI k h.row, h.ak, h.apart, Nat.le_trans h.size k.1, h.low, h.notes⟩
theorem SideG.set (h : SideG kb ws B A n c l Ad na ca kv AK w) {g : Nat} {cs : Array Value} (hb : Blk w g 48 cs) (i : Nat) (u : Value) : SideG kb ws B A n c l Ad na ca kv AK (w.setCell ⟨g, i, none⟩ u) :=
 ⟨⟨h.grps.len, mine_set h.grps.row hb (by decide) _ _, fun d hd => mine_set (h.grps.notes d hd) hb (by decide) _ _⟩, mine_set h.row hb (by decide) _ _, h.ak, h.apart, by simpa [World.setCell] using h.size, h.low, h.notes⟩
theorem SideG.app (h : SideG kb ws B A n c l Ad na ca kv AK w) {B' m cK : Nat} {ks : List Value} (hk : Mine w B' 3 1 AK m cK ks) (hw1 : Below w.heap.size w w1) (hg : w1.grownBy w3 (Value.slice AK m cK).ownBlock) {v' : Value} {m' c' : Nat} (hv : v' = .slice A' m' c') (hwh : v'.ownBlock = (Value.slice AK m cK).ownBlock ∨ v'.ownBlock = some w1.heap.size) : SideG kb ws B A n c l Ad na ca kv A' w3 := by
 subst hv
 rw [ownBlk, ownBlk] at hwh
 rw [ownBlk] at hg
 have h1 := h.next hw1
 have hk1 := hk.next hw1
 refine ⟨⟨h.grps.len, h1.grps.row.grown hg (fun g e => .inr (fun e' => ?_)), fun d hd => (h1.grps.notes d hd).grown hg (fun g e => .inr (fun e' => ?_))⟩, h1.row.grown hg (fun g e => .inr (h.apart g e)), fun g e => ?_, fun g e e' => ?_, Nat.le_trans h1.size hg.size, h.low, h.notes⟩
 ·obtain ⟨cs1, b1⟩ := mine_blk' h1.grps.row e'
  obtain ⟨cs2, b2⟩ := mine_blk' hk1 e
  exact blk_ne b1 b2 (by decide) rfl
 ·have h2 := h.ak g e
  have h3 := h.notes d hd g e'
  have h4 := (Mine.blk (h1.grps.notes d hd) e').1
  have h5 := h.low
  omega
 ·rcases hwh with e2 | e2
  ·rw [e2] at e; exact h.ak g e
  ·rw [e2] at e; injection e with e; have := h1.size; omega
 ·rcases hwh with e2 | e2
  ·rw [e2] at e; exact h.apart g e e'
  ·rw [e2] at e; injection e with e; have := (Mine.blk h1.row e').2; omega
end
theorem ordS_first {ps : List PN} {q : Nat} {r : List Int} {o : List PN} {ks : List Int} {a : List PN} {x : PN} {Q : List PN × List Int} (h : ordS ps ((q : Int) :: r) o ks = Q) (he : mkV idW ps q o = a ++ [x]) :
  ordS ps r (if ks.length = 0 then a ++ [offN x] else a ++ [x]) (ks ++ [(a.length : Int)]) = Q := by
 rw [ordS_step, Int.toNat_natCast, he] at h
 have h1 : (a ++ [x]).length - 1 = a.length := by simp
 have h2 : (((a ++ [x]).length : Nat) : Int) - 1 = a.length := by simp
 have h3 : (a ++ [x]).modify a.length offN = a ++ [offN x] := by
  have := modify_last offN x a
  exact this
 rw [h1, h2, h3] at h
 exact h
theorem specOrdered_any (A : Option Addr) (n c : Nat) (ps : List PN) (w : World) (hf : FineT ps) (hps : Npc w A n ps) :
  Calls prog 30 #[.slice A n c] w (Made w (orderedV lessB ps)) := by
 have hl := hps.nps.len
 have hn : n ≤ 1048576 := by rw [← hl]; exact hf.2
 have HT := hid (specTreeOk_any A n c ps _ hn hps.nps hf.1)
 have HC := hid (fun W (hW : Below w.heap.size w W) => specCopy_any A n c ps W hn (hps.next hW) hf.1)
 have HPS := hid hps.nps
 have HFF := hid (fun h => treeF (ps := ps) h)
 have HF := hid hf
 unfold orderedV
 cases ht : treeB ps with
 | false =>
  rw [if_neg (by decide)]
  rw [ht] at HT
  clear hps hf
  go_enter func30, ntmps30
  go_wp2_with fail
  refine HT.out.mono ?_
  rintro e w1 ⟨rfl, h1⟩
  have hB1 := hid h1
  clear h1
  go_wp2_with fail
  refine (HC.out _ hB1.out).mono ?_
  rintro e w2 h2
  have HM := hid (h2.from hB1.out)
  obtain ⟨A3, n3, c3, l3, rfl, _⟩ := h2
  go_wp2
  go_ret
  exact HM.out
 | true =>
  rw [if_pos rfl]
  rw [ht] at HT
  obtain ⟨m, hF⟩ := HFF.out ht
  have hlm := hF.tree.len
  obtain rfl : n = m + 1 := by omega
  rw [show ps.length - 1 = m by omega, ordered_eq hF lessB]
  have HFT := hid hF
  have hm300 := hF.few
  obtain ⟨xr, hxr, _⟩ := hF.root
  have hpm := ordK_perm lessB hF.tree hxr
  have HCS := hid (show costK (visV ps) (ordK lessB ps m) + 1 ≤ 300 by
   rw [costK_perm hpm]
   have h1 := visV_eq hF.tree.good hxr
   have h2 := visV_root hF.tree.good hlm hF.tree.used
   omega)
  have HCL := hid (show (ordK lessB ps m).length ≤ 12 by rw [hpm.length_eq]; exact (hF.tree.good m xr hxr).1)
  have HNM := hid (fun W (hW : Below w.heap.size w W) => put26_any A (m + 1) c ps W (HPS.out.next hW) hF.tree.good)
  have HGO := hid (fun W (hW : Below w.heap.size w W) => specOrdGroups_any A (m + 1) c ps m hF ht W HF.out (HPS.out.next hW))
  obtain ⟨Q, hQ⟩ : ∃ Q, ordS ps (ordK lessB ps m) [] [] = Q := ⟨_, rfl⟩
  rw [hQ]
  replace hQ := hid hQ
  clear hps hf HC HFF hF
  go_enter func30, ntmps30
  go_wp2_with fail
  refine HT.out.mono ?_
  rintro e w1 ⟨rfl, h1⟩
  have hB1 := hid h1
  clear h1
  go_wp2_with fail
  have hb2 : Below w1.heap.size w1 (((w1.alloc (.cells #[] 48)).alloc (.cells #[] 3)).alloc (.cells #[.int .i64 22, .string ⟨#[]⟩, .slice (some ⟨w1.heap.size + 1, 0, none⟩) 0 0, .bool false] 48)) := grow_
  refine (HGO.out _ (below_next hB1.out hb2)).mono ?_
  rintro e w2 ⟨A2, n2, c2, l2, rfl, hG2, hE2, hB2⟩
  have HKG := hid (show KidG (RS w1 (fun _ => False)) (w1.alloc (.cells #[] 48)) (some w1.heap.size) (w1.heap.size + 2) #[.int .i64 22, .string ⟨#[]⟩, .slice none 0 0, .bool false] 0 (some ⟨w1.heap.size + 1, 0, none⟩) 0 [] (some ⟨w1.heap.size, 0, none⟩) 0 [] w2 from by
   have h0 := KidG.init (g := w1.heap.size + 2) (box := #[.int .i64 22, .string ⟨#[]⟩, .slice none 0 0, .bool false]) (wx := ((w1.alloc (.cells #[] 48)).alloc (.cells #[] 3)).alloc (.cells #[.int .i64 22, .string ⟨#[]⟩, .slice (some ⟨w1.heap.size + 1, 0, none⟩) 0 0, .bool false] 48)) (g1 := w1.heap.size + 1) (c1 := 0) rfl (MkC.start0 w1) grow_ (by simp)
    (by
      have := Blk.new ((w1.alloc (.cells #[] 48)).alloc (.cells #[] 3)) 48 #[.int .i64 22, .string ⟨#[]⟩, .slice (some ⟨w1.heap.size + 1, 0, none⟩) 0 0, .bool false]
      rw [World.size_alloc, World.size_alloc] at this
      exact this)
    (by
      have := mine_empty (w1.alloc (.cells #[] 48)) 3 1
      rw [World.size_alloc] at this
      exact (this.alloc _).more (by simp))
   exact h0.next hB2)
  have hn2 : n2 ≤ 13 := by
   have h1 := groupsV_len HFT.out
   have h2 := (insAll_perm (fun x y : Grp => lessB (keyV ps x.2) (keyV ps y.2)) (groupsV ps m) []).length_eq
   rw [List.nil_append] at h2
   have h3 := congrArg List.length hE2
   rw [List.length_map, hG2.len] at h3
   have h4 : (ordV lessB ps m).length = (groupsV ps m).length := h2
   omega
  have HG2 := hid hG2
  have HE2 := hid hE2
  have HB2 := hid (below_next (below_next hB1.out hb2) hB2)
  have hb2' := below_next hb2 hB2
  have HB12 := hid hb2'
  have HPUT := hid (HNM.out w1 hB1.out)
  have HZ23 := hid (show w1.heap.size + 3 ≤ w2.heap.size by have h8 := hB2.size; simp only [World.size_alloc] at h8; omega)
  clear hG2 hE2 hB2 hb2 hb2' HT HGO HNM
  go_wp2
  have HG2w := hid (show ∀ d ∈ l2, ∀ g, d.adr.map (·.block) = some g → w1.heap.size + 3 ≤ g ∧ g < w2.heap.size from fun d hd g e => by
   have h8 := Mine.blk (HG2.out.notes d hd) e
   simp only [World.size_alloc] at h8
   exact h8)
  have HK0 := hid (show (l2.drop 0).flatMap (fun d => grpKids d.gp) = ordK lessB ps m by rw [ordK, ← HE2.out, List.drop_zero, List.flatMap_map])
  have HVB := hid (show ∀ d ∈ l2, ∀ v ∈ grpKids d.gp, 0 ≤ v ∧ v < (m : Int) from fun d hd v hv => by
   have h1 : v ∈ ordK lessB ps m := by
    rw [ordK, ← HE2.out, List.flatMap_map, List.mem_flatMap]
    exact ⟨d, hd, hv⟩
   obtain ⟨xr, hxr, _⟩ := HFT.out.root
   exact (HFT.out.tree.good m xr hxr).2 v ((ordK_perm lessB HFT.out.tree hxr).mem_iff.1 h1))
  have HAK0 := hid (show ∀ g, (some (⟨w1.heap.size + 1, 0, none⟩ : Addr)).map (·.block) = some g → g = w1.heap.size + 1 ∨ w2.heap.size ≤ g from fun g e => by injection e with e; exact .inl e.symm)
  go_loopw [3, 6] (fun s3 s6 wr => ∃ (j : Nat) (AK : Option Addr) (nk cK : Nat) (ks : List Int) (AL : Option Addr) (cL : Nat) (l : List Nd), j ≤ n2 ∧ s6 = .int .i64 j ∧ s3 = .slice AL l.length cL ∧ Hid (KidG (RS w1 (fun _ => False)) (w1.alloc (.cells #[] 48)) (some w1.heap.size) (w1.heap.size + 2) #[.int .i64 22, .string ⟨#[]⟩, .slice none 0 0, .bool false] nk AK cK ks AL cL l wr) ∧ Hid (ordS ps ((l2.drop j).flatMap (fun d => grpKids d.gp)) (l.map Nd.pn) ks = Q) ∧ Hid (Grps wr (w1.heap.size + 3) A2 n2 c2 l2) ∧ Hid (∀ g, AK.map (·.block) = some g → g = w1.heap.size + 1 ∨ w2.heap.size ≤ g) ∧ Hid (w2.heap.size ≤ wr.heap.size) ∧ Hid (l.length + costK (visV ps) ((l2.drop j).flatMap (fun d => grpKids d.gp)) + 1 ≤ 300) ∧ Hid (nk + ((l2.drop j).flatMap (fun d => grpKids d.gp)).length ≤ 12)) (fun _ i _ => n2 - (intOf i).toNat)
  case atStart => exact ⟨0, _, 0, 0, [], _, 0, [], Nat.zero_le _, rfl, rfl, HKG, hid (by rw [← hQ.out, ordK, ← HE2.out, List.drop_zero, List.flatMap_map]; rfl), hid (by have h := HG2.out; simpa only [World.size_alloc] using h), HAK0, hid (Nat.le_refl _), hid (by rw [HK0.out, List.length_nil, Nat.zero_add]; exact HCS.out), hid (by rw [HK0.out, Nat.zero_add]; exact HCL.out)⟩
  case round =>
   clear HKG hQ HCS HCL HK0 HAK0
   obtain ⟨j, AK, nk, cK, ks, AL, cL, l, hj, rfl, rfl, HM, HE, HGW, HAK, HSZ, HV, HK12⟩ := hrel
   by_cases hjl : j < n2
   ·obtain ⟨d, hd⟩ : ∃ d, l2[j]? = some d := ⟨_, gE (by rw [HG2.out.len]; exact hjl)⟩
    obtain ⟨b, off, rfl, hblt, x0, x1⟩ := HGW.out.at_ hjl hd
    have HD := hid hd
    have HDR := hid (show l2.drop j = d :: l2.drop (j + 1) by
     obtain ⟨h1, h2⟩ := List.getElem?_eq_some_iff.1 hd
     rw [List.drop_eq_getElem_cons h1, h2])
    have HNO := hid (HGW.out.notes d (List.mem_of_getElem? hd))
    clear hd
    have HMB := hid (fun (h : 0 ≤ d.mem) => (show grpKids d.gp = d.notes ++ [d.mem] by unfold grpKids; rw [if_pos (show 0 ≤ d.gp.2 from h)]; rfl))
    have HMN := hid (fun (h : ¬ 0 ≤ d.mem) => (show grpKids d.gp = d.notes by unfold grpKids; rw [if_neg (show ¬ 0 ≤ d.gp.2 from h)]; exact List.append_nil _))
    obtain ⟨W0, rfl⟩ : ∃ W0, W0 = wr := ⟨_, rfl⟩
    go_upto_if 36 with fail
    go_cut [7] (fun s7 wx => ∃ (Ad : Option Addr) (na ca : Nat), s7 = .slice Ad na ca ∧ Hid (na = (grpKids d.gp).length) ∧ Hid (Below W0.heap.size W0 wx) ∧ Hid (SideG (w1.heap.size + 1) w2.heap.size (w1.heap.size + 3) (some ⟨b, off, none⟩) n2 c2 l2 Ad na ca (grpKids d.gp) AK wx))
    case first =>
     have hcap := Mine.cap HNO.out
     have hnil : d.adr = none → d.cnt = 0 ∧ d.cap = 0 := fun e => by
      rcases HNO.out.own with ⟨_, e2, e3⟩ | ⟨g, e2, _⟩
      ·exact ⟨e2, e3⟩
      ·rw [e] at e2; cases e2
     have HSG := hid (fun (Ad : Option Addr) (na ca : Nat) (wx : World) (hB : Below W0.heap.size W0 wx) (hr : Mine wx (w1.heap.size + 3) 3 1 Ad na ca (intCells (grpKids d.gp))) (ha : ∀ g, AK.map (·.block) = some g → Ad.map (·.block) ≠ some g) => (show SideG (w1.heap.size + 1) w2.heap.size (w1.heap.size + 3) (some ⟨b, off, none⟩) n2 c2 l2 Ad na ca (grpKids d.gp) AK wx from
      ⟨HGW.out.next hB, hr, HAK.out, ha, Nat.le_trans HSZ.out hB.size, by omega, fun d hd g e => (HG2w.out d hd g e).2⟩))
     have hgl : (grpKids d.gp).length ≤ 12 := by
      have h := HK12.out
      rw [HDR.out, List.flatMap_cons, lA] at h
      omega
     by_cases hm : 0 ≤ d.mem
     ·have hgk := HMB.out hm
      rw [hgk, lA] at hgl
      have hnl : d.notes.length = d.cnt := by have := HNO.out.len; simpa [intCells] using this
      have HNL := hid hnl
      have hc12 : d.cnt ≤ 11 := by simp at hgl; omega
      have HGK := hid hgk
      have HNIL := hid hnil
      have HW03 := hid (show w1.heap.size + 3 ≤ W0.heap.size from Nat.le_trans HZ23.out HSZ.out)
      have HE0 := hid (show Mine (W0.alloc (.cells #[] 3)) W0.heap.size 3 1 (some ⟨W0.heap.size, 0, none⟩) 0 0 [] from mine_empty W0 3 1)
      have HEA := hid (HE0.out.alloc (.cells #[.int .i64 d.mem] 3))
      have HE1 := hid (show Mine ((W0.alloc (.cells #[.int .i64 d.mem] 3)).alloc (.cells #[] 3)) W0.heap.size 3 1 (some ⟨W0.heap.size + 1, 0, none⟩) 0 0 [] by
       have h := mine_empty (W0.alloc (.cells #[.int .i64 d.mem] 3)) 3 1
       rw [World.size_alloc] at h
       exact h.more (by omega))
      have HR0 := hid (HNO.out.rd.next (w' := W0.alloc (.cells #[] 3)) grow_)
      have HRA := hid (HNO.out.rd.next (w' := (W0.alloc (.cells #[] 3)).alloc (.cells #[.int .i64 d.mem] 3)) grow_)
      have HR1 := hid (HNO.out.rd.next (w' := (W0.alloc (.cells #[.int .i64 d.mem] 3)).alloc (.cells #[] 3)) grow_)
      have HB0 := hid (show Below W0.heap.size W0 (W0.alloc (.cells #[] 3)) from grow_)
      have HBA := hid (show Below W0.heap.size W0 ((W0.alloc (.cells #[] 3)).alloc (.cells #[.int .i64 d.mem] 3)) from grow_)
      have HB1' := hid (show Below W0.heap.size W0 ((W0.alloc (.cells #[.int .i64 d.mem] 3)).alloc (.cells #[] 3)) from grow_)
      have HKA := hid (show Blk ((W0.alloc (.cells #[] 3)).alloc (.cells #[.int .i64 d.mem] 3)) (W0.heap.size + 1) 3 #[.int .i64 d.mem] by
       have h := Blk.new (W0.alloc (.cells #[] 3)) 3 #[.int .i64 d.mem]
       rw [World.size_alloc] at h
       exact h)
      have HK1 := hid ((Blk.new W0 3 #[.int .i64 d.mem]).alloc (.cells #[] 3))
      obtain ⟨i0, hi0, hz0, hz1, hz2⟩ := info_parts infoInt
      have HI := hid (And.intro hi0 (And.intro hz0 (And.intro hz1 hz2)))
      clear hgk hnl hgl hnil hi0 hz0 hz1 hz2
      go_upto_region 11 with fail
      go_region_law (first
       | (
         refine step_append_rd rfl (.tmp 37) (.tmp 38) 37 rfl W0.heap.size 3 i0 (.int .i64 0) 1 8 underlying37 HI.out.1 HI.out.2.1 HI.out.2.2.1 HI.out.2.2.2 rfl (by decide) (.slice (some ⟨W0.heap.size, 0, none⟩) 0 0) 0 [] (by first | (simp [Act.eval]; done) | (simp [Act.eval, Act.put]; done) | rfl) (by first | exact HE0.out.drew | exact HE0.out) d.adr d.cnt d.cap (intCells d.notes) (by first | (simp [Act.eval]; done) | (simp [Act.eval, Act.put]; done) | rfl) (by first | exact HR0.out.drew | exact HR0.out) HNIL.out (int_cells_one _) (by unfold maxLen; omega) (by omega) (by simp only [World.size_alloc, World.size_drew]; omega) ?_
         intro v5 w5 hown5 hg5 hwh5
         rw [Nat.zero_add, List.nil_append] at hown5
         obtain ⟨A5, c5, rfl, m5⟩ := Mine.of hown5
         rw [ownBlk] at hg5
         have HB5 : Hid (Below W0.heap.size W0 w5) := hid (by first | exact below_turned HB0.out hg5 (fun g e => by injection e with e; simp only at e; omega) | exact below_turned HB0.out.drew hg5 (fun g e => by injection e with e; simp only at e; omega))
         have HM5 := hid m5
         have xm := ((bcell HB5.out).1 _ _ hblt).trans x1
         have xz := Nat.lt_of_lt_of_le hblt HB5.out.size
         clear hown5 hg5 hwh5 m5)
       | (
         refine step_append_rd rfl (.tmp 37) (.tmp 38) 37 rfl W0.heap.size 3 i0 (.int .i64 0) 1 8 underlying37 HI.out.1 HI.out.2.1 HI.out.2.2.1 HI.out.2.2.2 rfl (by decide) (.slice (some ⟨W0.heap.size, 0, none⟩) 0 0) 0 [] (by first | (simp [Act.eval]; done) | (simp [Act.eval, Act.put]; done) | rfl) (by first | exact HEA.out.drew | exact HEA.out) d.adr d.cnt d.cap (intCells d.notes) (by first | (simp [Act.eval]; done) | (simp [Act.eval, Act.put]; done) | rfl) (by first | exact HRA.out.drew | exact HRA.out) HNIL.out (int_cells_one _) (by unfold maxLen; omega) (by omega) (by simp only [World.size_alloc, World.size_drew]; omega) ?_
         intro v5 w5 hown5 hg5 hwh5
         rw [Nat.zero_add, List.nil_append] at hown5
         obtain ⟨A5, c5, rfl, m5⟩ := Mine.of hown5
         rw [ownBlk] at hg5
         have HB5 : Hid (Below W0.heap.size W0 w5) := hid (by first | exact below_turned HBA.out hg5 (fun g e => by injection e with e; simp only at e; omega) | exact below_turned HBA.out.drew hg5 (fun g e => by injection e with e; simp only at e; omega))
         have HM5 := hid m5
         have xm := ((bcell HB5.out).1 _ _ hblt).trans x1
         have xz := Nat.lt_of_lt_of_le hblt HB5.out.size
         have HK5 := hid (by first | exact HKA.out.grown hg5 (fun e => by injection e with e; simp at e) | exact HKA.out.grown (grown_undrewP hg5) (fun e => by injection e with e; simp at e) : Blk w5 _ _ _)
         clear hown5 hg5 hwh5 m5)
       | (
         refine step_append_rd rfl (.tmp 37) (.tmp 38) 37 rfl W0.heap.size 3 i0 (.int .i64 0) 1 8 underlying37 HI.out.1 HI.out.2.1 HI.out.2.2.1 HI.out.2.2.2 rfl (by decide) (.slice (some ⟨W0.heap.size + 1, 0, none⟩) 0 0) 0 [] (by first | (simp [Act.eval]; done) | (simp [Act.eval, Act.put]; done) | rfl) (by first | exact HE1.out.drew | exact HE1.out) d.adr d.cnt d.cap (intCells d.notes) (by first | (simp [Act.eval]; done) | (simp [Act.eval, Act.put]; done) | rfl) (by first | exact HR1.out.drew | exact HR1.out) HNIL.out (int_cells_one _) (by unfold maxLen; omega) (by omega) (by simp only [World.size_alloc, World.size_drew]; omega) ?_
         intro v5 w5 hown5 hg5 hwh5
         rw [Nat.zero_add, List.nil_append] at hown5
         obtain ⟨A5, c5, rfl, m5⟩ := Mine.of hown5
         rw [ownBlk] at hg5
         have HB5 : Hid (Below W0.heap.size W0 w5) := hid (by first | exact below_turned HB1'.out hg5 (fun g e => by injection e with e; simp only at e; omega) | exact below_turned HB1'.out.drew hg5 (fun g e => by injection e with e; simp only at e; omega))
         have HM5 := hid m5
         have xm := ((bcell HB5.out).1 _ _ hblt).trans x1
         have xz := Nat.lt_of_lt_of_le hblt HB5.out.size
         have HK5 := hid (by first | exact HK1.out.grown hg5 (fun e => by injection e with e; simp at e) | exact HK1.out.grown (grown_undrewP hg5) (fun e => by injection e with e; simp at e) : Blk w5 _ _ _)
         clear hown5 hg5 hwh5 m5)
       | (
         refine step_append_rd rfl (.tmp 39) (.tmp 45) 37 rfl W0.heap.size 3 i0 (.int .i64 0) 1 8 underlying37 HI.out.1 HI.out.2.1 HI.out.2.2.1 HI.out.2.2.2 rfl (by decide) (.slice A5 d.cnt c5) d.cnt (intCells d.notes) (by first | (simp [Act.eval]; done) | (simp [Act.eval, Act.put]; done) | rfl) (by exact HM5.out.alloc _) (some ⟨w5.heap.size, 0, none⟩) 1 1 [.int .i64 d.mem] (by first | (simp [Act.eval]; done) | (simp [Act.eval, Act.put]; done) | rfl) (by exact rd_blk (Blk.new w5 _ _)) (fun e => by cases e) (int_one _) (by unfold maxLen; omega) (by omega) (by have := HB5.out.size; first | omega | (simp; omega)) ?_
         intro v6 w6 hown6 hg6 hwh6
         rw [← ints_snoc] at hown6
         obtain ⟨A6, c6, rfl, m6⟩ := Mine.of hown6
         rw [ownBlk] at hg6
         have HB6 : Hid (Below W0.heap.size W0 w6) := hid (below_turned (HB5.out.alloc HB5.out.size _) hg6 (fun g e => (Mine.blk HM5.out e).1))
         have HM6 := hid m6
         clear hown6 hg6 hwh6 m6)
       | (
         refine step_append_rd rfl (.tmp 39) (.tmp 45) 37 rfl W0.heap.size 3 i0 (.int .i64 0) 1 8 underlying37 HI.out.1 HI.out.2.1 HI.out.2.2.1 HI.out.2.2.2 rfl (by decide) (.slice A5 d.cnt c5) d.cnt (intCells d.notes) (by first | (simp [Act.eval]; done) | (simp [Act.eval, Act.put]; done) | rfl) (by exact HM5.out) (some ⟨W0.heap.size + 1, 0, none⟩) 1 1 [.int .i64 d.mem] (by first | (simp [Act.eval]; done) | (simp [Act.eval, Act.put]; done) | rfl) (by exact rd_blk HK5.out) (fun e => by cases e) (int_one _) (by unfold maxLen; omega) (by omega) (by have := HB5.out.size; first | omega | (simp; omega)) ?_
         intro v6 w6 hown6 hg6 hwh6
         rw [← ints_snoc] at hown6
         obtain ⟨A6, c6, rfl, m6⟩ := Mine.of hown6
         rw [ownBlk] at hg6
         have HB6 : Hid (Below W0.heap.size W0 w6) := hid (below_turned HB5.out hg6 (fun g e => (Mine.blk HM5.out e).1))
         have HM6 := hid m6
         clear hown6 hg6 hwh6 m6)
       | (
         refine step_append_rd rfl (.tmp 39) (.tmp 45) 37 rfl W0.heap.size 3 i0 (.int .i64 0) 1 8 underlying37 HI.out.1 HI.out.2.1 HI.out.2.2.1 HI.out.2.2.2 rfl (by decide) (.slice A5 d.cnt c5) d.cnt (intCells d.notes) (by first | (simp [Act.eval]; done) | (simp [Act.eval, Act.put]; done) | rfl) (by exact HM5.out) (some ⟨W0.heap.size, 0, none⟩) 1 1 [.int .i64 d.mem] (by first | (simp [Act.eval]; done) | (simp [Act.eval, Act.put]; done) | rfl) (by exact rd_blk HK5.out) (fun e => by cases e) (int_one _) (by unfold maxLen; omega) (by omega) (by have := HB5.out.size; first | omega | (simp; omega)) ?_
         intro v6 w6 hown6 hg6 hwh6
         rw [← ints_snoc] at hown6
         obtain ⟨A6, c6, rfl, m6⟩ := Mine.of hown6
         rw [ownBlk] at hg6
         have HB6 : Hid (Below W0.heap.size W0 w6) := hid (below_turned HB5.out hg6 (fun g e => (Mine.blk HM5.out e).1))
         have HM6 := hid m6
         clear hown6 hg6 hwh6 m6))
      all_goals
       have HX := hid (HSG.out A6 (d.cnt + 1) c6 w6 HB6.out (by rw [HGK.out]; exact HM6.out.more HW03.out) (fun g e e' => by
        have h1 := (Mine.blk HM6.out e').1
        have h2 := (Mine.blk HM.out.row e).2
        omega))
       have HLX := hid (show d.cnt + 1 = (grpKids d.gp).length by rw [HGK.out, lA, HNL.out]; rfl)
       go_wp2_with fail
       go_meet
       exact ⟨A6, d.cnt + 1, c6, rfl, HLX, HB6, HX⟩
     ·have hgk := HMN.out hm
      have hm2 : d.mem < 0 := by omega
      have HX := hid (HSG.out d.adr d.cnt d.cap W0 (Below.refl _ _) (by rw [hgk]; exact HNO.out) (fun g e e' => by
       have h1 := HG2w.out d (List.mem_of_getElem? HD.out) g e'
       have h2 := HAK.out g e
       omega))
      have HLX := hid (show d.cnt = (grpKids d.gp).length by rw [hgk]; have := HNO.out.len; simpa [intCells] using this.symm)
      clear hgk hm hgl hnil hcap
      go_wp2_with fail
      go_meet
      exact ⟨d.adr, d.cnt, d.cap, rfl, HLX, hid (Below.refl _ _), HX⟩
    case rest =>
     obtain ⟨Ad, na, ca, rfl, HNA, HBX, HSD⟩ := hcut
     replace HM := hid (HM.out.next HBX.out)
     rw [HDR.out, List.flatMap_cons] at HE HV HK12
     have hna12 : na ≤ 12 := by rw [HNA.out]; have := HK12.out; rw [lA] at this; omega
     clear x0 x1 HGW HAK HSZ HNO hblt HMB HMN HBX
     go_wp2
     go_loopw [3, 8] (fun s3 s8 wk => ∃ (k : Nat) (AK' : Option Addr) (nk' cK' : Nat) (ks' : List Int) (AL' : Option Addr) (cL' : Nat) (l' : List Nd), k ≤ na ∧ s8 = .int .i64 k ∧ s3 = .slice AL' l'.length cL' ∧ Hid (KidG (RS w1 (fun _ => False)) (w1.alloc (.cells #[] 48)) (some w1.heap.size) (w1.heap.size + 2) #[.int .i64 22, .string ⟨#[]⟩, .slice none 0 0, .bool false] nk' AK' cK' ks' AL' cL' l' wk) ∧ Hid (ordS ps ((grpKids d.gp).drop k ++ (l2.drop (j + 1)).flatMap (fun d => grpKids d.gp)) (l'.map Nd.pn) ks' = Q) ∧ Hid (SideG (w1.heap.size + 1) w2.heap.size (w1.heap.size + 3) (some ⟨b, off, none⟩) n2 c2 l2 Ad na ca (grpKids d.gp) AK' wk) ∧ Hid (l'.length + costK (visV ps) ((grpKids d.gp).drop k ++ (l2.drop (j + 1)).flatMap (fun d => grpKids d.gp)) + 1 ≤ 300) ∧ Hid (nk' + ((grpKids d.gp).drop k ++ (l2.drop (j + 1)).flatMap (fun d => grpKids d.gp)).length ≤ 12)) (fun _ i _ => na - (intOf i).toNat)
     case atStart => exact ⟨0, AK, nk, cK, ks, AL, cL, l, Nat.zero_le _, rfl, rfl, HM, HE, HSD, HV, HK12⟩
     case round =>
      clear HM HE HV HK12 HSD
      obtain ⟨k, AK', nk', cK', ks', AL', cL', l', hk, rfl, rfl, HM, HE, HSD, HV, HK12⟩ := hrel
      by_cases hkl : k < na
      ·obtain ⟨v, hv⟩ : ∃ v, (grpKids d.gp)[k]? = some v := ⟨_, gE (by rw [← HNA.out]; exact hkl)⟩
       obtain ⟨b5, off5, rfl, hblt5, cv⟩ := int_at HSD.out.row.rd hkl hv
       have hdk : (grpKids d.gp).drop k = v :: (grpKids d.gp).drop (k + 1) := by
        obtain ⟨h1, h2⟩ := List.getElem?_eq_some_iff.1 hv
        rw [List.drop_eq_getElem_cons h1, h2]
       rw [hdk, List.cons_append] at HE HV HK12
       have hvb := HVB.out d (List.mem_of_getElem? HD.out) v (List.mem_of_getElem? hv)
       obtain ⟨q, rfl⟩ := Int.eq_ofNat_of_zero_le hvb.1
       have hqm : q < m + 1 := by omega
       have HCQ := hid (show l'.length + visV ps q ≤ 300 by have h := HV.out; unfold costK at h; rw [List.map_cons, List.sum_cons, Int.toNat_natCast] at h; omega)
       obtain ⟨i0, hi0, hz0, hz1, hz2⟩ := info_parts infoInt
       have HI := hid (And.intro hi0 (And.intro hz0 (And.intro hz1 hz2)))
       clear hdk hv hi0 hz0 hz1 hz2
       go_wp2_with fail
       refine (HPUT.out q hqm _ _ _ _ _ HM.out.mkc HCQ.out).mono ?_
       rintro e w3 h3
       have HSD3 := hid (show SideG (w1.heap.size + 1) w2.heap.size (w1.heap.size + 3) (some ⟨b, off, none⟩) n2 c2 l2 (some ⟨b5, off5, none⟩) na ca (grpKids d.gp) AK' w3 from by
        obtain ⟨_, _, _, _, _, hke, _⟩ := h3
        exact HSD.out.ke rfl HM.out.mkc hke)
       obtain ⟨A3, c3, l3, he, h3m, h3e⟩ := HM.out.node rfl h3
       have hlq : l3.length ≤ l'.length + visV ps q := by
        have := mkV_len HFT.out.tree.good (idW_fits HFT.out.tree.good) q (by have := HFT.out.tree.len; omega) (l'.map Nd.pn)
        rw [← h3e, List.length_map, List.length_map] at this
        exact this
       rcases nil_or_snoc l3 with rfl | ⟨l0, d0, rfl⟩
       ·exfalso
        obtain ⟨xq, hxq⟩ : ∃ xq, ps[q]? = some xq := ⟨_, gE (by have := HFT.out.tree.len; omega)⟩
        rw [mkV_eq (idW_fits HFT.out.tree.good) hxq rfl] at h3e
        have := congrArg List.length h3e
        simp at this
       have hll : (l0 ++ [d0]).length = l0.length + 1 := by simp
       rw [hll, show (((l0.length + 1 : Nat) : Int) - 1) = (l0.length : Int) by omega] at he
       subst he
       have HE3 := hid (ordS_first HE.out (show mkV idW ps q (l'.map Nd.pn) = l0.map Nd.pn ++ [d0.pn] by rw [← h3e, List.map_append]; rfl))
       have HV4 := hid (show l0.length + 1 + costK (visV ps) ((grpKids d.gp).drop (k + 1) ++ (l2.drop (j + 1)).flatMap (fun d => grpKids d.gp)) + 1 ≤ 300 by have h := HV.out; rw [hll] at hlq; unfold costK at h ⊢; rw [List.map_cons, List.sum_cons, Int.toNat_natCast] at h; omega)
       have HK4 := hid (show nk' + 1 + ((grpKids d.gp).drop (k + 1) ++ (l2.drop (j + 1)).flatMap (fun d => grpKids d.gp)).length ≤ 12 by have h := HK12.out; rw [List.length_cons] at h; omega)
       have HL0 := hid h3m.klen
       have HKL := hid (show k + 1 ≤ na from hkl)
       rcases h3m.mkc.2.1.own with ⟨_, e2, _⟩ | ⟨gn, rfl, hgB, hgc, hgm, hown3⟩
       ·rw [hll] at e2; cases e2
       have HM3 := hid h3m
       obtain ⟨kc, kf, kz⟩ := h3m.cells
       have k2 : w3.cell? ⟨w1.heap.size + 2, 2, none⟩ = some (.slice AK' nk' cK') := kc 2
       have hgl : l0.length * 4 + 3 < c3 * 4 := by rw [hll] at hgc; omega
       clear h3 h3e HM HSD HE HV HK12 hlq kc cv hgm hgc
       by_cases hn0 : nk' = 0
       ·subst hn0
        have hk0 : ks' = [] := List.eq_nil_of_length_eq_zero HL0.out
        subst hk0
        obtain ⟨o3, t3⟩ := hown3.there (i := l0.length * 4 + 3) hgl
        have tf := hown3.frozen (l0.length * 4 + 3)
        have tz := hown3.lt
        obtain ⟨csn, hbn⟩ := mine_blk' h3m.mkc.2.1 rfl
        have HBN := hid hbn
        clear hown3 h3m hbn
        go_upto_region 19 with fail
        have HM4 := hid (HM3.out.offLast rfl rfl)
        have HSD4 := hid (HSD3.out.set HBN.out (l0.length * 4 + 3) (.bool false))
        have HE4 := hid (show ordS ps ((grpKids d.gp).drop (k + 1) ++ (l2.drop (j + 1)).flatMap (fun d => grpKids d.gp)) ((l0 ++ [offD d0]).map Nd.pn) ([] ++ [(l0.length : Int)]) = Q by
          have h := HE3.out
          rw [if_pos (show ([] : List Int).length = 0 from rfl), List.length_map] at h
          rw [List.map_append]
          exact h)
        have HV5 := hid (show (l0 ++ [offD d0]).length + costK (visV ps) ((grpKids d.gp).drop (k + 1) ++ (l2.drop (j + 1)).flatMap (fun d => grpKids d.gp)) + 1 ≤ 300 by rw [lA]; exact HV4.out)
        generalize w3.setCell ⟨gn, l0.length * 4 + 3, none⟩ (.bool false) = w4 at *
        clear HM3 HSD3 HBN HE3 k2 kf kz t3 tf tz
        obtain ⟨kc, kf, kz⟩ := HM4.out.cells
        have k2 : w4.cell? ⟨w1.heap.size + 2, 2, none⟩ = some (.slice AK' 0 cK') := kc 2
        have f2 := kf 2
        have hnk12 : 0 ≤ 12 := by have := HK4.out; omega
        have hl300 : l0.length ≤ 300 := by have := HV4.out; omega
        clear kc kf
        go_wp2_with (at_builtin; refine wpList_append_row _ rfl (.tmp 72) (.tmp 74) _ rfl _ 3 i0 (.int .i64 0) 1 8 underlying37 HI.out.1 HI.out.2.1 HI.out.2.2.1 HI.out.2.2.2 rfl (by decide) (.slice AK' 0 cK') 0 (intCells ([] : List Int)) rfl (Mine.alloc HM4.out.row _) ⟨w4.heap.size, 0, none⟩ 1 1 [.int .i64 (l0.length : Int)] rfl rfl (int_new _ _ _) (int_one _) (by unfold maxLen; omega) (by omega) (Nat.le_trans HM4.out.ke.1 (by simp)) ?_; intro v' w5 hown hg hwh; obtain ⟨A5, c5, rfl, hbx5, hk5⟩ := HM4.out.app rfl (by simp) ((Below.refl _ _).alloc (Nat.le_refl _) _) hown hg hwh; have HSD5 := hid ((HSD4.out.app HM4.out.row ((Below.refl _ _).alloc (Nat.le_refl _) _) hg rfl hwh).set hbx5 2 (.slice A5 (0 + 1) c5)); have bf := hbx5.frozen 2; have bz := hbx5.lt; have bc : w5.cell? ⟨w1.heap.size + 2, 2, none⟩ = some (.slice AK' 0 cK') := hbx5.cell 2; have HM5 := hid hk5; clear hbx5 hk5 hown hg hwh)
        go_roundw
        case rel => exact ⟨k + 1, A5, 0 + 1, c5, ([] : List Int) ++ [(l0.length : Int)], _, c3, l0 ++ [offD d0], HKL.out, by go_num, by simp, HM5, HE4, HSD5, HV5, HK4⟩
        case measure => have := HKL.out; simp [intOf]; omega
       ·have hk0 : ¬ ks'.length = 0 := by rw [HL0.out]; exact hn0
        have HM4 := hid HM3.out
        have HSD4 := hid HSD3.out
        have HE4 := hid (show ordS ps ((grpKids d.gp).drop (k + 1) ++ (l2.drop (j + 1)).flatMap (fun d => grpKids d.gp)) ((l0 ++ [d0]).map Nd.pn) (ks' ++ [(l0.length : Int)]) = Q by
          have h := HE3.out
          rw [if_neg hk0, List.length_map] at h
          rw [List.map_append]
          exact h)
        have HV5 := hid (show (l0 ++ [d0]).length + costK (visV ps) ((grpKids d.gp).drop (k + 1) ++ (l2.drop (j + 1)).flatMap (fun d => grpKids d.gp)) + 1 ≤ 300 by rw [lA]; exact HV4.out)
        have hnb : ((nk' : Int) == 0) = false := by simp; omega
        clear HM3 HSD3 HE3 hown3 h3m hk0
        go_upto_region 19 with fail
        clear k2 kf kz
        obtain ⟨kc, kf, kz⟩ := HM4.out.cells
        have k2 : w3.cell? ⟨w1.heap.size + 2, 2, none⟩ = some (.slice AK' nk' cK') := kc 2
        have f2 := kf 2
        have hnk12 : nk' ≤ 12 := by have := HK4.out; omega
        have hl300 : l0.length ≤ 300 := by have := HV4.out; omega
        clear kc kf
        go_wp2_with (at_builtin; refine wpList_append_row _ rfl (.tmp 72) (.tmp 74) _ rfl _ 3 i0 (.int .i64 0) 1 8 underlying37 HI.out.1 HI.out.2.1 HI.out.2.2.1 HI.out.2.2.2 rfl (by decide) (.slice AK' nk' cK') nk' (intCells ks') rfl (Mine.alloc HM4.out.row _) ⟨w3.heap.size, 0, none⟩ 1 1 [.int .i64 (l0.length : Int)] rfl rfl (int_new _ _ _) (int_one _) (by unfold maxLen; omega) (by omega) (Nat.le_trans HM4.out.ke.1 (by simp)) ?_; intro v' w5 hown hg hwh; obtain ⟨A5, c5, rfl, hbx5, hk5⟩ := HM4.out.app rfl (by simp) ((Below.refl _ _).alloc (Nat.le_refl _) _) hown hg hwh; have HSD5 := hid ((HSD4.out.app HM4.out.row ((Below.refl _ _).alloc (Nat.le_refl _) _) hg rfl hwh).set hbx5 2 (.slice A5 (nk' + 1) c5)); have bf := hbx5.frozen 2; have bz := hbx5.lt; have bc : w5.cell? ⟨w1.heap.size + 2, 2, none⟩ = some (.slice AK' nk' cK') := hbx5.cell 2; have HM5 := hid hk5; clear hbx5 hk5 hown hg hwh)
        go_roundw
        case rel => exact ⟨k + 1, A5, nk' + 1, c5, ks' ++ [(l0.length : Int)], _, c3, l0 ++ [d0], HKL.out, by go_num, by simp, HM5, HE4, HSD5, HV5, HK4⟩
        case measure => have := HKL.out; simp [intOf]; omega
      ·have hkd : k = na := by omega
       subst hkd
       have hdr : (grpKids d.gp).drop k = [] := List.drop_of_length_le (by rw [HNA.out]; exact Nat.le_refl _)
       rw [hdr, List.nil_append] at HE HV HK12
       have hj1 : j + 1 ≤ n2 := hjl
       go_wp2
       go_roundw
       case rel => exact ⟨j + 1, AK', nk', cK', ks', AL', cL', l', hj1, by go_num, rfl, HM, HE, hid HSD.out.grps, hid HSD.out.ak, hid HSD.out.size, HV, HK12⟩
       case measure => simp [intOf]; omega
   ·have hjn : j = n2 := by omega
    subst hjn
    have hd0 : l2.drop j = [] := List.drop_of_length_le (by rw [HG2.out.len]; omega)
    have HQ2 := hid (show (l.map Nd.pn, ks) = Q by have h := HE.out; rw [hd0] at h; exact h)
    have hl300 : l.length ≤ 300 := by have := HV.out; omega
    obtain ⟨kc, kf, kz⟩ := HM.out.cells
    have k0 : wr.cell? ⟨w1.heap.size + 2, 0, none⟩ = some (.int .i64 22) := kc 0
    have k1 : wr.cell? ⟨w1.heap.size + 2, 1, none⟩ = some (.string ⟨#[]⟩) := kc 1
    have k2 : wr.cell? ⟨w1.heap.size + 2, 2, none⟩ = some (.slice AK nk cK) := kc 2
    have k3 : wr.cell? ⟨w1.heap.size + 2, 3, none⟩ = some (.bool false) := kc 3
    have HNC := hid (nd_new wr (⟨22, ⟨#[]⟩, AK, nk, cK, ks, false⟩ : Nd) 48)
    have HP := hid (fun (v' : Value) (w3 : World) h1 h2 h3 => HM.out.last rfl (by simp) (fun q hq => hq.elim) (x := (⟨22, ⟨#[]⟩, AK, nk, cK, ks, false⟩ : Nd)) rfl rfl rfl rfl (w1 := wr.alloc (.cells #[.int .i64 22, .string ⟨#[]⟩, .slice AK nk cK, .bool false] 48)) ((Below.refl _ _).alloc (Nat.le_refl _) _) (v' := v') (w3 := w3) h1 h2 h3)
    have HROW := hid (HM.out.mkc.2.1.alloc (.cells #[.int .i64 22, .string ⟨#[]⟩, .slice AK nk cK, .bool false] 48))
    obtain ⟨i0, hi0, hz0, hz1, hz2⟩ := info_parts infoNd
    have HI := hid (And.intro hi0 (And.intro hz0 (And.intro hz1 hz2)))
    clear hi0 hz0 hz1 hz2 kc
    go_wp2_with (at_builtin; (refine wpList_append_row _ rfl (.tmp 77) (.tmp 79) _ rfl w1.heap.size 48 i0 (.agg #[.int .i64 0, .string ⟨#[]⟩, .slice none 0 0, .bool false]) 4 56 underlying26 HI.out.1 HI.out.2.1 HI.out.2.2.1 HI.out.2.2.2 rfl (by decide) (.slice AL l.length cL) l.length (l.flatMap nodeCells) rfl HROW.out ⟨wr.heap.size, 0, none⟩ 1 1 (nodeCells (⟨22, ⟨#[]⟩, AK, nk, cK, ks, false⟩ : Nd)) rfl rfl HNC.out (nd_one _) (by unfold maxLen; omega) (by omega) (Nat.le_trans HM.out.mkc.old.size (by simp)) ?_); intro v' w6 hown6 hgrow hwh; obtain ⟨A6, c6, rfl, h6m, h6k⟩ := HP.out _ _ hown6 hgrow hwh; have HM6 := hid h6m; clear hown6 hgrow hwh h6m h6k)
    go_ret
    have h9 := HM6.out.made hB1.out (ps := Q.1 ++ [⟨22, ⟨#[]⟩, Q.2, false⟩]) (by rw [← HQ2.out, List.map_append]; rfl)
    have hyl : (l ++ [(⟨22, ⟨#[]⟩, AK, nk, cK, ks, false⟩ : Nd)]).length = l.length + 1 := by simp
    rw [hyl] at h9
    exact h9
theorem specTreated_any (A : Option Addr) (n c : Nat) (ps : List PN) (a b : Int) (s f o : Bool) (w : World) (hf : FineT ps) (hps : Npc w A n ps) :
  Calls prog 6 #[.slice A n c, .agg #[.int .i64 a, .int .i64 b, .bool s, .bool f, .bool o]] w (Made w (treatV lessB ps s f o)) := by
 have hl := hps.nps.len
 have hn : n ≤ 1048576 := by rw [← hl]; exact hf.2
 have hba : Below w.heap.size w (w.alloc (.cells #[.int .i64 a, .int .i64 b, .bool s, .bool f, .bool o] 29)) := grow_
 have HBA := hid hba
 have HC := hid (specCopy_any A n c ps _ hn (hps.next hba) hf.1)
 have HF := hid hf
 have HK := hid (Blk.new w 29 #[.int .i64 a, .int .i64 b, .bool s, .bool f, .bool o])
 obtain ⟨Q, hQ⟩ : ∃ Q, treatV lessB ps s f o = Q := ⟨_, rfl⟩
 rw [hQ]
 replace hQ := hid hQ
 clear hps hf hba hl
 go_enter func6, ntmps6
 go_wp2_with fail
 refine HC.out.mono ?_
 rintro e w1 h1
 have HM := hid (h1.from HBA.out)
 obtain ⟨A1, n1, c1, l1, rfl, h1n, h1e, h1b⟩ := h1
 replace HK := hid (HK.out.next h1b)
 have x2 := HK.out.q2
 have x3 := HK.out.q3
 have x4 := HK.out.q4
 have xf := HK.out.frozen
 have xz := HK.out.lt
 clear h1n h1e h1b HC HBA
 cases f <;> cases s <;> cases o
 ·go_wp2
  go_ret
  rw [← hQ.out]
  exact HM.out
 ·go_wp2_with fail
  refine (specOrdered_any _ _ _ _ _ HF.out (Made.parts HM.out).1).mono ?_
  rintro e w2 h2
  replace HM := hid (h2.from (Made.parts HM.out).2)
  obtain ⟨A2, n2, c2, l2, rfl, h2n, h2e, h2b⟩ := h2
  replace HK := hid (HK.out.next h2b)
  clear x2 x3 x4 xf xz h2n h2e h2b
  have x2 := HK.out.q2
  have x3 := HK.out.q3
  have x4 := HK.out.q4
  have xf := HK.out.frozen
  have xz := HK.out.lt
  go_wp2
  go_ret
  rw [← hQ.out]
  exact HM.out
 ·go_wp2_with fail
  refine (specSpared_any _ _ _ _ _ HF.out (Made.parts HM.out).1).mono ?_
  rintro e w2 h2
  replace HM := hid (h2.from (Made.parts HM.out).2)
  obtain ⟨A2, n2, c2, l2, rfl, h2n, h2e, h2b⟩ := h2
  replace HK := hid (HK.out.next h2b)
  clear x2 x3 x4 xf xz h2n h2e h2b
  have x2 := HK.out.q2
  have x3 := HK.out.q3
  have x4 := HK.out.q4
  have xf := HK.out.frozen
  have xz := HK.out.lt
  go_wp2
  go_ret
  rw [← hQ.out]
  exact HM.out
 ·go_wp2_with fail
  refine (specSpared_any _ _ _ _ _ HF.out (Made.parts HM.out).1).mono ?_
  rintro e w2 h2
  replace HM := hid (h2.from (Made.parts HM.out).2)
  obtain ⟨A2, n2, c2, l2, rfl, h2n, h2e, h2b⟩ := h2
  replace HK := hid (HK.out.next h2b)
  clear x2 x3 x4 xf xz h2n h2e h2b
  have x2 := HK.out.q2
  have x3 := HK.out.q3
  have x4 := HK.out.q4
  have xf := HK.out.frozen
  have xz := HK.out.lt
  go_wp2_with fail
  refine (specOrdered_any _ _ _ _ _ (sparedV_fine HF.out) (Made.parts HM.out).1).mono ?_
  rintro e w3 h3
  replace HM := hid (h3.from (Made.parts HM.out).2)
  obtain ⟨A3, n3, c3, l3, rfl, h3n, h3e, h3b⟩ := h3
  replace HK := hid (HK.out.next h3b)
  clear x2 x3 x4 xf xz h3n h3e h3b
  have x2 := HK.out.q2
  have x3 := HK.out.q3
  have x4 := HK.out.q4
  have xf := HK.out.frozen
  have xz := HK.out.lt
  go_wp2
  go_ret
  rw [← hQ.out]
  exact HM.out
 ·go_wp2_with fail
  refine (specFolded_any _ _ _ _ _ HF.out (Made.parts HM.out).1).mono ?_
  rintro e w2 h2
  replace HM := hid (h2.from (Made.parts HM.out).2)
  obtain ⟨A2, n2, c2, l2, rfl, h2n, h2e, h2b⟩ := h2
  replace HK := hid (HK.out.next h2b)
  clear x2 x3 x4 xf xz h2n h2e h2b
  have x2 := HK.out.q2
  have x3 := HK.out.q3
  have x4 := HK.out.q4
  have xf := HK.out.frozen
  have xz := HK.out.lt
  go_wp2
  go_ret
  rw [← hQ.out]
  exact HM.out
 ·go_wp2_with fail
  refine (specFolded_any _ _ _ _ _ HF.out (Made.parts HM.out).1).mono ?_
  rintro e w2 h2
  replace HM := hid (h2.from (Made.parts HM.out).2)
  obtain ⟨A2, n2, c2, l2, rfl, h2n, h2e, h2b⟩ := h2
  replace HK := hid (HK.out.next h2b)
  clear x2 x3 x4 xf xz h2n h2e h2b
  have x2 := HK.out.q2
  have x3 := HK.out.q3
  have x4 := HK.out.q4
  have xf := HK.out.frozen
  have xz := HK.out.lt
  go_wp2_with fail
  refine (specOrdered_any _ _ _ _ _ (foldedV_fine HF.out) (Made.parts HM.out).1).mono ?_
  rintro e w3 h3
  replace HM := hid (h3.from (Made.parts HM.out).2)
  obtain ⟨A3, n3, c3, l3, rfl, h3n, h3e, h3b⟩ := h3
  replace HK := hid (HK.out.next h3b)
  clear x2 x3 x4 xf xz h3n h3e h3b
  have x2 := HK.out.q2
  have x3 := HK.out.q3
  have x4 := HK.out.q4
  have xf := HK.out.frozen
  have xz := HK.out.lt
  go_wp2
  go_ret
  rw [← hQ.out]
  exact HM.out
 ·go_wp2_with fail
  refine (specFolded_any _ _ _ _ _ HF.out (Made.parts HM.out).1).mono ?_
  rintro e w2 h2
  replace HM := hid (h2.from (Made.parts HM.out).2)
  obtain ⟨A2, n2, c2, l2, rfl, h2n, h2e, h2b⟩ := h2
  replace HK := hid (HK.out.next h2b)
  clear x2 x3 x4 xf xz h2n h2e h2b
  have x2 := HK.out.q2
  have x3 := HK.out.q3
  have x4 := HK.out.q4
  have xf := HK.out.frozen
  have xz := HK.out.lt
  go_wp2_with fail
  refine (specSpared_any _ _ _ _ _ (foldedV_fine HF.out) (Made.parts HM.out).1).mono ?_
  rintro e w3 h3
  replace HM := hid (h3.from (Made.parts HM.out).2)
  obtain ⟨A3, n3, c3, l3, rfl, h3n, h3e, h3b⟩ := h3
  replace HK := hid (HK.out.next h3b)
  clear x2 x3 x4 xf xz h3n h3e h3b
  have x2 := HK.out.q2
  have x3 := HK.out.q3
  have x4 := HK.out.q4
  have xf := HK.out.frozen
  have xz := HK.out.lt
  go_wp2
  go_ret
  rw [← hQ.out]
  exact HM.out
 ·go_wp2_with fail
  refine (specFolded_any _ _ _ _ _ HF.out (Made.parts HM.out).1).mono ?_
  rintro e w2 h2
  replace HM := hid (h2.from (Made.parts HM.out).2)
  obtain ⟨A2, n2, c2, l2, rfl, h2n, h2e, h2b⟩ := h2
  replace HK := hid (HK.out.next h2b)
  clear x2 x3 x4 xf xz h2n h2e h2b
  have x2 := HK.out.q2
  have x3 := HK.out.q3
  have x4 := HK.out.q4
  have xf := HK.out.frozen
  have xz := HK.out.lt
  go_wp2_with fail
  refine (specSpared_any _ _ _ _ _ (foldedV_fine HF.out) (Made.parts HM.out).1).mono ?_
  rintro e w3 h3
  replace HM := hid (h3.from (Made.parts HM.out).2)
  obtain ⟨A3, n3, c3, l3, rfl, h3n, h3e, h3b⟩ := h3
  replace HK := hid (HK.out.next h3b)
  clear x2 x3 x4 xf xz h3n h3e h3b
  have x2 := HK.out.q2
  have x3 := HK.out.q3
  have x4 := HK.out.q4
  have xf := HK.out.frozen
  have xz := HK.out.lt
  go_wp2_with fail
  refine (specOrdered_any _ _ _ _ _ (sparedV_fine (foldedV_fine HF.out)) (Made.parts HM.out).1).mono ?_
  rintro e w4 h4
  replace HM := hid (h4.from (Made.parts HM.out).2)
  obtain ⟨A4, n4, c4, l4, rfl, h4n, h4e, h4b⟩ := h4
  replace HK := hid (HK.out.next h4b)
  clear x2 x3 x4 xf xz h4n h4e h4b
  have x2 := HK.out.q2
  have x3 := HK.out.q3
  have x4 := HK.out.q4
  have xf := HK.out.frozen
  have xz := HK.out.lt
  go_wp2
  go_ret
  rw [← hQ.out]
  exact HM.out
theorem NR.kids {w : World} {B hi : Nat} {A : Option Addr} {n c : Nat} {l : List Nd} (h : NR w B hi A n c l) : ∀ d ∈ l, d.kids.length = d.cnt := fun d hd => (h.kid d hd).len
theorem lawTreated (A : Option Addr) (n c : Nat) (l : List Nd) (a b : Int) (s f o : Bool) (w : World) (hh : n ≤ maxLen ∧ Nds w A n l ∧ ∀ d ∈ l, OkNode d) (wa : (Lit.int .i64 a).wf = true) (wb : (Lit.int .i64 b).wf = true) (m : Int) (hm : w.cell? ⟨0, 0, none⟩ = some (.int .i64 m)) (hT : Tab w) :
  Calls prog 3 #[.slice A n c, .agg #[.int .i64 a, .int .i64 b, .bool s, .bool f, .bool o]] w fun e w' => e = .returned (.bool true) ∧ Below w.heap.size w w' := by
 obtain ⟨hn, hr, hok⟩ := hh
 have hl := hr.len
 have hb0 : Below w.heap.size w (w.alloc (.cells #[.int .i64 a, .int .i64 b, .bool s, .bool f, .bool o] 24)) := grow_
 have HB0 := hid hb0
 by_cases hz : (szNodeL l : Nat) ≤ 1048576
 ·obtain ⟨hn1, hsm, _⟩ := small_nds hz
  have hn2 : n ≤ 1048576 := by omega
  have HSM : Hid (∀ d ∈ l, d.cnt ≤ 1048576) := (show ∀ d ∈ l, _ from fun d hd => (hsm d hd).2)
  have HFN := hid (fine_of hr hz)
  have HMT := hid (fun (l' : List Nd) (h1 : ∀ d ∈ l', d.kids.length = d.cnt) (h2 : l'.map Nd.pn = treatV lessB (l.map Nd.pn) s f o) => marks_treat s f o HFN.out.1 HFN.out.2 h1 h2)
  have HMA := hid (fun (l' : List Nd) (h1 : ∀ d ∈ l', d.kids.length = d.cnt) (h2 : l'.map Nd.pn = l.map Nd.pn) => (show mrkC l' ≤ 4194304 by rw [mrkC_eq h1, h2]; exact HFN.out.2))
  have HK : Hid (∀ p ∈ l.map Nd.pn, p.kids.length ≤ 4194304) := (show ∀ p ∈ l.map Nd.pn, _ from fun p hp => by have := (HFN.out.1.1 p hp).2; omega)
  have HKV : Hid (∀ p ∈ treatV lessB (l.map Nd.pn) s f o, p.kids.length ≤ 4194304) := (show ∀ p ∈ treatV lessB (l.map Nd.pn) s f o, _ from fun p hp => by have := ((treatV_fine lessB s f o HFN.out.1).1 p hp).2; omega)
  have hnv1 : (treatV lessB (l.map Nd.pn) s f o).length ≤ 4194304 := by have := (treatV_fine lessB s f o HFN.out.1).2; omega
  have HZ := hid (szNodeS_ok A n c l 1048576 _ (by omega) hl (hr.next hb0) (by omega))
  have hpos : ¬ ((1048576 : Int) - (szNodeL l : Nat) < 0) := by omega
  have HT := hid (fun W (hW : Below w.heap.size w W) => toNodeR_any A n c l W hn2 (hr.next hW) HSM)
  have HS := hid (fun W B c2 hW => specTreated_any B n c2 (l.map Nd.pn) a b s f o W HFN.out.1 hW)
  have HI := hid (fun W B c2 hW (hX : Below w.heap.size w W) => implTreated_any B n c2 (l.map Nd.pn) a b s f o W HFN.out.1 hW (hid (hT.next hX)))
  have HE := hid (fun W B C c2 c3 hB hC => eqNodeS_same B C n c2 c3 (l.map Nd.pn) W (by omega) hB hC HK)
  have HEV := hid (fun W B C m c2 c3 hm hB hC => eqNodeS_same B C m c2 c3 (treatV lessB (l.map Nd.pn) s f o) W hm hB hC HKV)
  generalize treatV lessB (l.map Nd.pn) s f o = V at HS HI HEV HMT HKV hnv1
  generalize l.map Nd.pn = ps at HT HS HI HE HMA
  generalize szNodeL l = Z at HZ hpos
  clear hr hok hsm hz hn1 hl HFN HK HKV HSM hn hT hb0
  obtain ⟨nv, hnv⟩ : ∃ nv, nv = V.length := ⟨_, rfl⟩
  have HNV := hid hnv
  rw [← hnv] at hnv1
  clear hnv
  go_enter func3, ntmps3
  go_wp2_with fail
  refine HZ.out.mono ?_
  rintro e w1 ⟨rfl, h1⟩
  have HB1 := hid (below_next HB0.out h1)
  have K1 := hid ((Blk.new w 24 #[.int .i64 a, .int .i64 b, .bool s, .bool f, .bool o]).next h1)
  clear h1 HB0 HZ
  go_upto_region 5 with fail
  have cq := K1.out.cell
  have fq := K1.out.frozen
  have zq := K1.out.lt
  go_cut [6] (fun sx wx => ∃ (Ax : Option Addr) (cx : Nat) (lx : List Nd), sx = .slice Ax nv cx ∧ Hid (NR wx w1.heap.size wx.heap.size Ax nv cx lx) ∧ Hid (lx.map Nd.pn = V) ∧ Hid (Below w1.heap.size w1 wx))
  case first =>
   go_region_with (first
    | (
     go_at_call 7; refine (HT.out _ (by first | exact HB1.out | exact HB1.out.drew | exact below_next HB1.out hs)).mono ?_; rintro e wa ⟨l2, rfl, HP2, hN2, ha⟩
     have hs1 : Below w1.heap.size w1 wa := (by first | exact ha | exact (Below.refl _ w1).drew.trans ha | exact below_next hs ha)
     have hs := hs1
     have hQ : Npc wa _ n ps := HP2.out ▸ hN2.npc
     have ca := (K1.out.next hs1).cell
     have fa := (K1.out.next hs1).frozen
     have za := (K1.out.next hs1).lt
     clear ha hN2)
    | (
     go_at_call 8; refine (toOptions_any _ _ _ _ _ _).mono ?_; rintro e wb ⟨rfl, hbo⟩
     have hs2 : Below w1.heap.size w1 wb := (by first | exact hbo | exact (Below.refl _ w1).drew.trans hbo | exact below_next hs hbo)
     try (have hQ2 := hQ.next hbo)
     have hs := hs2)
    | (
     go_at_call 6; refine (HS.out _ _ _ (by first | exact hQ2 | exact hQ)).mono ?_; rintro e wd hMd
     obtain ⟨A4, n4, c4, l4, rfl, hN4, hE4, hB4⟩ := hMd
     obtain rfl : nv = n4 := (by rw [HNV.out, ← hE4, List.length_map, hN4.len])
     have hs5 := below_next hs hB4
     have HN4 := hid (hN4.more hs.size (Nat.le_refl _))
     have HE4 := hid hE4
     have HS5 := hid hs5
     clear hN4 hE4 hB4))
   all_goals (go_wp2_with fail; go_meet; exact ⟨A4, c4, l4, rfl, HN4, HE4, HS5⟩)
  case rest =>
  clear cq fq zq
  obtain ⟨A4, c4, l4, rfl, HN4, HE4, HS4⟩ := hcut
  obtain ⟨w4, rfl⟩ : ∃ w4 : World, w4 = wc := ⟨_, rfl⟩
  have HB4 := hid (below_next HB1.out HS4.out)
  replace K1 := hid (K1.out.next HS4.out)
  have HZK := hid K1.out.lt
  have cq := K1.out.cell
  have fq := K1.out.frozen
  have zq := K1.out.lt
  clear HS4 HB1
  go_wp2_with fail
  refine (HT.out _ HB4.out).mono ?_
  rintro e w5 ⟨l5, rfl, HP5, hN5, h5⟩
  have HB5 := hid (below_next HB4.out h5)
  replace K1 := hid (K1.out.next h5)
  replace HN4 := hid (HN4.out.next h5)
  have HN5 := hid hN5
  have HM5 := hid (HMA.out _ hN5.kids HP5.out)
  have HZ5 := hid h5.size
  clear cq fq zq h5 hN5
  have cq := K1.out.cell
  have fq := K1.out.frozen
  have zq := K1.out.lt
  go_wp2_with fail
  refine (toOptions_any _ _ _ _ _ _).mono ?_
  rintro e w6 ⟨rfl, h6⟩
  have HB6 := hid (below_next HB5.out h6)
  replace K1 := hid (K1.out.next h6)
  replace HN4 := hid (HN4.out.next h6)
  replace HN5 := hid (HN5.out.next h6)
  have HZ6 := hid h6.size
  clear cq fq zq h6
  have HQ5 := hid (show Npc w6 _ n ps from HP5.out ▸ HN5.out.npc)
  go_wp2_with fail
  refine (HI.out _ _ _ HQ5.out.nps HB6.out).mono ?_
  rintro e w7 hMd
  obtain ⟨A7, n7, c7, l7, rfl, hN7, hE7, h7⟩ := hMd
  obtain rfl : nv = n7 := (by rw [HNV.out, ← hE7, List.length_map, hN7.len])
  have HB7 := hid (below_next HB6.out h7)
  have HE7 := hid hE7
  have HN7 := hid hN7
  have HM7 := hid (HMT.out _ hN7.kids hE7)
  have HZ7 := hid h7.size
  replace K1 := hid (K1.out.next h7)
  replace HN4 := hid (HN4.out.next h7)
  replace HN5 := hid (HN5.out.next h7)
  clear hN7 hE7 h7 HQ5
  have HR7 := hid (show Nps w7 A7 nv V from HE7.out ▸ HN7.out.nps)
  have HR4 := hid (show Nps w7 A4 nv V from HE4.out ▸ HN4.out.nps)
  go_wp2_with fail
  refine (HEV.out _ _ _ _ _ _ hnv1 HR7.out HR4.out).mono ?_
  rintro e w8 ⟨rfl, h8⟩
  have HB8 := hid (below_next HB7.out h8)
  replace K1 := hid (K1.out.next h8)
  replace HN4 := hid (HN4.out.next h8)
  replace HN5 := hid (HN5.out.next h8)
  replace HN7 := hid (HN7.out.next h8)
  clear h8 HR7 HR4
  go_wp2_with fail
  refine (HT.out _ HB8.out).mono ?_
  rintro e w9 ⟨l9, rfl, HP9, hN9, h9⟩
  have HB9 := hid (below_next HB8.out h9)
  replace K1 := hid (K1.out.next h9)
  replace HN4 := hid (HN4.out.next h9)
  replace HN5 := hid (HN5.out.next h9)
  replace HN7 := hid (HN7.out.next h9)
  have HR9 := hid (show Nps w9 _ n ps from HP9.out ▸ hN9.nps)
  have HR5 := hid (show Nps w9 _ n ps from HP5.out ▸ HN5.out.nps)
  clear h9 hN9
  go_wp2_with fail
  refine (HE.out _ _ _ _ _ HR5.out HR9.out).mono ?_
  rintro e w10 ⟨rfl, h10⟩
  have HBA := hid (below_next HB9.out h10)
  replace K1 := hid (K1.out.next h10)
  replace HN4 := hid (HN4.out.next h10)
  replace HN5 := hid (HN5.out.next h10)
  replace HN7 := hid (HN7.out.next h10)
  clear h10 HR9 HR5
  obtain ⟨M5, hM5⟩ : ∃ M, mrkE 1 l5 = M := ⟨_, rfl⟩
  have hM51 : 1 ≤ M5 := by rw [← hM5, mrkE_eq]; omega
  have hM5b : decide (M5 < 0) = false := decide_eq_false (by omega)
  have HMK := hid (markNodeS_any _ _ _ n n l5 1 w10 HN5.out (by omega) (by have := HM5.out; omega))
  rw [hM5] at HMK
  clear hM5
  go_wp2_with fail
  refine HMK.out.mono ?_
  rintro e w11 ⟨rfl, _, k11⟩
  have HBB := hid (k11.below HBA.out (Nat.le_trans HB4.out.size (Nat.le_refl _)) HBA.out.size)
  replace K1 := hid (K1.out.keptR k11 (.inl (by have := HB4.out.size; have := HZK.out; omega)))
  replace HN4 := hid (HN4.out.kept k11 (.inl (Nat.le_refl _)))
  replace HN7 := hid (HN7.out.kept k11 (.inr HZ6.out))
  clear k11 HMK HN5
  have HR7 := hid (show Nps w11 A7 nv V from HE7.out ▸ HN7.out.nps)
  have HR4 := hid (show Nps w11 A4 nv V from HE4.out ▸ HN4.out.nps)
  go_wp2_with fail
  refine (HEV.out _ _ _ _ _ _ hnv1 HR7.out HR4.out).mono ?_
  rintro e w12 ⟨rfl, h12⟩
  have HS9 := hid h12
  clear h12
  have HBC := hid (below_next HBB.out HS9.out)
  replace K1 := hid (K1.out.next HS9.out)
  replace HN4 := hid (HN4.out.next HS9.out)
  replace HN7 := hid (HN7.out.next HS9.out)
  clear HS9 HR7 HR4 hM51 hM5b
  obtain ⟨M7, hM7⟩ : ∃ M, mrkE 1 l7 = M := ⟨_, rfl⟩
  have hM71 : 1 ≤ M7 := by rw [← hM7, mrkE_eq]; omega
  have HMK := hid (markNodeS_any _ _ _ nv c7 l7 1 w12 HN7.out (by omega) (by have := HM7.out; omega))
  rw [hM7] at HMK
  have HHL := hid (fun (W : World) hW => heldNodeS_any A7 nv c7 l7 1 W hW (by omega) (by have := HM7.out; omega))
  rw [hM7] at HHL
  clear hM7
  go_wp2_with fail
  refine HMK.out.mono ?_
  rintro e w13 ⟨rfl, hN7, k13⟩
  have HBD := hid (k13.below HBC.out HB6.out.size HBC.out.size)
  replace K1 := hid (K1.out.keptR k13 (.inl (by have := HB6.out.size; have := HZK.out; have := HZ5.out; have := HZ6.out; omega)))
  replace HN4 := hid (HN4.out.kept k13 (.inl (Nat.le_trans HZ5.out HZ6.out)))
  replace HN7 := hid hN7
  clear k13 HMK hN7
  go_wp2_with fail
  refine (HHL.out _ HN7.out.nds).mono ?_
  rintro e w14 ⟨rfl, h14⟩
  have HBE := hid (below_next HBD.out h14)
  replace K1 := hid (K1.out.next h14)
  replace HN4 := hid (HN4.out.next h14)
  replace HN7 := hid (HN7.out.next h14)
  clear h14
  go_upto_region 24 with fail
  have cq := K1.out.cell
  have fq := K1.out.frozen
  have zq := K1.out.lt
  go_cut [12] (fun sx wx => ∃ (Ax : Option Addr) (cx : Nat) (lx : List Nd), sx = .slice Ax nv cx ∧ Hid (NR wx w14.heap.size wx.heap.size Ax nv cx lx) ∧ Hid (lx.map Nd.pn = V) ∧ Hid (Below w14.heap.size w14 wx))
  case first =>
   go_region_with (first
    | (
     go_at_call 7; refine (HT.out _ (by first | exact HBE.out | exact HBE.out.drew | exact below_next HBE.out hs)).mono ?_; rintro e wa ⟨l2, rfl, HP2, hN2, ha⟩
     have hs1 : Below w14.heap.size w14 wa := (by first | exact ha | exact (Below.refl _ w14).drew.trans ha | exact below_next hs ha)
     have hs := hs1
     have hQ : Npc wa _ n ps := HP2.out ▸ hN2.npc
     have ca := (K1.out.next hs1).cell
     have fa := (K1.out.next hs1).frozen
     have za := (K1.out.next hs1).lt
     clear ha hN2)
    | (
     go_at_call 8; refine (toOptions_any _ _ _ _ _ _).mono ?_; rintro e wb ⟨rfl, hbo⟩
     have hs2 : Below w14.heap.size w14 wb := (by first | exact hbo | exact (Below.refl _ w14).drew.trans hbo | exact below_next hs hbo)
     try (have hQ2 := hQ.next hbo)
     have hs := hs2)
    | (
     go_at_call 9; refine (HI.out _ _ _ (by first | exact hQ2.nps | exact hQ.nps) (below_next HBE.out hs)).mono ?_; rintro e wd hMd
     obtain ⟨A4, n4, c4, l4, rfl, hN4, hE4, hB4⟩ := hMd
     obtain rfl : nv = n4 := (by rw [HNV.out, ← hE4, List.length_map, hN4.len])
     have hs5 := below_next hs hB4
     have HN4 := hid (hN4.more hs.size (Nat.le_refl _))
     have HE4 := hid hE4
     have HS5 := hid hs5
     clear hN4 hE4 hB4))
   all_goals (go_wp2_with fail; go_meet; exact ⟨A4, c4, l4, rfl, HN4, HE4, HS5⟩)
  case rest =>
  clear cq fq zq
  obtain ⟨A8, c8, l8, rfl, HN8, HE8, HS8⟩ := hcut
  obtain ⟨w15, rfl⟩ : ∃ w15 : World, w15 = wc := ⟨_, rfl⟩
  have HBF := hid (below_next HBE.out HS8.out)
  replace HN4 := hid (HN4.out.next HS8.out)
  replace HN7 := hid (HN7.out.next HS8.out)
  have HR8 := hid (show Nps w15 A8 _ V from HE8.out ▸ HN8.out.nps)
  have HR4 := hid (show Nps w15 A4 _ V from HE4.out ▸ HN4.out.nps)
  clear HS8
  go_wp2_with fail
  refine (HEV.out _ _ _ _ _ _ hnv1 HR8.out HR4.out).mono ?_
  rintro e w16 ⟨rfl, h16⟩
  have HBG := hid (below_next HBF.out h16)
  replace HN7 := hid (HN7.out.next h16)
  clear h16
  go_wp2_with fail
  refine (HHL.out _ HN7.out.nds).mono ?_
  rintro e w17 ⟨rfl, h17⟩
  have HBH := hid (below_next HBG.out h17)
  clear h17
  go_wp2
  go_ret
  exact ⟨rfl, HBH.out⟩
 ·have HZ := hid (szNodeS_big A n c l 1048576 _ (by omega) (by omega) hn hl (hr.next hb0) hok (by omega))
  clear hr hok hn hb0 hT
  go_enter func3, ntmps3
  go_wp2_with fail
  refine HZ.out.mono ?_
  rintro e w1 ⟨rfl, h1⟩
  go_wp2
  go_ret
  exact ⟨rfl, below_next HB0.out h1⟩
end Go.Proofs.YtgaajcbklkchjaaGreatDoor

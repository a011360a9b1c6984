
/-
  What a node tells, in plain words; contracts: nodes told one behind the other, of both. Written by program (gen_tellc.py).
-/
import Derived.Test.YtpfanhheodiamaaGreatDoorTellB
namespace Go.Proofs.YtpfanhheodiamaaGreatDoor
open Go.RowKit
set_option linter.unusedVariables false
set_option linter.unusedSimpArgs false

/-- What a node tells: a sign, or a kid. -/
inductive Ev
  | sg (k : Int) (t : ByteArray)
  | kid (j : Int)
def stepE (f : Nat → TS → TS) (s : TS) : Ev → TS
  | .sg k t => putS s (k, t)
  | .kid j => f j.toNat s
def runE (f : Nat → TS → TS) (s : TS) (es : List Ev) : TS := es.foldl (stepE f) s
def Mono (f : Nat → TS → TS) : Prop := ∀ k s, s.1.length ≤ (f k s).1.length
section
variable {f : Nat → TS → TS} {s : TS} {es fs : List Ev}
theorem runE_nil : runE f s [] = s := rfl
theorem runE_app : runE f s (es ++ fs) = runE f (runE f s es) fs := List.foldl_append
theorem runE_cons {e : Ev} : runE f s (e :: es) = runE f (stepE f s e) es := rfl
theorem stepE_mono (h : Mono f) (e : Ev) : s.1.length ≤ (stepE f s e).1.length := by
  cases e with
  | sg k t => simp [stepE, putS]
  | kid j => exact h _ _
theorem runE_mono (h : Mono f) : ∀ (es : List Ev) (s : TS), s.1.length ≤ (runE f s es).1.length := by
  intro es
  induction es with
  | nil => intro s; exact Nat.le_refl _
  | cons e es ih => intro s; rw [runE_cons]; exact Nat.le_trans (stepE_mono h e) (ih _)
theorem runE_head (h : Mono f) {N : Nat} (hb : (runE f s (es ++ fs)).1.length ≤ N) : (runE f s es).1.length ≤ N := by
  rw [runE_app] at hb
  exact Nat.le_trans (runE_mono h fs _) hb
end
def mkE (t : ByteArray) : Ev := .sg 4 t
def sepE (mk : ByteArray) : List Int → List Ev
  | [] => []
  | k :: r => .kid k :: r.flatMap (fun v => [mkE mk, .kid v])
def allE (ks : List Int) : List Ev := ks.map .kid
theorem sepE_app (mk : ByteArray) {a : List Int} (ha : a ≠ []) (b : List Int) : sepE mk (a ++ b) = sepE mk a ++ b.flatMap (fun v => [mkE mk, .kid v]) := by
  cases a with
  | nil => exact absurd rfl ha
  | cons x a => simp [sepE]
theorem sepE_step {mk : ByteArray} {ks : List Int} {i : Nat} {v : Int} (hv : ks[i]? = some v) : sepE mk (ks.take (i + 1)) = sepE mk (ks.take i) ++ (if 0 < i then [mkE mk, .kid v] else [.kid v]) := by
  rw [List.take_add_one, hv]
  have hl := (List.getElem?_eq_some_iff.1 hv).1
  by_cases hi : 0 < i
  · rw [sepE_app mk (by intro e; have := congrArg List.length e; rw [List.length_take, List.length_nil] at this; omega), if_pos hi]; simp
  · obtain rfl : i = 0 := by omega
    simp [sepE]
theorem sepE_pre (mk : ByteArray) (ks : List Int) (i : Nat) : ∃ fs, sepE mk ks = sepE mk (ks.take i) ++ fs := by
  by_cases h : ks.take i = []
  · exact ⟨sepE mk ks, by rw [h]; rfl⟩
  · refine ⟨(ks.drop i).flatMap (fun v => [mkE mk, .kid v]), ?_⟩
    conv => lhs; rw [← List.take_append_drop i ks]
    exact sepE_app mk h _
theorem allE_step {ks : List Int} {i : Nat} {v : Int} (hv : ks[i]? = some v) : allE (ks.take (i + 1)) = allE (ks.take i) ++ [.kid v] := by
  rw [List.take_add_one, hv]; simp [allE]
theorem allE_pre (ks : List Int) (i : Nat) : ∃ fs, allE ks = allE (ks.take i) ++ fs := ⟨allE (ks.drop i), by unfold allE; rw [← List.map_append, List.take_append_drop]⟩
def t1 (n : Nat) : ByteArray := ⟨#[n.toUInt8]⟩
/-- What a node tells. -/
def evs (p : PN) : List Ev :=
  let k := p.kids
  let kd := fun (i : Nat) => Ev.kid (k.getD i 0)
  if p.kind = 1 then [.sg 1 p.text]
  else if p.kind = 2 then [.sg 2 p.text]
  else if p.kind = 3 then [.sg 3 p.text]
  else if p.kind = 4 then mkE ⟨#[91]⟩ :: (sepE ⟨#[44]⟩ k ++ [mkE ⟨#[93]⟩])
  else if p.kind = 5 then kd 0 :: mkE ⟨#[40]⟩ :: (sepE ⟨#[44]⟩ (k.drop 1) ++ [mkE ⟨#[41]⟩])
  else if p.kind = 6 then [kd 0, mkE ⟨#[46]⟩, .sg 1 p.text]
  else if p.kind = 7 then sepE p.text k
  else if p.kind = 8 then [kd 0, mkE ⟨#[63]⟩, kd 1, mkE ⟨#[58]⟩, kd 2]
  else if p.kind = 9 then mkE ⟨#[40]⟩ :: (sepE ⟨#[44]⟩ (k.take (k.length - 1)) ++ [mkE ⟨#[41]⟩, mkE ⟨#[61, 62]⟩, kd (k.length - 1)])
  else if p.kind = 10 then sepE ⟨#[46, 46]⟩ k
  else if p.kind = 11 then [mkE ⟨#[40]⟩, kd 0, mkE ⟨#[41]⟩]
  else if p.kind = 12 then .sg 1 ⟨#[118, 97, 114]⟩ :: .sg 1 p.text :: ((if 0 < k.length then [mkE ⟨#[61]⟩] else []) ++ (allE k ++ [mkE ⟨#[59]⟩]))
  else if p.kind = 13 then .sg 1 p.text :: ((if 0 < k.length then [mkE ⟨#[61]⟩] else []) ++ (allE k ++ [mkE ⟨#[59]⟩]))
  else if p.kind = 14 then allE k ++ [mkE ⟨#[59]⟩]
  else if p.kind = 15 then .sg 1 ⟨#[114, 101, 116, 117, 114, 110]⟩ :: (allE k ++ [mkE ⟨#[59]⟩])
  else if p.kind = 16 then .sg 1 ⟨#[105, 102]⟩ :: mkE ⟨#[40]⟩ :: kd 0 :: mkE ⟨#[41]⟩ :: kd 1 :: (if k.length = 3 then [.sg 1 ⟨#[101, 108, 115, 101]⟩, kd 2] else [])
  else if p.kind = 17 then [.sg 1 ⟨#[119, 104, 105, 108, 101]⟩, mkE ⟨#[40]⟩, kd 0, mkE ⟨#[41]⟩, kd 1]
  else if p.kind = 18 then mkE ⟨#[123]⟩ :: (allE k ++ [mkE ⟨#[125]⟩])
  else if p.kind = 19 then [.sg 5 p.text]
  else if p.kind = 20 then .sg 1 p.text :: mkE ⟨#[40]⟩ :: (sepE ⟨#[44]⟩ (k.take (k.length - 1)) ++ [mkE ⟨#[41]⟩, kd (k.length - 1)])
  else if p.kind = 21 then .sg 1 ⟨#[99, 108, 97, 115, 115]⟩ :: .sg 1 p.text :: mkE ⟨#[123]⟩ :: (allE k ++ [mkE ⟨#[125]⟩])
  else if p.kind = 22 then allE k
  else []
/-- All that node k tells, its kids with it. -/
def tellF (ps : List PN) : Nat → Nat → TS → TS
  | 0, _, s => s
  | f + 1, k, s => match ps[k]? with | none => s | some p => runE (tellF ps f) (s.1, s.2.set k (s.1.length : Int)) (evs p)
theorem tellF_mono (ps : List PN) : ∀ f, Mono (tellF ps f) := by
  intro f
  induction f with
  | zero => intro k s; exact Nat.le_refl _
  | succ f ih =>
    intro k s
    unfold tellF
    cases ps[k]? with
    | none => exact Nat.le_refl _
    | some p => exact runE_mono ih (evs p) (s.1, s.2.set k (s.1.length : Int))
theorem tellF_step {ps : List PN} {f k : Nat} {p : PN} (h : ps[k]? = some p) (s : TS) : tellF ps (f + 1) k s = runE (tellF ps f) (s.1, s.2.set k (s.1.length : Int)) (evs p) := by
  conv => lhs; unfold tellF
  rw [h]
/-- A node's function tells it, for all nodes below f. -/
def NodeC (F : FuncId) (ty : TypeId) (T Sb : Nat) (A : Option Addr) (n c : Nat) (w0 : World) (ps : List PN) (f : Nat) : Prop :=
  ∀ (j : Nat) (s : TS) (w : World), j < f → j < n → TL ty T Sb A n c w0 s w → (tellF ps f j s).1.length ≤ 1000000 → Calls Tryz.prog F #[.pointer (some ⟨T, 0, none⟩), .int .i64 j] w (Puts ty T Sb A n c w0 w (tellF ps f j s))
theorem puts_frame {ty : TypeId} {T Sb : Nat} {A : Option Addr} {n c : Nat} {w0 w w1 : World} {s' : TS} {e : Ending} {w' : World} (hk : Kp T Sb w w1) (h : Puts ty T Sb A n c w0 w1 s' e w') : Puts ty T Sb A n c w0 w s' e w' := ⟨h.1, h.2.1, hk.trans h.2.2⟩
theorem implMark_one (T Sb : Nat) (A : Option Addr) (n c : Nat) (w0 w : World) (s : TS) (t : ByteArray) (g : Nat) (h : TL 52 T Sb A n c w0 s w) (hs : s.1.length + 1 ≤ 1000000) (hg : Blk w g 9 #[.string t]) (hgT : g ≠ T) (hgS : g ≠ Sb) :
    Calls Tryz.prog 112 #[.pointer (some ⟨T, 0, none⟩), .slice (some ⟨g, 0, none⟩) 1 1] w (Puts 52 T Sb A n c w0 w (putS s (4, t))) :=
  implMark_many T Sb A n c w0 w s [t] g h hs hg hgT hgS
theorem implMark_two (T Sb : Nat) (A : Option Addr) (n c : Nat) (w0 w : World) (s : TS) (t u : ByteArray) (g : Nat) (h : TL 52 T Sb A n c w0 s w) (hs : s.1.length + 2 ≤ 1000000) (hg : Blk w g 9 #[.string t, .string u]) (hgT : g ≠ T) (hgS : g ≠ Sb) :
    Calls Tryz.prog 112 #[.pointer (some ⟨T, 0, none⟩), .slice (some ⟨g, 0, none⟩) 2 2] w (Puts 52 T Sb A n c w0 w (putS (putS s (4, t)) (4, u))) := by
  have := implMark_many T Sb A n c w0 w s [t, u] g h hs hg hgT hgS
  rwa [show marksS s [t, u] = putS (putS s (4, t)) (4, u) by simp [marksS, putS]] at this
set_option maxRecDepth 100000 in
set_option maxHeartbeats 1600000 in
theorem implList_any (T Sb : Nat) (A : Option Addr) (n c : Nat) (w0 w : World) (ps : List PN) (f : Nat) (A' : Option Addr) (m c' : Nat) (l : List Int) (mk : ByteArray) (s : TS) (hN : NodeC 54 52 T Sb A n c w0 ps f) (hl : Hid (l.length = m)) (hm : m ≤ 4096) (hr : Rd w0 1 A' m (intCells l)) (hv : Hid (∀ v ∈ l, 0 ≤ v ∧ v < (f : Int) ∧ v < (n : Int))) (h : TL 52 T Sb A n c w0 s w) (hs : (runE (tellF ps f) s (sepE mk l)).1.length ≤ 1000000) :
    Calls Tryz.prog 113 #[.pointer (some ⟨T, 0, none⟩), .slice A' m c', .string mk] w (Puts 52 T Sb A n c w0 w (runE (tellF ps f) s (sepE mk l))) := by
  unfold Puts
  have HTL := Lib.hid h
  have HN := Lib.hid hN
  have HR := Lib.hid hr
  have HS := Lib.hid (fun i => (show (runE (tellF ps f) s (sepE mk (l.take i))).1.length ≤ 1000000 by
    obtain ⟨fs, hfs⟩ := sepE_pre mk l i
    rw [hfs] at hs
    exact runE_head (tellF_mono ps f) hs))
  clear h hN hr hs
  go_enter Tryz.func113, Tryz.ntmps113
  go_wp2
  go_loopw [10] (fun j wr => ∃ i : Nat, i ≤ m ∧ j = .int .i64 i ∧ TL 52 T Sb A n c w0 (runE (tellF ps f) s (sepE mk (l.take i))) wr ∧ Kp T Sb w wr) (fun j _ => m - (intOf j).toNat)
  case atStart => exact ⟨0, Nat.zero_le _, rfl, by simpa [runE, sepE, allE] using HTL.out, Kp.refl _ _ _⟩
  case round =>
    obtain ⟨i, hi, rfl, htl, hkp⟩ := hrel
    by_cases hlt : i < m
    · obtain ⟨v, hd⟩ : ∃ d, l[i]? = some d := ⟨_, List.getElem?_eq_getElem (by have := hl.out; omega)⟩
      have hvv := hv.out v (List.mem_of_getElem? hd)
      obtain ⟨q, rfl⟩ := Int.eq_ofNat_of_zero_le hvv.1
      have hqf : q < f := by omega
      have hqn : q < n := by omega
      have gi : (i : Int) < m := by omega
      obtain ⟨b5, off5, rfl, hblt5, cv⟩ := int_at (HR.out.below htl.below) hlt hd
      have hnext := HS.out (i + 1)
      have HD := Lib.hid hd
      have HT1 := Lib.hid htl
      have HKP := Lib.hid hkp
      have zT := htl.blkT
      have zS := htl.blkS
      clear hvv hd htl hkp
      have hst := Lib.hid (sepE_step (mk := mk) HD.out)
      by_cases hi0 : 0 < i
      · have hi0' : (0 : Int) < i := by omega
        have hrun := Lib.hid (show runE (tellF ps f) s (sepE mk (l.take (i + 1))) = tellF ps f q (putS (runE (tellF ps f) s (sepE mk (l.take i))) (4, mk)) by
          rw [hst.out, if_pos hi0, runE_app]; rfl)
        rw [hrun.out] at hnext
        have hlen1 : (runE (tellF ps f) s (sepE mk (l.take i))).1.length + 1 ≤ 1000000 := by
          have := Nat.le_trans (tellF_mono ps f q (putS (runE (tellF ps f) s (sepE mk (l.take i))) (4, mk))) hnext
          simpa [putS] using this
        generalize runE (tellF ps f) s (sepE mk (l.take i)) = SI at HT1 hrun hnext hlen1
        clear hst
        have HM := Lib.hid (fun (W : World) (g : Nat) (ht : TL 52 T Sb A n c w0 SI W) (hg : Blk W g 9 #[.string mk]) h1 h2 => implMark_one T Sb A n c w0 W SI mk g ht hlen1 hg h1 h2)
        go_wp2_with fail
        refine (HM.out _ _ (HT1.out.alloc _) (Blk.new _ _ _) (by omega) (by omega)).mono ?_
        rintro e w2 ⟨rfl, ht2, hk2⟩
        have hk3 := HKP.out.trans hk2.of_alloc
        go_wp2_with fail
        refine (HN.out q _ _ hqf hqn ht2 hnext).mono ?_
        rintro e w3 ⟨rfl, ht3, hk4⟩
        go_wp2
        go_roundw
        case rel => exact ⟨i + 1, by omega, by go_num, (by rw [hrun.out]; exact ht3), hk3.trans hk4⟩
        case measure => simp [intOf]; omega
      · have hi0' : ¬ (0 : Int) < i := by omega
        have hrun := Lib.hid (show runE (tellF ps f) s (sepE mk (l.take (i + 1))) = tellF ps f q (runE (tellF ps f) s (sepE mk (l.take i))) by
          rw [hst.out, if_neg hi0, runE_app]; rfl)
        rw [hrun.out] at hnext
        generalize runE (tellF ps f) s (sepE mk (l.take i)) = SI at HT1 hrun hnext
        clear hst
        go_wp2_with fail
        refine (HN.out q _ _ hqf hqn HT1.out hnext).mono ?_
        rintro e w3 ⟨rfl, ht3, hk4⟩
        go_wp2
        go_roundw
        case rel => exact ⟨i + 1, by omega, by go_num, (by rw [hrun.out]; exact ht3), HKP.out.trans hk4⟩
        case measure => simp [intOf]; omega
    · obtain rfl : i = m := by omega
      rw [show l.take i = l by rw [List.take_of_length_le (by have := hl.out; omega)]] at htl
      have HT1 := Lib.hid htl
      have HKP := Lib.hid hkp
      clear htl hkp
      go_wp2
      go_end0
      exact ⟨rfl, HT1.out, HKP.out⟩
set_option maxRecDepth 100000 in
set_option maxHeartbeats 1600000 in
theorem implEach_any (T Sb : Nat) (A : Option Addr) (n c : Nat) (w0 w : World) (ps : List PN) (f : Nat) (A' : Option Addr) (m c' : Nat) (l : List Int) (s : TS) (hN : NodeC 54 52 T Sb A n c w0 ps f) (hl : Hid (l.length = m)) (hm : m ≤ 4096) (hr : Rd w0 1 A' m (intCells l)) (hv : Hid (∀ v ∈ l, 0 ≤ v ∧ v < (f : Int) ∧ v < (n : Int))) (h : TL 52 T Sb A n c w0 s w) (hs : (runE (tellF ps f) s (allE l)).1.length ≤ 1000000) :
    Calls Tryz.prog 114 #[.pointer (some ⟨T, 0, none⟩), .slice A' m c'] w (Puts 52 T Sb A n c w0 w (runE (tellF ps f) s (allE l))) := by
  unfold Puts
  have HTL := Lib.hid h
  have HN := Lib.hid hN
  have HR := Lib.hid hr
  have HS := Lib.hid (fun i => (show (runE (tellF ps f) s (allE (l.take i))).1.length ≤ 1000000 by
    obtain ⟨fs, hfs⟩ := allE_pre l i
    rw [hfs] at hs
    exact runE_head (tellF_mono ps f) hs))
  clear h hN hr hs
  go_enter Tryz.func114, Tryz.ntmps114
  go_wp2
  go_loopw [8] (fun j wr => ∃ i : Nat, i ≤ m ∧ j = .int .i64 i ∧ TL 52 T Sb A n c w0 (runE (tellF ps f) s (allE (l.take i))) wr ∧ Kp T Sb w wr) (fun j _ => m - (intOf j).toNat)
  case atStart => exact ⟨0, Nat.zero_le _, rfl, by simpa [runE, sepE, allE] using HTL.out, Kp.refl _ _ _⟩
  case round =>
    obtain ⟨i, hi, rfl, htl, hkp⟩ := hrel
    by_cases hlt : i < m
    · obtain ⟨v, hd⟩ : ∃ d, l[i]? = some d := ⟨_, List.getElem?_eq_getElem (by have := hl.out; omega)⟩
      have hvv := hv.out v (List.mem_of_getElem? hd)
      obtain ⟨q, rfl⟩ := Int.eq_ofNat_of_zero_le hvv.1
      have hqf : q < f := by omega
      have hqn : q < n := by omega
      have gi : (i : Int) < m := by omega
      obtain ⟨b5, off5, rfl, hblt5, cv⟩ := int_at (HR.out.below htl.below) hlt hd
      have hnext := HS.out (i + 1)
      have HD := Lib.hid hd
      have HT1 := Lib.hid htl
      have HKP := Lib.hid hkp
      have zT := htl.blkT
      have zS := htl.blkS
      clear hvv hd htl hkp
      have hrun := Lib.hid (show runE (tellF ps f) s (allE (l.take (i + 1))) = tellF ps f q (runE (tellF ps f) s (allE (l.take i))) by
        rw [allE_step HD.out, runE_app]; rfl)
      rw [hrun.out] at hnext
      generalize runE (tellF ps f) s (allE (l.take i)) = SI at HT1 hrun hnext
      go_wp2_with fail
      refine (HN.out q _ _ hqf hqn HT1.out hnext).mono ?_
      rintro e w3 ⟨rfl, ht3, hk4⟩
      go_wp2
      go_roundw
      case rel => exact ⟨i + 1, by omega, by go_num, (by rw [hrun.out]; exact ht3), HKP.out.trans hk4⟩
      case measure => simp [intOf]; omega
    · obtain rfl : i = m := by omega
      rw [show l.take i = l by rw [List.take_of_length_le (by have := hl.out; omega)]] at htl
      have HT1 := Lib.hid htl
      have HKP := Lib.hid hkp
      clear htl hkp
      go_wp2
      go_end0
      exact ⟨rfl, HT1.out, HKP.out⟩
set_option maxRecDepth 100000 in
set_option maxHeartbeats 1600000 in
theorem specSome_any (T Sb : Nat) (A : Option Addr) (n c : Nat) (w0 w : World) (ps : List PN) (f : Nat) (A' : Option Addr) (m c' : Nat) (l : List Int) (s : TS) (hN : NodeC 21 46 T Sb A n c w0 ps f) (hl : Hid (l.length = m)) (hm : m ≤ 4096) (hr : Rd w0 1 A' m (intCells l)) (hv : Hid (∀ v ∈ l, 0 ≤ v ∧ v < (f : Int) ∧ v < (n : Int))) (h : TL 46 T Sb A n c w0 s w) (hs : (runE (tellF ps f) s (sepE ⟨#[44]⟩ l)).1.length ≤ 1000000) :
    Calls Tryz.prog 50 #[.pointer (some ⟨T, 0, none⟩), .slice A' m c'] w (Puts 46 T Sb A n c w0 w (runE (tellF ps f) s (sepE ⟨#[44]⟩ l))) := by
  unfold Puts
  have HTL := Lib.hid h
  have HN := Lib.hid hN
  have HR := Lib.hid hr
  have HS := Lib.hid (fun i => (show (runE (tellF ps f) s (sepE ⟨#[44]⟩ (l.take i))).1.length ≤ 1000000 by
    obtain ⟨fs, hfs⟩ := sepE_pre ⟨#[44]⟩ l i
    rw [hfs] at hs
    exact runE_head (tellF_mono ps f) hs))
  clear h hN hr hs
  go_enter Tryz.func50, Tryz.ntmps50
  go_wp2
  go_loopw [4] (fun j wr => ∃ i : Nat, i ≤ m ∧ j = .int .i64 i ∧ TL 46 T Sb A n c w0 (runE (tellF ps f) s (sepE ⟨#[44]⟩ (l.take i))) wr ∧ Kp T Sb w wr) (fun j _ => m - (intOf j).toNat)
  case atStart => exact ⟨0, Nat.zero_le _, rfl, by simpa [runE, sepE, allE] using HTL.out, Kp.refl _ _ _⟩
  case round =>
    obtain ⟨i, hi, rfl, htl, hkp⟩ := hrel
    by_cases hlt : i < m
    · obtain ⟨v, hd⟩ : ∃ d, l[i]? = some d := ⟨_, List.getElem?_eq_getElem (by have := hl.out; omega)⟩
      have hvv := hv.out v (List.mem_of_getElem? hd)
      obtain ⟨q, rfl⟩ := Int.eq_ofNat_of_zero_le hvv.1
      have hqf : q < f := by omega
      have hqn : q < n := by omega
      have gi : (i : Int) < m := by omega
      obtain ⟨b5, off5, rfl, hblt5, cv⟩ := int_at (HR.out.below htl.below) hlt hd
      have hnext := HS.out (i + 1)
      have HD := Lib.hid hd
      have HT1 := Lib.hid htl
      have HKP := Lib.hid hkp
      have zT := htl.blkT
      have zS := htl.blkS
      clear hvv hd htl hkp
      have hst := Lib.hid (sepE_step (mk := ⟨#[44]⟩) HD.out)
      by_cases hi0 : 0 < i
      · have hi0' : (0 : Int) < i := by omega
        have hrun := Lib.hid (show runE (tellF ps f) s (sepE ⟨#[44]⟩ (l.take (i + 1))) = tellF ps f q (putS (runE (tellF ps f) s (sepE ⟨#[44]⟩ (l.take i))) (4, ⟨#[44]⟩)) by
          rw [hst.out, if_pos hi0, runE_app]; rfl)
        rw [hrun.out] at hnext
        have hlen1 : (runE (tellF ps f) s (sepE ⟨#[44]⟩ (l.take i))).1.length + 1 ≤ 1000000 := by
          have := Nat.le_trans (tellF_mono ps f q (putS (runE (tellF ps f) s (sepE ⟨#[44]⟩ (l.take i))) (4, ⟨#[44]⟩))) hnext
          simpa [putS] using this
        generalize runE (tellF ps f) s (sepE ⟨#[44]⟩ (l.take i)) = SI at HT1 hrun hnext hlen1
        clear hst
        have HM := Lib.hid (specMark_any T Sb A n c w0 wr SI ⟨#[44]⟩ HT1.out (by omega))
        go_wp2_with fail
        refine (HM.out).mono ?_
        rintro e w2 ⟨rfl, ht2, hk2⟩
        have hk3 := HKP.out.trans hk2
        obtain ⟨b6, off6, e6, hblt6, cv2⟩ := int_at (HR.out.below ht2.below) hlt HD.out
        injection e6 with e6
        injection e6 with e61 e62
        subst e61; subst e62
        go_wp2_with fail
        refine (HN.out q _ _ hqf hqn ht2 hnext).mono ?_
        rintro e w3 ⟨rfl, ht3, hk4⟩
        go_wp2
        go_roundw
        case rel => exact ⟨i + 1, by omega, by go_num, (by rw [hrun.out]; exact ht3), hk3.trans hk4⟩
        case measure => simp [intOf]; omega
      · have hi0' : ¬ (0 : Int) < i := by omega
        have hrun := Lib.hid (show runE (tellF ps f) s (sepE ⟨#[44]⟩ (l.take (i + 1))) = tellF ps f q (runE (tellF ps f) s (sepE ⟨#[44]⟩ (l.take i))) by
          rw [hst.out, if_neg hi0, runE_app]; rfl)
        rw [hrun.out] at hnext
        generalize runE (tellF ps f) s (sepE ⟨#[44]⟩ (l.take i)) = SI at HT1 hrun hnext
        clear hst
        go_wp2_with fail
        refine (HN.out q _ _ hqf hqn HT1.out hnext).mono ?_
        rintro e w3 ⟨rfl, ht3, hk4⟩
        go_wp2
        go_roundw
        case rel => exact ⟨i + 1, by omega, by go_num, (by rw [hrun.out]; exact ht3), HKP.out.trans hk4⟩
        case measure => simp [intOf]; omega
    · obtain rfl : i = m := by omega
      rw [show l.take i = l by rw [List.take_of_length_le (by have := hl.out; omega)]] at htl
      have HT1 := Lib.hid htl
      have HKP := Lib.hid hkp
      clear htl hkp
      go_wp2
      go_end0
      exact ⟨rfl, HT1.out, HKP.out⟩
set_option maxRecDepth 100000 in
set_option maxHeartbeats 1600000 in
theorem specAll_any (T Sb : Nat) (A : Option Addr) (n c : Nat) (w0 w : World) (ps : List PN) (f : Nat) (A' : Option Addr) (m c' : Nat) (l : List Int) (s : TS) (hN : NodeC 21 46 T Sb A n c w0 ps f) (hl : Hid (l.length = m)) (hm : m ≤ 4096) (hr : Rd w0 1 A' m (intCells l)) (hv : Hid (∀ v ∈ l, 0 ≤ v ∧ v < (f : Int) ∧ v < (n : Int))) (h : TL 46 T Sb A n c w0 s w) (hs : (runE (tellF ps f) s (allE l)).1.length ≤ 1000000) :
    Calls Tryz.prog 47 #[.pointer (some ⟨T, 0, none⟩), .slice A' m c'] w (Puts 46 T Sb A n c w0 w (runE (tellF ps f) s (allE l))) := by
  unfold Puts
  have HTL := Lib.hid h
  have HN := Lib.hid hN
  have HR := Lib.hid hr
  have HS := Lib.hid (fun i => (show (runE (tellF ps f) s (allE (l.take i))).1.length ≤ 1000000 by
    obtain ⟨fs, hfs⟩ := allE_pre l i
    rw [hfs] at hs
    exact runE_head (tellF_mono ps f) hs))
  clear h hN hr hs
  go_enter Tryz.func47, Tryz.ntmps47
  go_wp2
  go_loopw [4] (fun j wr => ∃ i : Nat, i ≤ m ∧ j = .int .i64 i ∧ TL 46 T Sb A n c w0 (runE (tellF ps f) s (allE (l.take i))) wr ∧ Kp T Sb w wr) (fun j _ => m - (intOf j).toNat)
  case atStart => exact ⟨0, Nat.zero_le _, rfl, by simpa [runE, sepE, allE] using HTL.out, Kp.refl _ _ _⟩
  case round =>
    obtain ⟨i, hi, rfl, htl, hkp⟩ := hrel
    by_cases hlt : i < m
    · obtain ⟨v, hd⟩ : ∃ d, l[i]? = some d := ⟨_, List.getElem?_eq_getElem (by have := hl.out; omega)⟩
      have hvv := hv.out v (List.mem_of_getElem? hd)
      obtain ⟨q, rfl⟩ := Int.eq_ofNat_of_zero_le hvv.1
      have hqf : q < f := by omega
      have hqn : q < n := by omega
      have gi : (i : Int) < m := by omega
      obtain ⟨b5, off5, rfl, hblt5, cv⟩ := int_at (HR.out.below htl.below) hlt hd
      have hnext := HS.out (i + 1)
      have HD := Lib.hid hd
      have HT1 := Lib.hid htl
      have HKP := Lib.hid hkp
      have zT := htl.blkT
      have zS := htl.blkS
      clear hvv hd htl hkp
      have hrun := Lib.hid (show runE (tellF ps f) s (allE (l.take (i + 1))) = tellF ps f q (runE (tellF ps f) s (allE (l.take i))) by
        rw [allE_step HD.out, runE_app]; rfl)
      rw [hrun.out] at hnext
      generalize runE (tellF ps f) s (allE (l.take i)) = SI at HT1 hrun hnext
      go_wp2_with fail
      refine (HN.out q _ _ hqf hqn HT1.out hnext).mono ?_
      rintro e w3 ⟨rfl, ht3, hk4⟩
      go_wp2
      go_roundw
      case rel => exact ⟨i + 1, by omega, by go_num, (by rw [hrun.out]; exact ht3), HKP.out.trans hk4⟩
      case measure => simp [intOf]; omega
    · obtain rfl : i = m := by omega
      rw [show l.take i = l by rw [List.take_of_length_le (by have := hl.out; omega)]] at htl
      have HT1 := Lib.hid htl
      have HKP := Lib.hid hkp
      clear htl hkp
      go_wp2
      go_end0
      exact ⟨rfl, HT1.out, HKP.out⟩
end Go.Proofs.YtpfanhheodiamaaGreatDoor

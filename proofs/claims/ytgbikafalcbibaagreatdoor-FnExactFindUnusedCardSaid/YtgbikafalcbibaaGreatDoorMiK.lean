/-
  Put together by program (shake.py): ParA, Row, ParP, ParB, ParC, Step, ParD.
-/
import Derived.Test.YtgbikafalcbibaaGreatDoorMiB
import Derived.Test.YtgbikafalcbibaaGreatDoorMiD
import Derived.Laws.AppendOwn
import Derived.Deep.RegionLaw
import Derived.Deep.AppendLies
import Derived.BigCall
set_option maxRecDepth 100000
set_option maxHeartbeats 25600000
set_option linter.unusedVariables false
set_option linter.unusedSimpArgs false
open Go.Lib (hid)
open Go.Proofs.Tryz
namespace Go.Proofs.YtgbikafalcbibaaGreatDoor
open Go.RowKit
structure PS where
 at_ : Nat
 nodes : List PN
abbrev RdSt := Option PS
abbrev PR := Int × RdSt
abbrev sgZero : SgP := (0, ⟨#[]⟩, 0, false)
def bt (l : List UInt8) : ByteArray := ⟨l.toArray⟩
abbrev noT : ByteArray := ⟨#[]⟩
section
variable (sg : List SgP)
def sgAt (st : RdSt) (i : Nat) : SgP := match st with | none => sgZero | some s => (sg[s.at_ + i]?).getD sgZero
def isM (st : RdSt) (m : ByteArray) : Bool := ((sgAt sg st 0).1 == 4) && ((sgAt sg st 0).2.1.toList == m.toList)
def isW (st : RdSt) (m : ByteArray) : Bool := ((sgAt sg st 0).1 == 1) && ((sgAt sg st 0).2.1.toList == m.toList)
def nameS (st : RdSt) (i : Nat) : Bool := ((sgAt sg st i).1 == 1) && !keyB (sgAt sg st i).2.1
def skipS (st : RdSt) : RdSt := st.map (fun s => ⟨s.at_ + 1, s.nodes⟩)
def takeS (st : RdSt) (m : ByteArray) : RdSt := if isM sg st m = true then skipS st else none
def addS (st : RdSt) (x : PN) : PR := match st with | none => (0, none) | some s => if s.nodes.length = 300 then (0, none) else ((s.nodes.length : Int), some ⟨s.at_, s.nodes ++ [x]⟩)
def leafS (k : Int) (st : RdSt) : PR := ((addS st ⟨k, (sgAt sg st 0).2.1, [], false⟩).1, skipS (addS st ⟨k, (sgAt sg st 0).2.1, [], false⟩).2)
def nameNodeS (st : RdSt) : PR := if nameS sg st 0 = true then leafS sg 1 st else (0, none)
def nmS (st : RdSt) : RdSt := if nameS sg st 0 = true then skipS st else none
def nmT (st : RdSt) : ByteArray := if nameS sg st 0 = true then (sgAt sg st 0).2.1 else noT
def listF (one : RdSt → PR) (m : ByteArray) : Nat → List Int → RdSt → List Int × RdSt
 | 0, ks, st => (ks, st)
 | n + 1, ks, st =>
  if st.isNone = true then (ks, st)
  else if isM sg st m = true then (ks, st)
  else if isM sg (one st).2 ⟨#[44]⟩ = true then listF one m n (ks ++ [(one st).1]) (skipS (one st).2)
  else (ks ++ [(one st).1], (one st).2)
def callS (one : RdSt → PR) (N : Nat) (k : Int) (st : RdSt) : PR :=
 addS (takeS sg (listF sg one ⟨#[41]⟩ N [] (takeS sg st ⟨#[40]⟩)).2 ⟨#[41]⟩) ⟨5, noT, k :: (listF sg one ⟨#[41]⟩ N [] (takeS sg st ⟨#[40]⟩)).1, false⟩
def cascF (one : RdSt → PR) (N : Nat) : Nat → List Int → RdSt → List Int × RdSt
 | 0, ks, st => (ks, st)
 | n + 1, ks, st =>
  if isM sg st ⟨#[46, 46]⟩ = true then cascF one N n (ks ++ [(callS sg one N (nameNodeS sg (skipS st)).1 (nameNodeS sg (skipS st)).2).1]) (callS sg one N (nameNodeS sg (skipS st)).1 (nameNodeS sg (skipS st)).2).2
  else (ks, st)
def runF (one : RdSt → PR) (m : ByteArray) : Nat → List Int → RdSt → List Int × RdSt
 | 0, ks, st => (ks, st)
 | n + 1, ks, st => if isM sg st m = true then runF one m n (ks ++ [(one (skipS st)).1]) (one (skipS st)).2 else (ks, st)
def marksOf (l : Nat) : List ByteArray :=
 if l = 0 then [⟨#[124, 124]⟩] else if l = 1 then [⟨#[38, 38]⟩] else if l = 2 then [⟨#[61, 61]⟩] else if l = 3 then [⟨#[60]⟩] else if l = 4 then [⟨#[43]⟩, ⟨#[45]⟩] else [⟨#[42]⟩]
def markF_ (st : RdSt) : List ByteArray → ByteArray
 | [] => noT
 | m :: r => if isM sg st m = true then m else markF_ st r
def markS (st : RdSt) (l : Nat) : ByteArray := markF_ sg st (marksOf l)
def chainF (one : RdSt → PR) (l N : Nat) : Nat → Int → RdSt → PR
 | 0, k, st => (k, st)
 | n + 1, k, st =>
  if (markS sg st l).toList == [] then (k, st)
  else chainF one l N n (addS (runF sg one (markS sg st l) N [k] st).2 ⟨7, markS sg st l, (runF sg one (markS sg st l) N [k] st).1, false⟩).1 (addS (runF sg one (markS sg st l) N [k] st).2 ⟨7, markS sg st l, (runF sg one (markS sg st l) N [k] st).1, false⟩).2
def endF (one : RdSt → PR) (N : Nat) : Nat → Int → RdSt → PR
 | 0, k, st => (k, st)
 | n + 1, k, st =>
  if st.isNone = true then (k, st)
  else if isM sg st ⟨#[40]⟩ = true then endF one N n (callS sg one N k st).1 (callS sg one N k st).2
  else if isM sg st ⟨#[46]⟩ = true then
   (if nameS sg (skipS st) 0 = true then endF one N n (addS (skipS st) ⟨6, (sgAt sg (skipS st) 0).2.1, [k], false⟩).1 (skipS (addS (skipS st) ⟨6, (sgAt sg (skipS st) 0).2.1, [k], false⟩).2) else (0, none))
  else (k, st)
def fnF (st : RdSt) : Nat → Nat → Nat
 | 0, i => i
 | f + 1, i => if nameS sg st i = true then (if (sgAt sg st (i + 1)).2.1.toList == [44] then fnF st f (i + 2) else i + 1) else i
def fnB (st : RdSt) : Bool := ((sgAt sg st (fnF sg st (sg.length + 1) 1)).2.1.toList == [41]) && ((sgAt sg st (fnF sg st (sg.length + 1) 1 + 1)).2.1.toList == [61, 62])
inductive Md
 | value | pick | chain (l : Nat) | end_ | base | stmt (b : Bool) | block
variable (E : Md → Nat → RdSt → PR) (N : Nat)
def valueS (d : Nat) (st : RdSt) : PR :=
 if isM sg (E .pick d st).2 ⟨#[46, 46]⟩ = true then addS (cascF sg (E .value d) N N [(E .pick d st).1] (E .pick d st).2).2 ⟨10, noT, (cascF sg (E .value d) N N [(E .pick d st).1] (E .pick d st).2).1, false⟩
 else E .pick d st
def nestS (d : Nat) (st : RdSt) : RdSt := if d = 20 then none else st
def pickS (d : Nat) (st : RdSt) : PR :=
 let r := E (.chain 0) (d + 1) (nestS d st)
 if isM sg r.2 ⟨#[63]⟩ = true then
  let a := E .pick (d + 1) (skipS r.2)
  let b := E .pick (d + 1) (takeS sg a.2 ⟨#[58]⟩)
  addS b.2 ⟨8, noT, [r.1, a.1, b.1], false⟩
 else r
def chainS (l d : Nat) (st : RdSt) : PR :=
 if l = 6 then E .end_ d st else chainF sg (E (.chain (l + 1)) d) l N N (E (.chain (l + 1)) d st).1 (E (.chain (l + 1)) d st).2
def endS (d : Nat) (st : RdSt) : PR := endF sg (E .value d) N N (E .base d st).1 (E .base d st).2
def fnS (d : Nat) (st : RdSt) : PR :=
 let q := listF sg (nameNodeS sg) ⟨#[41]⟩ N [] (takeS sg st ⟨#[40]⟩)
 let r := E .pick d (takeS sg (takeS sg q.2 ⟨#[41]⟩) ⟨#[61, 62]⟩)
 addS r.2 ⟨9, noT, q.1 ++ [r.1], false⟩
def listS (d : Nat) (st : RdSt) : PR :=
 let q := listF sg (E .value d) ⟨#[93]⟩ N [] (skipS st)
 addS (takeS sg q.2 ⟨#[93]⟩) ⟨4, noT, q.1, false⟩
def parS (d : Nat) (st : RdSt) : PR :=
 let r := E .value d (skipS st)
 addS (takeS sg r.2 ⟨#[41]⟩) ⟨11, noT, [r.1], false⟩
def baseS (d : Nat) (st : RdSt) : PR :=
 if (sgAt sg st 0).1 = 1 then nameNodeS sg st
 else if (sgAt sg st 0).1 = 2 then leafS sg 2 st
 else if (sgAt sg st 0).1 = 3 then leafS sg 3 st
 else if isM sg st ⟨#[91]⟩ = true then listS sg E N d st
 else if isM sg st ⟨#[40]⟩ = true then (if fnB sg st = true then fnS sg E N d st else parS sg E d st)
 else (0, none)
def noteS (b : Bool) (st : RdSt) : PR := ((addS st ⟨19, (sgAt sg st 0).2.1, [], b⟩).1, skipS (addS st ⟨19, (sgAt sg st 0).2.1, [], b⟩).2)
def varS (d : Nat) (b : Bool) (st : RdSt) : PR :=
 if isM sg (nmS sg st) ⟨#[61]⟩ = true then
  let r := E .value d (skipS (nmS sg st))
  addS (takeS sg r.2 ⟨#[59]⟩) ⟨12, nmT sg st, [r.1], b⟩
 else addS (takeS sg (nmS sg st) ⟨#[59]⟩) ⟨12, nmT sg st, [], b⟩
def leaveS (d : Nat) (b : Bool) (st : RdSt) : PR :=
 if isM sg st ⟨#[59]⟩ = true then addS (takeS sg st ⟨#[59]⟩) ⟨15, noT, [], b⟩
 else
  let r := E .value d st
  addS (takeS sg r.2 ⟨#[59]⟩) ⟨15, noT, [r.1], b⟩
def heldS (d : Nat) (st : RdSt) : PR := ((E .value d (takeS sg st ⟨#[40]⟩)).1, takeS sg (E .value d (takeS sg st ⟨#[40]⟩)).2 ⟨#[41]⟩)
def ifS (d : Nat) (b : Bool) (st : RdSt) : PR :=
 let c := heldS sg E d st
 let t := E .block d c.2
 if isW sg t.2 ⟨#[101, 108, 115, 101]⟩ = true then
  let o := E .block d (skipS t.2)
  addS o.2 ⟨16, noT, [c.1, t.1, o.1], b⟩
 else addS t.2 ⟨16, noT, [c.1, t.1], b⟩
def whileS (d : Nat) (b : Bool) (st : RdSt) : PR :=
 let c := heldS sg E d st
 let t := E .block d c.2
 addS t.2 ⟨17, noT, [c.1, t.1], b⟩
def setS (d : Nat) (b : Bool) (st : RdSt) : PR :=
 let r := E .value d (skipS (skipS st))
 addS (takeS sg r.2 ⟨#[59]⟩) ⟨13, nmT sg st, [r.1], b⟩
def doS (d : Nat) (b : Bool) (st : RdSt) : PR :=
 let r := E .value d st
 addS (takeS sg r.2 ⟨#[59]⟩) ⟨14, noT, [r.1], b⟩
def setB (st : RdSt) : Bool := nameS sg st 0 && (((sgAt sg st 1).2.1.toList == [61]) && ((sgAt sg st 1).1 == 4))
def stmtS (d : Nat) (b : Bool) (st : RdSt) : PR :=
 if (sgAt sg st 0).1 = 5 then noteS sg b st
 else if isW sg st ⟨#[118, 97, 114]⟩ = true then varS sg E d b (skipS st)
 else if isW sg st ⟨#[114, 101, 116, 117, 114, 110]⟩ = true then leaveS sg E d b (skipS st)
 else if isW sg st ⟨#[105, 102]⟩ = true then ifS sg E d b (skipS st)
 else if isW sg st ⟨#[119, 104, 105, 108, 101]⟩ = true then whileS sg E d b (skipS st)
 else if setB sg st = true then setS sg E d b st
 else doS sg E d b st
def blankB (st : RdSt) (ks : List Int) : Bool := (sgAt sg st 0).2.2.2 && decide (0 < ks.length)
def bodyF (one : Bool → RdSt → PR) : Nat → List Int → RdSt → List Int × RdSt
 | 0, ks, st => (ks, st)
 | n + 1, ks, st =>
  if st.isNone = true then (ks, st)
  else if isM sg st ⟨#[125]⟩ = true then (ks, st)
  else bodyF one n (ks ++ [(one (blankB sg st ks) st).1]) (one (blankB sg st ks) st).2
def blockS (d : Nat) (st : RdSt) : PR :=
 let q := bodyF sg (fun b => E (.stmt b) (d + 1)) N [] (takeS sg (nestS d st) ⟨#[123]⟩)
 addS (takeS sg q.2 ⟨#[125]⟩) ⟨18, noT, q.1, false⟩
def stepM : Md → Nat → RdSt → PR
 | .value => valueS sg E N
 | .pick => pickS sg E
 | .chain l => chainS sg E N l
 | .end_ => endS sg E N
 | .base => baseS sg E N
 | .stmt b => fun d st => stmtS sg E d b st
 | .block => blockS sg E N
def exprF : Nat → Md → Nat → RdSt → PR
 | 0 => fun _ _ _ => (0, none)
 | f + 1 => stepM sg (exprF f) N
def methS (b : Bool) (st : RdSt) : PR :=
 let q := listF sg (nameNodeS sg) ⟨#[41]⟩ N [] (takeS sg (nmS sg st) ⟨#[40]⟩)
 let r := E .block 0 (takeS sg q.2 ⟨#[41]⟩)
 addS r.2 ⟨20, nmT sg st, q.1 ++ [r.1], b⟩
def memS (b : Bool) (st : RdSt) : PR :=
 if (sgAt sg st 0).1 = 5 then noteS sg b st
 else if isW sg st ⟨#[118, 97, 114]⟩ = true then varS sg E 0 b (skipS st)
 else methS sg E N b st
def classS (b : Bool) (st : RdSt) : PR :=
 let q := bodyF sg (memS sg E N) N [] (takeS sg (nmS sg st) ⟨#[123]⟩)
 addS (takeS sg q.2 ⟨#[125]⟩) ⟨21, nmT sg st, q.1, b⟩
def topS (b : Bool) (st : RdSt) : PR :=
 if (sgAt sg st 0).1 = 5 then noteS sg b st
 else if isW sg st ⟨#[118, 97, 114]⟩ = true then varS sg E 0 b (skipS st)
 else if isW sg st ⟨#[99, 108, 97, 115, 115]⟩ = true then classS sg E N b (skipS st)
 else methS sg E N b st
def restB (st : RdSt) : Bool := match st with | none => false | some s => decide (s.at_ < sg.length)
def fileF : Nat → List Int → RdSt → List Int × RdSt
 | 0, ks, st => (ks, st)
 | n + 1, ks, st => if restB sg st = true then fileF n (ks ++ [(topS sg E N (blankB sg st ks) st).1]) (topS sg E N (blankB sg st ks) st).2 else (ks, st)
def fileS (st : RdSt) : RdSt := (addS (fileF sg E N N [] st).2 ⟨22, noT, (fileF sg E N N [] st).1, false⟩).2
end
def nodesP (sg : List SgP) : RdSt := fileS sg (exprF sg (sg.length + 2) (14 * (sg.length + 2))) (sg.length + 2) (some ⟨0, []⟩)
section
variable {sg : List SgP} {st st' st2 : RdSt} {s : PS} {m : ByteArray}
theorem sgAt_none (i : Nat) : sgAt sg none i = sgZero := rfl
theorem isM_none : isM sg none m = false := rfl
theorem isW_none : isW sg none m = false := rfl
theorem nameS_none (i : Nat) : nameS sg none i = false := rfl
theorem skipS_none : skipS none = none := rfl
theorem takeS_none : takeS sg none m = none := by unfold takeS; rw [isM_none]; rfl
theorem addS_none (x : PN) : addS none x = (0, none) := rfl
theorem listF_none (one : RdSt → PR) (n : Nat) (ks : List Int) : listF sg one m n ks none = (ks, none) := by
 cases n with
 | zero => rfl
 | succ n => unfold listF; exact if_pos rfl
theorem runF_none (one : RdSt → PR) (n : Nat) (ks : List Int) : runF sg one m n ks none = (ks, none) := by
 cases n with
 | zero => rfl
 | succ n => unfold runF; rw [isM_none, if_neg (by decide)]
theorem noT_nil : (noT.toList == []) = true := by rw [ByteArray.toList_eq]; rfl
theorem markF_none (l : List ByteArray) : markF_ sg none l = noT := by
 induction l with
 | nil => rfl
 | cons a l ih => unfold markF_; rw [isM_none, if_neg (by decide)]; exact ih
theorem markS_none (l : Nat) : markS sg none l = noT := markF_none _
theorem chainF_none (one : RdSt → PR) (l N n : Nat) (k : Int) : chainF sg one l N n k none = (k, none) := by
 cases n with
 | zero => rfl
 | succ n => unfold chainF; rw [markS_none, if_pos noT_nil]
theorem endF_none (one : RdSt → PR) (N n : Nat) (k : Int) : endF sg one N n k none = (k, none) := by
 cases n with
 | zero => rfl
 | succ n => unfold endF; exact if_pos rfl
theorem bodyF_none (one : Bool → RdSt → PR) (n : Nat) (ks : List Int) : bodyF sg one n ks none = (ks, none) := by
 cases n with
 | zero => rfl
 | succ n => unfold bodyF; exact if_pos rfl
theorem nestS_none (d : Nat) : nestS d none = none := by unfold nestS; split <;> rfl
end
section
variable {sg : List SgP} {E : Md → Nat → RdSt → PR} {N : Nat}
theorem stepM_none (hE : ∀ m d, E m d none = (0, none)) : ∀ m d, stepM sg E N m d none = (0, none) := by
 intro m d
 have hs : ∀ b, stmtS sg E d b none = (0, none) := fun b => by
  unfold stmtS doS
  simp only [sgAt_none, isW_none, hE, takeS_none, addS_none, setB, nameS_none]
  rfl
 cases m with
 | value => show valueS sg E N d none = _; unfold valueS; rw [hE, if_neg (by rw [isM_none]; decide)]
 | pick => show pickS sg E d none = _; unfold pickS; rw [nestS_none, hE]; simp only [isM_none]; rfl
 | chain l => show chainS sg E N l d none = _; unfold chainS; rw [hE, hE]; simp only [chainF_none]; split <;> rfl
 | end_ => show endS sg E N d none = _; unfold endS; rw [hE]; exact endF_none _ _ _ _
 | base => show baseS sg E N d none = _; unfold baseS; simp only [sgAt_none, isM_none]; rfl
 | stmt b => exact hs b
 | block => show blockS sg E N d none = _; unfold blockS; rw [nestS_none, takeS_none, bodyF_none]; simp only [takeS_none]; rfl
theorem exprF_none : ∀ (f : Nat) (m : Md) (d : Nat), exprF sg N f m d none = (0, none) := by
 intro f
 induction f with
 | zero => intro m d; rfl
 | succ f ih => exact stepM_none ih
end
def Adv (i j : Nat) (st st' : RdSt) : Prop := ∀ t, st' = some t → ∃ s, st = some s ∧ s.at_ + i ≤ t.at_ ∧ s.nodes.length + j ≤ t.nodes.length
section
variable {sg : List SgP} {st st' st2 : RdSt} {i j i' j' : Nat}
theorem Adv.trans (h : Adv i j st st') (k : Adv i' j' st' st2) : Adv (i + i') (j + j') st st2 := fun t e => by
 obtain ⟨s', e', h1, h2⟩ := k t e
 obtain ⟨s, e2, h3, h4⟩ := h s' e'
 exact ⟨s, e2, by omega, by omega⟩
theorem Adv.weak (h : Adv i j st st') (h1 : i' ≤ i) (h2 : j' ≤ j) : Adv i' j' st st' := fun t e => by
 obtain ⟨s, e2, h3, h4⟩ := h t e
 exact ⟨s, e2, by omega, by omega⟩
theorem Adv.refl (st : RdSt) : Adv 0 0 st st := fun t e => ⟨t, e, Nat.le_refl _, Nat.le_refl _⟩
theorem Adv.bad (i j : Nat) (st : RdSt) : Adv i j st none := fun t e => by cases e
theorem adv_skip (st : RdSt) : Adv 1 0 st (skipS st) := fun t e => by
 cases st with
 | none => cases e
 | some s => obtain rfl := Option.some.inj e; exact ⟨s, rfl, Nat.le_refl _, Nat.le_refl _⟩
theorem adv_take (st : RdSt) (m : ByteArray) : Adv 1 0 st (takeS sg st m) := by
 unfold takeS
 split
 ·exact adv_skip st
 ·exact Adv.bad _ _ _
theorem adv_nm (st : RdSt) : Adv 1 0 st (nmS sg st) := by
 unfold nmS
 split
 ·exact adv_skip st
 ·exact Adv.bad _ _ _
theorem adv_nest (d : Nat) (st : RdSt) : Adv 0 0 st (nestS d st) := by
 unfold nestS
 split
 ·exact Adv.bad _ _ _
 ·exact Adv.refl _
theorem adv_add (st : RdSt) (x : PN) : Adv 0 1 st (addS st x).2 := fun t e => by
 unfold addS at e
 cases st with
 | none => cases e
 | some s =>
  simp only at e
  split at e
  ·cases e
  ·obtain rfl := Option.some.inj e
   exact ⟨s, rfl, by simp, by simp⟩
theorem adv_leaf (k : Int) (st : RdSt) : Adv 1 1 st (leafS sg k st).2 := ((adv_add st _).trans (adv_skip _)).weak (by omega) (by omega)
theorem adv_nameNode (st : RdSt) : Adv 1 1 st (nameNodeS sg st).2 := by
 unfold nameNodeS
 split
 ·exact adv_leaf 1 st
 ·exact Adv.bad _ _ _
theorem adv_note (b : Bool) (st : RdSt) : Adv 1 1 st (noteS sg b st).2 := ((adv_add st _).trans (adv_skip _)).weak (by omega) (by omega)
theorem adv_list {one : RdSt → PR} (h1 : ∀ st, Adv 1 1 st (one st).2) (m : ByteArray) : ∀ (n : Nat) (ks : List Int) (st : RdSt), ks.length ≤ (listF sg one m n ks st).1.length ∧ Adv 0 ((listF sg one m n ks st).1.length - ks.length) st (listF sg one m n ks st).2 := by
 intro n
 induction n with
 | zero => intro ks st; exact ⟨Nat.le_refl _, by simpa [listF] using Adv.refl st⟩
 | succ n ih =>
  intro ks st
  unfold listF
  split
  ·exact ⟨Nat.le_refl _, by simpa using Adv.refl st⟩
  ·split
   ·exact ⟨Nat.le_refl _, by simpa using Adv.refl st⟩
   ·split
    ·obtain ⟨g1, g2⟩ := ih (ks ++ [(one st).1]) (skipS (one st).2)
     simp only [lA, List.length_singleton] at g1 g2
     refine ⟨by omega, (((h1 st).trans (adv_skip _)).trans g2).weak (by omega) (by omega)⟩
    ·simp only [lA, List.length_singleton]
     exact ⟨by omega, (h1 st).weak (by omega) (by omega)⟩
theorem adv_call {one : RdSt → PR} (h1 : ∀ st, Adv 1 1 st (one st).2) (N : Nat) (k : Int) (st : RdSt) : Adv 1 1 st (callS sg one N k st).2 := by
 unfold callS
 exact ((((adv_take st _).trans (adv_list h1 _ _ _ _).2).trans (adv_take _ _)).trans (adv_add _ _)).weak (by omega) (by omega)
theorem adv_casc {one : RdSt → PR} (h1 : ∀ st, Adv 1 1 st (one st).2) (N : Nat) : ∀ (n : Nat) (ks : List Int) (st : RdSt), ks.length ≤ (cascF sg one N n ks st).1.length ∧ Adv 0 ((cascF sg one N n ks st).1.length - ks.length) st (cascF sg one N n ks st).2 := by
 intro n
 induction n with
 | zero => intro ks st; exact ⟨Nat.le_refl _, by simpa [cascF] using Adv.refl st⟩
 | succ n ih =>
  intro ks st
  unfold cascF
  split
  ·obtain ⟨g1, g2⟩ := ih (ks ++ [(callS sg one N (nameNodeS sg (skipS st)).1 (nameNodeS sg (skipS st)).2).1]) (callS sg one N (nameNodeS sg (skipS st)).1 (nameNodeS sg (skipS st)).2).2
   simp only [lA, List.length_singleton] at g1 g2
   exact ⟨by omega, ((((adv_skip st).trans (adv_nameNode _)).trans (adv_call h1 N _ _)).trans g2).weak (by omega) (by omega)⟩
  ·exact ⟨Nat.le_refl _, by simpa using Adv.refl st⟩
theorem adv_run {one : RdSt → PR} (h1 : ∀ st, Adv 1 1 st (one st).2) (m : ByteArray) : ∀ (n : Nat) (ks : List Int) (st : RdSt), ks.length ≤ (runF sg one m n ks st).1.length ∧ Adv 0 ((runF sg one m n ks st).1.length - ks.length) st (runF sg one m n ks st).2 := by
 intro n
 induction n with
 | zero => intro ks st; exact ⟨Nat.le_refl _, by simpa [runF] using Adv.refl st⟩
 | succ n ih =>
  intro ks st
  unfold runF
  split
  ·obtain ⟨g1, g2⟩ := ih (ks ++ [(one (skipS st)).1]) (one (skipS st)).2
   simp only [lA, List.length_singleton] at g1 g2
   exact ⟨by omega, (((adv_skip st).trans (h1 _)).trans g2).weak (by omega) (by omega)⟩
  ·exact ⟨Nat.le_refl _, by simpa using Adv.refl st⟩
theorem adv_chain {one : RdSt → PR} (h1 : ∀ st, Adv 1 1 st (one st).2) (l N : Nat) : ∀ (n : Nat) (k : Int) (st : RdSt), Adv 0 0 st (chainF sg one l N n k st).2 := by
 intro n
 induction n with
 | zero => intro k st; exact Adv.refl st
 | succ n ih =>
  intro k st
  unfold chainF
  split
  ·exact Adv.refl st
  ·exact (((adv_run h1 _ N [k] st).2.trans (adv_add _ _)).trans (ih _ _)).weak (by omega) (by omega)
theorem adv_end {one : RdSt → PR} (h1 : ∀ st, Adv 1 1 st (one st).2) (N : Nat) : ∀ (n : Nat) (k : Int) (st : RdSt), Adv 0 0 st (endF sg one N n k st).2 := by
 intro n
 induction n with
 | zero => intro k st; exact Adv.refl st
 | succ n ih =>
  intro k st
  unfold endF
  split
  ·exact Adv.refl st
  ·split
   ·exact ((adv_call h1 N k st).trans (ih _ _)).weak (by omega) (by omega)
   ·split
    ·split
     ·exact ((((adv_skip st).trans (adv_add _ _)).trans (adv_skip _)).trans (ih _ _)).weak (by omega) (by omega)
     ·exact Adv.bad _ _ _
    ·exact Adv.refl st
theorem adv_body {one : Bool → RdSt → PR} (h1 : ∀ b st, Adv 1 1 st (one b st).2) : ∀ (n : Nat) (ks : List Int) (st : RdSt), ks.length ≤ (bodyF sg one n ks st).1.length ∧ Adv 0 ((bodyF sg one n ks st).1.length - ks.length) st (bodyF sg one n ks st).2 := by
 intro n
 induction n with
 | zero => intro ks st; exact ⟨Nat.le_refl _, by simpa [bodyF] using Adv.refl st⟩
 | succ n ih =>
  intro ks st
  unfold bodyF
  split
  ·exact ⟨Nat.le_refl _, by simpa using Adv.refl st⟩
  ·split
   ·exact ⟨Nat.le_refl _, by simpa using Adv.refl st⟩
   ·obtain ⟨g1, g2⟩ := ih (ks ++ [(one (blankB sg st ks) st).1]) (one (blankB sg st ks) st).2
    simp only [lA, List.length_singleton] at g1 g2
    exact ⟨by omega, ((h1 _ st).trans g2).weak (by omega) (by omega)⟩
end
section
variable {sg : List SgP} {E : Md → Nat → RdSt → PR} {N : Nat} (hE : ∀ m d st, Adv 1 1 st (E m d st).2)
include hE
theorem adv_value (d : Nat) (st : RdSt) : Adv 1 1 st (valueS sg E N d st).2 := by
 unfold valueS
 split
 ·exact (((hE .pick d st).trans (adv_casc (hE .value d) N N _ _).2).trans (adv_add _ _)).weak (by omega) (by omega)
 ·exact hE _ _ _
theorem adv_pick (d : Nat) (st : RdSt) : Adv 1 1 st (pickS sg E d st).2 := by
 unfold pickS
 simp only
 split
 ·exact (((((((adv_nest d st).trans (hE (.chain 0) (d + 1) _)).trans (adv_skip _)).trans (hE .pick (d + 1) _)).trans (adv_take _ _)).trans (hE .pick (d + 1) _)).trans (adv_add _ _)).weak (by omega) (by omega)
 ·exact ((adv_nest d st).trans (hE (.chain 0) (d + 1) _)).weak (by omega) (by omega)
theorem adv_fn (d : Nat) (st : RdSt) : Adv 1 1 st (fnS sg E N d st).2 := by
 unfold fnS
 exact ((((((adv_take st _).trans (adv_list adv_nameNode _ _ _ _).2).trans (adv_take _ _)).trans (adv_take _ _)).trans (hE .pick d _)).trans (adv_add _ _)).weak (by omega) (by omega)
theorem adv_base (d : Nat) (st : RdSt) : Adv 1 1 st (baseS sg E N d st).2 := by
 unfold baseS
 split
 ·exact adv_nameNode st
 ·split
  ·exact adv_leaf _ st
  ·split
   ·exact adv_leaf _ st
   ·split
    ·exact ((((adv_skip st).trans (adv_list (hE .value d) _ _ _ _).2).trans (adv_take _ _)).trans (adv_add _ _)).weak (by omega) (by omega)
    ·split
     ·split
      ·exact adv_fn hE d st
      ·exact ((((adv_skip st).trans (hE .value d _)).trans (adv_take _ _)).trans (adv_add _ _)).weak (by omega) (by omega)
     ·exact Adv.bad _ _ _
theorem adv_var (d : Nat) (b : Bool) (st : RdSt) : Adv 1 1 st (varS sg E d b st).2 := by
 unfold varS
 split
 ·exact (((((adv_nm st).trans (adv_skip _)).trans (hE .value d _)).trans (adv_take _ _)).trans (adv_add _ _)).weak (by omega) (by omega)
 ·exact (((adv_nm st).trans (adv_take _ _)).trans (adv_add _ _)).weak (by omega) (by omega)
theorem adv_held (d : Nat) (st : RdSt) : Adv 1 1 st (heldS sg E d st).2 := (((adv_take st _).trans (hE .value d _)).trans (adv_take _ _)).weak (by omega) (by omega)
theorem adv_stmt (d : Nat) (b : Bool) (st : RdSt) : Adv 1 1 st (stmtS sg E d b st).2 := by
 unfold stmtS
 split
 ·exact adv_note b st
 ·split
  ·exact ((adv_skip st).trans (adv_var hE d b _)).weak (by omega) (by omega)
  ·split
   ·unfold leaveS
    split
    ·exact (((adv_skip st).trans (adv_take _ _)).trans (adv_add _ _)).weak (by omega) (by omega)
    ·exact ((((adv_skip st).trans (hE .value d _)).trans (adv_take _ _)).trans (adv_add _ _)).weak (by omega) (by omega)
   ·split
    ·unfold ifS
     simp only
     split
     ·exact ((((((adv_skip st).trans (adv_held hE d _)).trans (hE .block d _)).trans (adv_skip _)).trans (hE .block d _)).trans (adv_add _ _)).weak (by omega) (by omega)
     ·exact ((((adv_skip st).trans (adv_held hE d _)).trans (hE .block d _)).trans (adv_add _ _)).weak (by omega) (by omega)
    ·split
     ·exact ((((adv_skip st).trans (adv_held hE d _)).trans (hE .block d _)).trans (adv_add _ _)).weak (by omega) (by omega)
     ·split
      ·exact (((((adv_skip st).trans (adv_skip _)).trans (hE .value d _)).trans (adv_take _ _)).trans (adv_add _ _)).weak (by omega) (by omega)
      ·exact (((hE .value d st).trans (adv_take _ _)).trans (adv_add _ _)).weak (by omega) (by omega)
theorem adv_block (d : Nat) (st : RdSt) : Adv 1 1 st (blockS sg E N d st).2 := by
 unfold blockS
 exact (((((adv_nest d st).trans (adv_take _ _)).trans (adv_body (fun b => hE (.stmt b) (d + 1)) _ _ _).2).trans (adv_take _ _)).trans (adv_add _ _)).weak (by omega) (by omega)
theorem adv_step (m : Md) (d : Nat) (st : RdSt) : Adv 1 1 st (stepM sg E N m d st).2 := by
 cases m with
 | value => exact adv_value hE d st
 | pick => exact adv_pick hE d st
 | chain l =>
  show Adv 1 1 st (chainS sg E N l d st).2
  unfold chainS
  split
  ·exact hE _ _ _
  ·exact ((hE (.chain (l + 1)) d st).trans (adv_chain (hE (.chain (l + 1)) d) l N N _ _)).weak (by omega) (by omega)
 | end_ => exact ((hE .base d st).trans (adv_end (hE .value d) N N _ _)).weak (by omega) (by omega)
 | base => exact adv_base hE d st
 | stmt b => exact adv_stmt hE d b st
 | block => exact adv_block hE d st
theorem adv_meth (b : Bool) (st : RdSt) : Adv 1 1 st (methS sg E N b st).2 := by
 unfold methS
 exact ((((((adv_nm st).trans (adv_take _ _)).trans (adv_list adv_nameNode _ _ _ _).2).trans (adv_take _ _)).trans (hE .block 0 _)).trans (adv_add _ _)).weak (by omega) (by omega)
theorem adv_mem (b : Bool) (st : RdSt) : Adv 1 1 st (memS sg E N b st).2 := by
 unfold memS
 split
 ·exact adv_note b st
 ·split
  ·exact ((adv_skip st).trans (adv_var hE 0 b _)).weak (by omega) (by omega)
  ·exact adv_meth hE b st
theorem adv_top (b : Bool) (st : RdSt) : Adv 1 1 st (topS sg E N b st).2 := by
 unfold topS
 split
 ·exact adv_note b st
 ·split
  ·exact ((adv_skip st).trans (adv_var hE 0 b _)).weak (by omega) (by omega)
  ·split
   ·unfold classS
    exact ((((((adv_skip st).trans (adv_nm _)).trans (adv_take _ _)).trans (adv_body (adv_mem hE) _ _ _).2).trans (adv_take _ _)).trans (adv_add _ _)).weak (by omega) (by omega)
   ·exact adv_meth hE b st
end
theorem adv_expr {sg : List SgP} {N : Nat} : ∀ (f : Nat) (m : Md) (d : Nat) (st : RdSt), Adv 1 1 st (exprF sg N f m d st).2 := by
 intro f
 induction f with
 | zero => intro m d st; exact Adv.bad _ _ _
 | succ f ih => exact adv_step ih
section
variable {P : Program} (w : World)
theorem append_where (base : Nat) (t ty e : TypeId) (i : TypeInfo) (z : Value) (size bytes : Nat) (ht : P.underlying t = some (.slice e)) (hi : P.info? e = some i) (hz : i.zero = some z)
  (hsize : i.size = size) (hby : i.bytes = bytes) (hsz : 0 < size)
  (v : Value) (n : Nat) (xs : List Value) (hown : w.ownsRow base e size v n xs)
  (a : Addr) (m c : Nat) (news : List Value) (hl : news.length = m * size) (hnews : ∀ j u, news[j]? = some u → w.cell? (a.add j) = some u) (h1 : ∀ u ∈ news, u.oneCell' = true)
  (h63 : n + m ≤ maxLen) (hbytes : (n + m) * bytes ≤ 140737488355328) {v' : Value} {w' : World}
  (hr : (Builtin.append_ #[t, t] ty #[v, .slice (some a) m c]).run P w = .ok v' w') : v'.ownBlock = v.ownBlock ∨ v'.ownBlock = some w.heap.size := by
 subst hsize
 subst hby
 have h64 : n + m ≤ 9223372036854775807 := by simp only [maxLen] at h63; omega
 rcases hown.2 with ⟨rfl, rfl⟩ | ⟨g, cap, cur, rfl, _, hg, _, _, hcs, _⟩
 ·rcases Nat.eq_zero_or_pos m with rfl | hm
  ·obtain rfl : news = [] := List.eq_nil_of_length_eq_zero (by simpa using hl)
   have h : (Builtin.append_ #[t, t] ty #[.slice none 0 0, .slice (some a) 0 c]).run P w = .ok (.slice none 0 0) w := by
    simp [Builtin.append_, run_underlying ht, sizeOf, typeInfo, hi, Builtin.lenOf, Builtin.firstCells, loadCells, loadCellsFrom]
   rw [h] at hr
   injection hr with h2 _
   exact .inl (by rw [← h2])
  ·rw [run_append_nil (P := P) w t ty e i z ht hi hz a m c news hl hnews hm (by omega) (by rw [Nat.zero_add] at hbytes; omega)] at hr
   injection hr with h2 _
   exact .inr (by rw [← h2]; rfl)
 ·rcases Nat.lt_or_ge cap (n + m) with hroom | hroom
  ·rw [run_append_grow (P := P) w t ty e i z ht hi hz ⟨g, 0, none⟩ n cap xs hown.1 (hown.cells (g := g) rfl) a m c news hl hnews hroom (by omega) (growslice_fits hroom hbytes)] at hr
   injection hr with h2 _
   exact .inr (by rw [← h2]; rfl)
  ·rw [run_append_room (P := P) w t ty e i ht hi g n cap cur hg a m c news hl hnews h1 hroom (by rw [hl, hcs, ← Nat.add_mul]; exact Nat.mul_le_mul_right _ hroom)] at hr
   injection hr with h2 _
   exact .inl (by rw [← h2]; rfl)
theorem wpList_append_row {ops : Array Oper} {rest : List Oper} {o : Oper} {a : Act} {Q : Exit → Act → World → Prop} (hgd : o.guard = none) (s x : Operand) (t : TypeId)
  (ho : o.op = .call { callee := .builtin .append, args := #[s, x], argTypes := #[t, t] })
  (base : Nat) (e : TypeId) (i : TypeInfo) (z : Value) (size bytes : Nat) (ht : P.underlying t = some (.slice e)) (hi : P.info? e = some i) (hz : i.zero = some z)
  (hsize : i.size = size) (hby : i.bytes = bytes) (hzs : z.cells.size = size) (hsz : 0 < size)
  (v : Value) (n : Nat) (xs : List Value) (hs : a.eval s = v) (hown : w.ownsRow base e size v n xs)
  (ad : Addr) (m c : Nat) (news : List Value) (hx : a.eval x = .slice (some ad) m c) (hl : news.length = m * size) (hnews : ∀ j u, news[j]? = some u → w.cell? (ad.add j) = some u) (h1 : ∀ u ∈ news, u.oneCell' = true)
  (h63 : n + m ≤ maxLen) (hbytes : (n + m) * bytes ≤ 140737488355328) (hbase : base ≤ w.heap.size)
  (h : ∀ v' w', w'.ownsRow base e size v' (n + m) (xs ++ news) → w.grownBy w' v.ownBlock → (v'.ownBlock = v.ownBlock ∨ v'.ownBlock = some w.heap.size) → wpList P ops Q rest (a.put o.dst v') w') : wpList P ops Q (o :: rest) a w := by
 obtain ⟨v', w', hr, h2, h3, _⟩ := run_append_own (P := P) w base t o.type e i z size bytes ht hi hz hsize hby hzs hsz v n xs hown ad m c news hl hnews h1 h63 hbytes hbase
 have h4 := append_where (P := P) w base t o.type e i z size bytes ht hi hz hsize hby hsz v n xs hown ad m c news hl hnews h1 h63 hbytes hr
 refine wpList_plain hgd fun K hK => ?_
 unfold Oper.wp
 simp [execOp, ho, resolve, invoke, builtin, hs, hx, hr, Result.andThen]
 exact hK _ _ (h v' w' h2 h3 h4)
end
section
variable {sg : List SgP} {st : RdSt} {m : ByteArray}
theorem add_skip (st : RdSt) (x : PN) : addS (skipS st) x = ((addS st x).1, skipS (addS st x).2) := by
 cases st with
 | none => rfl
 | some s =>
  unfold addS skipS
  simp only [Option.map_some]
  split <;> rfl
theorem nameNode_eq (st : RdSt) : addS (nmS sg st) ⟨1, nmT sg st, [], false⟩ = nameNodeS sg st := by
 unfold nmS nmT nameNodeS
 split
 ·exact add_skip _ _
 ·rfl
theorem leaf_eq (k : Int) (st : RdSt) : addS (skipS st) ⟨k, (sgAt sg st 0).2.1, [], false⟩ = leafS sg k st := add_skip _ _
theorem noteS_eq (st : RdSt) : addS (skipS st) ⟨19, (sgAt sg st 0).2.1, [], false⟩ = noteS sg false st := add_skip _ _
theorem take_yes (h : isM sg st m = true) : takeS sg st m = skipS st := if_pos h
theorem take_no (h : isM sg st m = false) : takeS sg st m = none := if_neg (by rw [h]; decide)
def blankK (k : Int) (b : Bool) (st : RdSt) : RdSt := st.map (fun s => ⟨s.at_, s.nodes.modify k.toNat (fun x => ⟨x.kind, x.text, x.kids, b⟩)⟩)
def blankR (b : Bool) (r : PR) : PR := (r.1, blankK r.1 b r.2)
theorem modify_last {α : Type} (l : List α) (x : α) (f : α → α) : (l ++ [x]).modify l.length f = l ++ [f x] := by
 induction l with
 | nil => rfl
 | cons a l ih => simpa using ih
theorem add_blank (st : RdSt) (k : Int) (t : ByteArray) (ks : List Int) (b : Bool) : addS st ⟨k, t, ks, b⟩ = blankR b (addS st ⟨k, t, ks, false⟩) := by
 cases st with
 | none => rfl
 | some s =>
  unfold addS blankR blankK
  simp only
  split
  ·rfl
  ·simp only [Option.map_some, Int.toNat_natCast]
   rw [modify_last]
theorem skip_blank (k : Int) (b : Bool) (st : RdSt) : skipS (blankK k b st) = blankK k b (skipS st) := by cases st <;> rfl
theorem note_blank (b : Bool) (st : RdSt) : noteS sg b st = blankR b (noteS sg false st) := by
 unfold noteS
 rw [add_blank st 19 _ [] b]
 unfold blankR
 simp only [skip_blank]
variable {E : Md → Nat → RdSt → PR} {N : Nat}
theorem var_blank (d : Nat) (b : Bool) (st : RdSt) : varS sg E d b st = blankR b (varS sg E d false st) := by
 unfold varS
 split
 ·exact add_blank _ _ _ _ _
 ·exact add_blank _ _ _ _ _
theorem stmt_blank (d : Nat) (b : Bool) (st : RdSt) : stmtS sg E d b st = blankR b (stmtS sg E d false st) := by
 unfold stmtS
 split
 ·exact note_blank b st
 ·split
  ·exact var_blank d b _
  ·split
   ·unfold leaveS
    split
    ·exact add_blank _ _ _ _ _
    ·exact add_blank _ _ _ _ _
   ·split
    ·unfold ifS
     simp only
     split
     ·exact add_blank _ _ _ _ _
     ·exact add_blank _ _ _ _ _
    ·split
     ·exact add_blank _ _ _ _ _
     ·split
      ·exact add_blank _ _ _ _ _
      ·exact add_blank _ _ _ _ _
theorem mem_blank (b : Bool) (st : RdSt) : memS sg E N b st = blankR b (memS sg E N false st) := by
 unfold memS
 split
 ·exact note_blank b st
 ·split
  ·exact var_blank 0 b _
  ·exact add_blank _ _ _ _ _
theorem top_blank (b : Bool) (st : RdSt) : topS sg E N b st = blankR b (topS sg E N false st) := by
 unfold topS
 split
 ·exact note_blank b st
 ·split
  ·exact var_blank 0 b _
  ·split
   ·exact add_blank _ _ _ _ _
   ·exact add_blank _ _ _ _ _
theorem expr_blank (f : Nat) (d : Nat) (b : Bool) (st : RdSt) : exprF sg N f (.stmt b) d st = blankR b (exprF sg N f (.stmt false) d st) := by
 cases f with
 | zero => rfl
 | succ f => exact stmt_blank d b st
def MarksOk (sg : List SgP) : Prop := ∀ d ∈ sg, ((d.2.1.toList == [41]) = true ∨ (d.2.1.toList == [61, 62]) = true ∨ (d.2.1.toList == [44]) = true) → d.1 = 4
theorem sgAt_ok (hm : MarksOk sg) {i : Nat} (h : ((sgAt sg st i).2.1.toList == [41]) = true ∨ ((sgAt sg st i).2.1.toList == [61, 62]) = true ∨ ((sgAt sg st i).2.1.toList == [44]) = true) : (sgAt sg st i).1 = 4 := by
 have hz : ∀ c : List UInt8, c ≠ [] → ¬ (sgZero.2.1.toList == c) = true := fun c hc e => by
  have h1 : sgZero.2.1.toList = [] := by rw [ByteArray.toList_eq]
  rw [h1] at e
  exact hc (eq_of_beq e).symm
 unfold sgAt at h ⊢
 cases st with
 | none =>
  rcases h with h | h | h
  ·exact absurd h (hz _ (by decide))
  ·exact absurd h (hz _ (by decide))
  ·exact absurd h (hz _ (by decide))
 | some s =>
  simp only at h ⊢
  cases hx : sg[s.at_ + i]? with
  | none =>
   rw [hx] at h
   rcases h with h | h | h
   ·exact absurd h (hz _ (by decide))
   ·exact absurd h (hz _ (by decide))
   ·exact absurd h (hz _ (by decide))
  | some d =>
   rw [hx] at h
   exact hm d (List.mem_of_getElem? hx) h
end
def Stops (sg : List SgP) (p : Nat) : Prop := ∃ d, sg[p]? = some d ∧ d.1 = 4 ∧ (d.2.1.toList == [44]) = true
def Near (p : Nat) (st : RdSt) : Prop := ∀ s, st = some s → s.at_ = p
section
variable {sg : List SgP} {p : Nat} {st : RdSt} {E : Md → Nat → RdSt → PR} {N : Nat}
theorem stops_at (hs : Stops sg p) (hn : Near p st) (h : st ≠ none) : (sgAt sg st 0).1 = 4 ∧ (sgAt sg st 0).2.1.toList = [44] := by
 obtain ⟨d, h1, h2, h3⟩ := hs
 cases st with
 | none => exact absurd rfl h
 | some s =>
  have := hn s rfl
  subst this
  unfold sgAt
  simp only [Nat.add_zero]
  rw [h1]
  exact ⟨h2, eq_of_beq h3⟩
theorem stops_isM (hs : Stops sg p) (hn : Near p st) {m : ByteArray} (hm : m.toList ≠ [44]) : isM sg st m = false := by
 by_cases h : st = none
 ·subst h; rfl
 ·unfold isM
  rw [(stops_at hs hn h).2]
  have : ([44] == m.toList) = false := by rw [beq_eq_false_iff_ne]; exact fun e => hm e.symm
  rw [this, Bool.and_false]
theorem lit_ne {l : List UInt8} (h : l ≠ [44]) : (⟨l.toArray⟩ : ByteArray).toList ≠ [44] := by rw [ByteArray.toList_eq]; simpa using h
theorem near_none : Near p none := fun s e => by cases e
theorem stops_mark (hs : Stops sg p) (hn : Near p st) : ∀ l : List ByteArray, (∀ m ∈ l, m.toList ≠ [44]) → markF_ sg st l = noT := by
 intro l
 induction l with
 | nil => intro _; rfl
 | cons a l ih =>
  intro h
  unfold markF_
  rw [stops_isM hs hn (h a (by simp)), if_neg (by decide)]
  exact ih (fun m hm => h m (by simp [hm]))
theorem marks_ok (l : Nat) : ∀ m ∈ marksOf l, m.toList ≠ [44] := by
 unfold marksOf
 intro m hm
 split at hm
 ·simp at hm; subst hm; exact lit_ne (l := [124, 124]) (by decide)
 ·split at hm
  ·simp at hm; subst hm; exact lit_ne (l := [38, 38]) (by decide)
  ·split at hm
   ·simp at hm; subst hm; exact lit_ne (l := [61, 61]) (by decide)
   ·split at hm
    ·simp at hm; subst hm; exact lit_ne (l := [60]) (by decide)
    ·split at hm
     ·simp at hm
      rcases hm with rfl | rfl
      ·exact lit_ne (l := [43]) (by decide)
      ·exact lit_ne (l := [45]) (by decide)
     ·simp at hm; subst hm; exact lit_ne (l := [42]) (by decide)
theorem stops_chain (hs : Stops sg p) (hn : Near p st) (one : RdSt → PR) (l n : Nat) (k : Int) : chainF sg one l N n k st = (k, st) := by
 cases n with
 | zero => rfl
 | succ n => unfold chainF; rw [show markS sg st l = noT from stops_mark hs hn _ (marks_ok l)]; exact if_pos noT_nil
theorem stops_end (hs : Stops sg p) (hn : Near p st) (one : RdSt → PR) (n : Nat) (k : Int) : endF sg one N n k st = (k, st) := by
 cases n with
 | zero => rfl
 | succ n =>
  unfold endF
  split
  ·rfl
  ·rw [stops_isM hs hn (lit_ne (l := [40]) (by decide)), if_neg (by decide), stops_isM hs hn (lit_ne (l := [46]) (by decide)), if_neg (by decide)]
def Md.val : Md → Bool
 | .stmt _ => false
 | .block => false
 | _ => true
theorem leaf_near (k : Int) {s : PS} (hp : s.at_ + 1 = p) : Near p (leafS sg k (some s)).2 := by
 intro t ht
 unfold leafS addS at ht
 simp only at ht
 split at ht
 ·cases ht
 ·have := Option.some.inj ht
  rw [← this]; exact hp
theorem value_comma {s : PS} (hs : Stops sg (s.at_ + 1)) (hn : nameS sg (some s) 0 = true) : ∀ (f : Nat) (m : Md) (d : Nat), m.val = true → Near (s.at_ + 1) (exprF sg N f m d (some s)).2 := by
 intro f
 induction f with
 | zero => intro m d _; exact near_none
 | succ f ih =>
  intro m d hm
  show Near _ (stepM sg (exprF sg N f) N m d (some s)).2
  cases m with
  | value =>
   show Near _ (valueS sg (exprF sg N f) N d (some s)).2
   unfold valueS
   rw [stops_isM hs (ih .pick d rfl) (lit_ne (l := [46, 46]) (by decide)), if_neg (by decide)]
   exact ih .pick d rfl
  | pick =>
   show Near _ (pickS sg (exprF sg N f) d (some s)).2
   have hq : Near (s.at_ + 1) (exprF sg N f (.chain 0) (d + 1) (nestS d (some s))).2 := by
    unfold nestS
    split
    ·rw [exprF_none]; exact near_none
    ·exact ih (.chain 0) (d + 1) rfl
   unfold pickS
   simp only
   rw [stops_isM hs hq (lit_ne (l := [63]) (by decide)), if_neg (by decide)]
   exact hq
  | chain l =>
   show Near _ (chainS sg (exprF sg N f) N l d (some s)).2
   unfold chainS
   split
   ·exact ih .end_ d rfl
   ·rw [stops_chain hs (ih (.chain (l + 1)) d rfl)]
    exact ih (.chain (l + 1)) d rfl
  | end_ =>
   show Near _ (endS sg (exprF sg N f) N d (some s)).2
   unfold endS
   rw [stops_end hs (ih .base d rfl)]
   exact ih .base d rfl
  | base =>
   show Near _ (baseS sg (exprF sg N f) N d (some s)).2
   have h1 : (sgAt sg (some s) 0).1 = 1 := by
    have := hn
    unfold nameS at this
    simp only [Bool.and_eq_true] at this
    exact eq_of_beq this.1
   unfold baseS
   rw [if_pos h1]
   unfold nameNodeS
   rw [if_pos hn]
   exact leaf_near 1 rfl
  | stmt b => cases hm
  | block => cases hm
theorem value_key {s : PS} (h1 : (sgAt sg (some s) 0).1 = 1) (hn : nameS sg (some s) 0 = false) : ∀ (f : Nat) (m : Md) (d : Nat), m.val = true → (exprF sg N f m d (some s)).2 = none := by
 intro f
 induction f with
 | zero => intro m d _; rfl
 | succ f ih =>
  intro m d hm
  show (stepM sg (exprF sg N f) N m d (some s)).2 = none
  cases m with
  | value =>
   show (valueS sg (exprF sg N f) N d (some s)).2 = none
   unfold valueS
   rw [ih .pick d rfl, isM_none, if_neg (by decide)]
   exact ih .pick d rfl
  | pick =>
   show (pickS sg (exprF sg N f) d (some s)).2 = none
   have hq : (exprF sg N f (.chain 0) (d + 1) (nestS d (some s))).2 = none := by
    unfold nestS
    split
    ·rw [exprF_none]
    ·exact ih (.chain 0) (d + 1) rfl
   unfold pickS
   simp only
   rw [hq, isM_none, if_neg (by decide)]
   exact hq
  | chain l =>
   show (chainS sg (exprF sg N f) N l d (some s)).2 = none
   unfold chainS
   split
   ·exact ih .end_ d rfl
   ·rw [ih (.chain (l + 1)) d rfl, chainF_none]
  | end_ =>
   show (endS sg (exprF sg N f) N d (some s)).2 = none
   unfold endS
   rw [ih .base d rfl, endF_none]
  | base =>
   show (baseS sg (exprF sg N f) N d (some s)).2 = none
   unfold baseS
   rw [if_pos h1]
   unfold nameNodeS
   rw [hn]
   rfl
  | stmt b => cases hm
  | block => cases hm
end
def arrFin (sg : List SgP) (i : Nat) : Bool :=
 decide (i + 1 < sg.length) && (((sg[i]?).getD sgZero).2.1.toList == [41]) && (((sg[i]?).getD sgZero).1 == 4) && (((sg[i + 1]?).getD sgZero).2.1.toList == [61, 62]) && (((sg[i + 1]?).getD sgZero).1 == 4)
def arrT (sg : List SgP) : Nat → Nat → Bool
 | 0, i => arrFin sg i
 | f + 1, i => if i + 1 < sg.length ∧ ((sg[i]?).getD sgZero).1 = 1 then (if ((sg[i + 1]?).getD sgZero).2.1.toList == [44] then arrT sg f (i + 2) else arrFin sg (i + 1)) else arrFin sg i
def arrB (sg : List SgP) (st : RdSt) : Bool := isM sg st ⟨#[40]⟩ && (match st with | none => false | some s => arrT sg (sg.length + 1) (s.at_ + 1))
section
variable {sg : List SgP} {s : PS}
theorem sgAt_some (i : Nat) : sgAt sg (some s) i = (sg[s.at_ + i]?).getD sgZero := rfl
theorem zero_text {c : List UInt8} (hc : c ≠ []) : ¬ (sgZero.2.1.toList == c) = true := fun e => by
 have h1 : sgZero.2.1.toList = [] := by rw [ByteArray.toList_eq]
 rw [h1] at e
 exact hc (eq_of_beq e).symm
theorem text_lt {i : Nat} {c : List UInt8} (hc : c ≠ []) (h : (((sg[i]?).getD sgZero).2.1.toList == c) = true) : i < sg.length := by
 rcases Nat.lt_or_ge i sg.length with hl | hl
 ·exact hl
 ·rw [List.getElem?_eq_none hl] at h
  exact absurd h (zero_text hc)
theorem kind_ok (hm : MarksOk sg) {i : Nat} (h : (((sg[i]?).getD sgZero).2.1.toList == [41]) = true ∨ (((sg[i]?).getD sgZero).2.1.toList == [61, 62]) = true ∨ (((sg[i]?).getD sgZero).2.1.toList == [44]) = true) : ((sg[i]?).getD sgZero).1 = 4 := by
 have := sgAt_ok (sg := sg) (st := some ⟨i, []⟩) hm (i := 0) (by simpa [sgAt] using h)
 simpa [sgAt] using this
def fnT (sg : List SgP) (st : RdSt) (f i : Nat) : Bool := ((sgAt sg st (fnF sg st f i)).2.1.toList == [41]) && ((sgAt sg st (fnF sg st f i + 1)).2.1.toList == [61, 62])
theorem fin_eq (hm : MarksOk sg) (i : Nat) : arrFin sg i = ((((sg[i]?).getD sgZero).2.1.toList == [41]) && (((sg[i + 1]?).getD sgZero).2.1.toList == [61, 62])) := by
 unfold arrFin
 cases h1 : (((sg[i]?).getD sgZero).2.1.toList == [41]) with
 | false => simp
 | true =>
  cases h2 : (((sg[i + 1]?).getD sgZero).2.1.toList == [61, 62]) with
  | false => simp
  | true =>
   rw [kind_ok hm (.inl h1), kind_ok hm (.inr (.inl h2)), decide_eq_true (text_lt (by decide) h2)]
   rfl
theorem fn_arr (hm : MarksOk sg) : ∀ (f i : Nat), fnT sg (some s) f i = true → arrT sg f (s.at_ + i) = true := by
 intro f
 induction f with
 | zero =>
  intro i h
  unfold arrT
  rw [fin_eq hm]
  exact h
 | succ f ih =>
  intro i h
  unfold fnT fnF at h
  unfold arrT
  cases hn : nameS sg (some s) i with
  | false =>
   rw [hn, if_neg (by decide)] at h
   have hk : ¬ (s.at_ + i + 1 < sg.length ∧ ((sg[s.at_ + i]?).getD sgZero).1 = 1) := fun e => by
    have h1 : (sgAt sg (some s) i).1 = 4 := sgAt_ok hm (.inl (by simp only [Bool.and_eq_true] at h; exact h.1))
    rw [sgAt_some] at h1
    omega
   rw [if_neg hk, fin_eq hm]
   exact h
  | true =>
   rw [hn, if_pos rfl] at h
   have h1 : ((sg[s.at_ + i]?).getD sgZero).1 = 1 := by
    unfold nameS at hn
    simp only [Bool.and_eq_true] at hn
    exact eq_of_beq hn.1
   cases hc : ((sgAt sg (some s) (i + 1)).2.1.toList == [44]) with
   | true =>
    have hc' : (((sg[s.at_ + i + 1]?).getD sgZero).2.1.toList == [44]) = true := hc
    rw [hc, if_pos rfl] at h
    rw [if_pos ⟨text_lt (by decide) hc', h1⟩, hc', if_pos rfl]
    exact ih (i + 2) h
   | false =>
    have hc' : (((sg[s.at_ + i + 1]?).getD sgZero).2.1.toList == [44]) = false := hc
    rw [hc, if_neg (by decide)] at h
    have hl : s.at_ + i + 1 < sg.length := by
     simp only [Bool.and_eq_true] at h
     exact text_lt (c := [41]) (by decide) h.1
    rw [if_pos ⟨hl, h1⟩, hc', if_neg (by decide), fin_eq hm]
    exact h
theorem isM_none' {m : ByteArray} : isM sg none m = false := rfl
theorem arr_list (hm : MarksOk sg) : ∀ (n f i : Nat) (ks : List Int) (nodes : List PN), arrT sg f (s.at_ + i) = true → fnT sg (some s) f i = false →
  takeS sg (listF sg (nameNodeS sg) ⟨#[41]⟩ n ks (some ⟨s.at_ + i, nodes⟩)).2 ⟨#[41]⟩ = none := by
 intro n
 induction n with
 | zero =>
  intro f i ks nodes ha hf
  unfold listF
  refine take_no ?_
  cases hM : isM sg (some ⟨s.at_ + i, nodes⟩) ⟨#[41]⟩ with
  | false => rfl
  | true =>
   exfalso
   unfold isM at hM
   simp only [Bool.and_eq_true] at hM
   have h4 : (sgAt sg (some s) i).1 = 4 := eq_of_beq hM.1
   have hn : nameS sg (some s) i = false := by unfold nameS; rw [h4]; rfl
   have hk : ¬ (s.at_ + i + 1 < sg.length ∧ ((sg[s.at_ + i]?).getD sgZero).1 = 1) := fun e => by rw [sgAt_some] at h4; omega
   cases f with
   | zero => unfold arrT at ha; rw [fin_eq hm] at ha; exact absurd (hf.symm.trans ha) (by decide)
   | succ f =>
    unfold arrT at ha
    rw [if_neg hk, fin_eq hm] at ha
    unfold fnT fnF at hf
    rw [hn, if_neg (by decide)] at hf
    exact absurd (hf.symm.trans ha) (by decide)
 | succ n ih =>
  intro f i ks nodes ha hf
  unfold listF
  rw [if_neg (show ¬ (some (⟨s.at_ + i, nodes⟩ : PS)).isNone = true by simp)]
  cases f with
  | zero => unfold arrT at ha; rw [fin_eq hm] at ha; exact absurd (hf.symm.trans ha) (by decide)
  | succ f =>
   unfold arrT at ha
   unfold fnT fnF at hf
   have hq : sgAt sg (some ⟨s.at_ + i, nodes⟩) 0 = (sg[s.at_ + i]?).getD sgZero := rfl
   by_cases hk : s.at_ + i + 1 < sg.length ∧ ((sg[s.at_ + i]?).getD sgZero).1 = 1
   ·rw [if_pos hk] at ha
    have hM : isM sg (some ⟨s.at_ + i, nodes⟩) ⟨#[41]⟩ = false := by unfold isM; rw [hq, hk.2]; rfl
    rw [hM, if_neg (by decide)]
    cases hn : nameS sg (some s) i with
    | false =>
     have hn' : nameNodeS sg (some ⟨s.at_ + i, nodes⟩) = (0, none) := by
      unfold nameNodeS; rw [show nameS sg (some ⟨s.at_ + i, nodes⟩) 0 = nameS sg (some s) i from rfl, hn]; rfl
     rw [hn']
     simp only [isM_none', Bool.false_eq_true, if_false]
     exact takeS_none
    | true =>
     rw [hn, if_pos rfl] at hf
     have hn' : nameNodeS sg (some ⟨s.at_ + i, nodes⟩) = leafS sg 1 (some ⟨s.at_ + i, nodes⟩) := by
      unfold nameNodeS; rw [show nameS sg (some ⟨s.at_ + i, nodes⟩) 0 = nameS sg (some s) i from rfl, hn]; rfl
     rw [hn']
     cases hl : (leafS sg 1 (some ⟨s.at_ + i, nodes⟩)).2 with
     | none =>
      simp only [isM_none', Bool.false_eq_true, if_false]
      exact takeS_none
     | some t =>
      obtain ⟨a', ns⟩ := t
      have hat : a' = s.at_ + i + 1 := leaf_near (sg := sg) 1 (s := ⟨s.at_ + i, nodes⟩) rfl _ hl
      subst hat
      cases hc : (((sg[s.at_ + i + 1]?).getD sgZero).2.1.toList == [44]) with
      | true =>
       rw [hc, if_pos rfl] at ha
       have hc' : ((sgAt sg (some s) (i + 1)).2.1.toList == [44]) = true := hc
       rw [hc', if_pos rfl] at hf
       have hM2 : isM sg (some ⟨s.at_ + i + 1, ns⟩) ⟨#[44]⟩ = true := by
        unfold isM
        rw [show sgAt sg (some ⟨s.at_ + i + 1, ns⟩) 0 = (sg[s.at_ + i + 1]?).getD sgZero from rfl, kind_ok hm (.inr (.inr hc)), show (⟨#[44]⟩ : ByteArray).toList = [44] by rw [ByteArray.toList_eq], hc]
        rfl
       rw [if_pos hM2]
       exact ih f (i + 2) _ ns ha hf
      | false =>
       exfalso
       rw [hc, if_neg (by decide), fin_eq hm] at ha
       have hc' : ((sgAt sg (some s) (i + 1)).2.1.toList == [44]) = false := hc
       rw [hc', if_neg (by decide)] at hf
       exact absurd (hf.symm.trans ha) (by decide)
   ·exfalso
    rw [if_neg hk, fin_eq hm] at ha
    cases hn : nameS sg (some s) i with
    | false =>
     rw [hn, if_neg (by decide)] at hf
     exact absurd (hf.symm.trans ha) (by decide)
    | true =>
     have h1 : ((sg[s.at_ + i]?).getD sgZero).1 = 1 := by
      unfold nameS at hn
      simp only [Bool.and_eq_true] at hn
      exact eq_of_beq hn.1
     have h4 := kind_ok hm (i := s.at_ + i) (.inl (by simp only [Bool.and_eq_true] at ha; exact ha.1))
     omega
end
section
variable {sg : List SgP} {E : Md → Nat → RdSt → PR} {N f : Nat}
theorem arr_differ (hm : MarksOk sg) (d : Nat) (st : RdSt) (ha : arrB sg st = true) (hf : fnB sg st = false) : fnS sg (exprF sg N f) N d st = (0, none) ∧ parS sg (exprF sg N f) d st = (0, none) := by
 unfold arrB at ha
 simp only [Bool.and_eq_true] at ha
 obtain ⟨h40, ha⟩ := ha
 cases st with
 | none => cases ha
 | some s =>
  simp only at ha
  have hT : fnT sg (some s) (sg.length + 1) 1 = false := hf
  constructor
  ·unfold fnS
   simp only
   rw [take_yes h40]
   have := arr_list hm N (sg.length + 1) 1 [] s.nodes ha hT
   rw [show skipS (some s) = some ⟨s.at_ + 1, s.nodes⟩ from rfl, this, takeS_none, exprF_none]
   rfl
  ·unfold parS
   simp only
   have key : takeS sg (exprF sg N f .value d (skipS (some s))).2 ⟨#[41]⟩ = none := by
    rw [show skipS (some s) = some ⟨s.at_ + 1, s.nodes⟩ from rfl]
    unfold arrT at ha
    unfold fnT fnF at hT
    by_cases hk : s.at_ + 1 + 1 < sg.length ∧ ((sg[s.at_ + 1]?).getD sgZero).1 = 1
    ·rw [if_pos hk] at ha
     cases hn : nameS sg (some s) 1 with
     | false =>
      rw [value_key (s := ⟨s.at_ + 1, s.nodes⟩) hk.2 hn f .value d rfl]
      exact takeS_none
     | true =>
      rw [hn, if_pos rfl] at hT
      cases hc : (((sg[s.at_ + 1 + 1]?).getD sgZero).2.1.toList == [44]) with
      | true =>
       have hlt := hk.1
       have hs : Stops sg (s.at_ + 1 + 1) := by
        refine ⟨sg[s.at_ + 1 + 1], List.getElem?_eq_getElem hlt, ?_, ?_⟩
        ·have := kind_ok hm (i := s.at_ + 1 + 1) (.inr (.inr hc))
         rwa [List.getElem?_eq_getElem hlt] at this
        ·rwa [List.getElem?_eq_getElem hlt] at hc
       exact take_no (stops_isM hs (value_comma (s := ⟨s.at_ + 1, s.nodes⟩) hs hn f .value d rfl) (lit_ne (l := [41]) (by decide)))
      | false =>
       exfalso
       rw [hc, if_neg (by decide), fin_eq hm] at ha
       have hc' : ((sgAt sg (some s) (1 + 1)).2.1.toList == [44]) = false := hc
       rw [hc', if_neg (by decide)] at hT
       exact absurd (hT.symm.trans ha) (by decide)
    ·exfalso
     rw [if_neg hk, fin_eq hm] at ha
     cases hn : nameS sg (some s) 1 with
     | false =>
      rw [hn, if_neg (by decide)] at hT
      exact absurd (hT.symm.trans ha) (by decide)
     | true =>
      have h1 : ((sg[s.at_ + 1]?).getD sgZero).1 = 1 := by
       unfold nameS at hn
       simp only [Bool.and_eq_true] at hn
       exact eq_of_beq hn.1
      have h4 := kind_ok hm (i := s.at_ + 1) (.inl (by simp only [Bool.and_eq_true] at ha; exact ha.1))
      omega
   rw [key]
   rfl
theorem arr_same (hm : MarksOk sg) (st : RdSt) (h40 : isM sg st ⟨#[40]⟩ = true) (hf : fnB sg st = true) : arrB sg st = true := by
 unfold arrB
 rw [h40, Bool.true_and]
 cases st with
 | none => exact absurd h40 (by rw [isM_none]; decide)
 | some s => exact fn_arr hm _ 1 hf
end
structure RC where
 imp : Bool
 T : Nat
 A : Option Addr
 n : Nat
 c : Nat
 sz : Int
 M : Value
 sg : List SgP
 w0 : World
 U : Nat → Prop
def RC.ty (R : RC) : TypeId := if R.imp = true then 105 else 62
def RC.cells (R : RC) (a d : Nat) (b : Bool) (v : Value) : Array Value :=
 if R.imp = true then #[.slice R.A R.n R.c, .int .i64 R.sz, .int .i64 a, .int .i64 d, .bool b, v, R.M] else #[.slice R.A R.n R.c, .int .i64 a, .bool b, .int .i64 d, v]
structure RC.Ok (R : RC) : Prop where
 len : R.sg.length = R.n
 most : R.n ≤ 3000
 rd : Rd R.w0 4 R.A R.n (R.sg.flatMap sgCells)
 low : R.w0.heap.size ≤ R.T
theorem RC.ty_node (R : RC) : R.ty ≠ 36 := by unfold RC.ty; cases R.imp <;> decide
theorem RC.ty_int (R : RC) : R.ty ≠ 3 := by unfold RC.ty; cases R.imp <;> decide
def KidsIn (w : World) (B : Nat) (U : Nat → Prop) (d : Nd) : Prop := (d.cnt ≤ d.cap ∧ ∀ g, d.adr.map (·.block) = some g → ¬ U g) ∧ Mine w B 3 1 d.adr d.cnt d.cap (intCells d.kids)
def RdC (R : RC) (a d : Nat) (b : Bool) (AN : Option Addr) (cN : Nat) (l : List Nd) (w : World) : Prop :=
 Blk w R.T R.ty (R.cells a d b (.slice AN l.length cN)) ∧ Mine w R.w0.heap.size 36 4 AN l.length cN (l.flatMap nodeCells) ∧ ((∀ x ∈ l, KidsIn w R.w0.heap.size R.U x) ∧ ∀ g, R.U g → g < w.heap.size) ∧ l.length ≤ 300 ∧ a ≤ R.n ∧ Below R.w0.heap.size R.w0 w ∧ R.Ok
def StOk : RdSt → Bool → Nat → List Nd → Prop
 | none, b, _, _ => b = true
 | some s, b, a, l => b = false ∧ s.at_ = a ∧ s.nodes = l.map Nd.pn
def RdI (R : RC) (d : Nat) (st : RdSt) (row : Option Nat) (w : World) : Prop :=
 ∃ a b AN cN l, RdC R a d b AN cN l w ∧ StOk st b a l ∧ row = AN.map (·.block)
def Kr (T : Nat) (row : Option Nat) (w : World) (row' : Option Nat) (w' : World) : Prop :=
 w.heap.size ≤ w'.heap.size ∧ (row' = row ∨ ∃ g, row' = some g ∧ w.heap.size ≤ g) ∧ ∀ g, g < w.heap.size → g ≠ T → some g ≠ row → w'.heap[g]? = w.heap[g]?
section
variable {T : Nat} {row row' row2 : Option Nat} {w w' w2 : World}
theorem Kr.refl (T : Nat) (row : Option Nat) (w : World) : Kr T row w row w := ⟨Nat.le_refl _, .inl rfl, fun _ _ _ _ => rfl⟩
theorem Kr.trans (h : Kr T row w row' w') (k : Kr T row' w' row2 w2) : Kr T row w row2 w2 := by
 obtain ⟨h1, h2, h3⟩ := h
 obtain ⟨k1, k2, k3⟩ := k
 refine ⟨Nat.le_trans h1 k1, ?_, fun g hg ht hr => ?_⟩
 ·rcases k2 with rfl | ⟨g, rfl, hg⟩
  ·exact h2
  ·exact .inr ⟨g, rfl, Nat.le_trans h1 hg⟩
 ·refine (k3 g (by omega) ht ?_).trans (h3 g hg ht hr)
  rcases h2 with rfl | ⟨g2, rfl, hg2⟩
  ·exact hr
  ·intro e; injection e with e; omega
theorem Kr.below (h : Kr T row w row' w') (hb : Below w'.heap.size w' w2) : Kr T row w row' w2 :=
 h.trans ⟨hb.size, .inl rfl, fun g hg _ _ => hb.block g hg⟩
theorem Kr.of_below (hb : Below w.heap.size w w2) : Kr T row w row w2 := (Kr.refl T row w).below hb
theorem Kr.size (h : Kr T row w row' w') : w.heap.size ≤ w'.heap.size := h.1
theorem Blk.kr {g : Nat} {t : TypeId} {cs : Array Value} (h : Blk w g t cs) (k : Kr T row w row' w') (h1 : g ≠ T) (h2 : some g ≠ row) : Blk w' g t cs := (k.2.2 g h.lt h1 h2).trans h
theorem Kr.fresh (k : Kr T row w row' w') {g : Nat} (h : some g ≠ row) (hg : g < w.heap.size) : some g ≠ row' := by
 rcases k.2.1 with rfl | ⟨g2, rfl, h2⟩
 ·exact h
 ·intro e; injection e with e; omega
end
theorem mine_blk' {w : World} {A : Option Addr} {n c : Nat} {B : Nat} {e : TypeId} {sz : Nat} {xs : List Value} (h : Mine w B e sz A n c xs) {g : Nat} (hg : A.map (·.block) = some g) : ∃ cs, Blk w g e cs := by
 rcases h.own with ⟨rfl, _⟩ | ⟨g', rfl, _, _, _, rest, hb, _⟩
 ·simp at hg
 ·simp at hg; subst hg; exact ⟨_, hb⟩
theorem sgn_at {w : World} {A : Option Addr} {n k : Nat} {l : List SgP} {d : SgP} (h : Rd w 4 A n (l.flatMap sgCells)) (hk : k < n) (hd : l[k]? = some d) :
  ∃ b off, A = some ⟨b, off, none⟩ ∧ b < w.heap.size ∧ w.cell? ⟨b, off + k * 4, none⟩ = some (.int .i64 d.1) ∧ w.cell? ⟨b, off + k * 4 + 1, none⟩ = some (.string d.2.1) ∧ w.cell? ⟨b, off + k * 4 + 2, none⟩ = some (.int .i64 d.2.2.1) ∧ w.cell? ⟨b, off + k * 4 + 3, none⟩ = some (.bool d.2.2.2) := by
 obtain ⟨b, off, rfl, hb, hc⟩ := h.at_ (by omega)
 have g := fun (j : Nat) (v : Value) (hj : (sgCells d)[j]? = some v) => hc (k * 4 + j) v (flat_get sgCells sgCells_len hd hj)
 exact ⟨b, off, rfl, hb, g 0 _ rfl, g 1 _ rfl, g 2 _ rfl, g 3 _ rfl⟩
theorem blk_ne {w : World} {g g' : Nat} {t t' : TypeId} {cs cs' : Array Value} (h : Blk w g t cs) (h' : Blk w g' t' cs') (ht : t ≠ t') : g ≠ g' := by
 rintro rfl
 unfold Blk at h h'
 rw [h] at h'
 injection h' with h'
 injection h' with _ h2
 exact ht h2
section
variable {R : RC} {a d : Nat} {b : Bool} {AN : Option Addr} {cN : Nat} {l : List Nd} {st : RdSt} {row row' : Option Nat} {w w' : World}
theorem KidsIn.next {B : Nat} {U : Nat → Prop} {x : Nd} (h : KidsIn w B U x) (hb : Below w.heap.size w w') : KidsIn w' B U x := ⟨h.1, h.2.next hb⟩
theorem RdC.next (h : RdC R a d b AN cN l w) (hb : Below w.heap.size w w') : RdC R a d b AN cN l w' := by
 obtain ⟨h1, h2, h3, h4, h5, h6, h7⟩ := h
 exact ⟨h1.next hb, h2.next hb, ⟨fun x hx => (h3.1 x hx).next hb, fun g hg => Nat.lt_of_lt_of_le (h3.2 g hg) hb.size⟩, h4, h5, below_next h6 hb, h7⟩
theorem RdI.next (h : RdI R d st row w) (hb : Below w.heap.size w w') : RdI R d st row w' := by
 obtain ⟨a, b, AN, cN, l, h1, h2⟩ := h
 exact ⟨a, b, AN, cN, l, h1.next hb, h2⟩
theorem RdI.alloc (h : RdI R d st row w) (o : Obj) : RdI R d st row (w.alloc o) := h.next ((Below.refl _ _).alloc (Nat.le_refl _) o)
theorem RdI.drew (h : RdI R d st row w) : RdI R d st row w.drew := h.next (Below.refl _ _).drew
theorem RdI.lt (h : RdI R d st row w) : R.T < w.heap.size := by obtain ⟨a, b, AN, cN, l, h1, h2⟩ := h; exact h1.1.lt
theorem RdI.ok (h : RdI R d st row w) : R.Ok := by obtain ⟨a, b, AN, cN, l, ⟨_, _, _, _, _, _, h1⟩, h2⟩ := h; exact h1
theorem RdI.old (h : RdI R d st row w) : Below R.w0.heap.size R.w0 w := by obtain ⟨a, b, AN, cN, l, ⟨_, _, _, _, _, h1, _⟩, h2⟩ := h; exact h1
theorem RdI.le (h : RdI R d st row w) {s : PS} (e : st = some s) : s.at_ ≤ R.n ∧ s.nodes.length ≤ 300 := by
 subst e
 obtain ⟨a, b, AN, cN, l, ⟨_, _, _, h4, h5, _, _⟩, ⟨_, rfl, h2⟩, _⟩ := h
 exact ⟨h5, by rw [h2, List.length_map]; exact h4⟩
theorem RdC.rowB (h : RdC R a d b AN cN l w) {g : Nat} (hg : some g = AN.map (·.block)) : ∃ cs, Blk w g 36 cs := mine_blk' h.2.1 hg.symm
theorem RdI.rowB (h : RdI R d st row w) {g : Nat} (hg : some g = row) : ∃ cs, Blk w g 36 cs := by
 obtain ⟨a, b, AN, cN, l, h1, h2, rfl⟩ := h
 exact h1.rowB hg
theorem RdI.row_lt (h : RdI R d st row w) {g : Nat} (hg : some g = row) : g < w.heap.size := by
 obtain ⟨cs, hk⟩ := h.rowB hg; exact hk.lt
theorem RdI.keep (h : RdI R d st row w) (k : Kr R.T row w row' w') {g : Nat} {t : TypeId} {cs : Array Value} (hk : Blk w g t cs) (h1 : t ≠ R.ty) (h2 : t ≠ 36) : Blk w' g t cs := by
 obtain ⟨a, b, AN, cN, l, hc, _, hr⟩ := id h
 refine hk.kr k (blk_ne hk hc.1 h1) (fun e => ?_)
 obtain ⟨cs', hk'⟩ := h.rowB e
 exact blk_ne hk hk' h2 rfl
theorem RdI.keepM (h : RdI R d st row w) (k : Kr R.T row w row' w') {B : Nat} {t : TypeId} {s : Nat} {A : Option Addr} {n c : Nat} {xs : List Value} (hm : Mine w B t s A n c xs) (h1 : t ≠ R.ty) (h2 : t ≠ 36) : Mine w' B t s A n c xs := by
 have hl := hm.len
 rcases hm.own with ⟨rfl, rfl, rfl⟩ | ⟨g, rfl, hB, hn, hc, rest, hb, hs⟩
 ·exact ⟨hl, .inl ⟨rfl, rfl⟩⟩
 ·exact Mine.mk_own ⟨rest, h.keep k hb h1 h2, hs⟩ hl hB hn hc
theorem RdI.keepI (h : RdI R d st row w) (k : Kr R.T row w row' w') {B : Nat} {A : Option Addr} {n c : Nat} {xs : List Value} (hm : Mine w B 3 1 A n c xs) : Mine w' B 3 1 A n c xs := h.keepM k hm (Ne.symm R.ty_int) (by decide)
theorem mine_set {B : Nat} {t : TypeId} {s : Nat} {A : Option Addr} {n c : Nat} {xs : List Value} {g : Nat} {t' : TypeId} {cs : Array Value} (hm : Mine w B t s A n c xs) (hb : Blk w g t' cs) (ht : t ≠ t') (i : Nat) (u : Value) : Mine (w.setCell ⟨g, i, none⟩ u) B t s A n c xs := by
 have hl := hm.len
 rcases hm.own with ⟨rfl, rfl, rfl⟩ | ⟨g', rfl, hB, hn, hc, rest, hb', hs⟩
 ·exact ⟨hl, .inl ⟨rfl, rfl⟩⟩
 ·exact Mine.mk_own ⟨rest, hb'.far (blk_ne hb' hb ht) u, hs⟩ hl hB hn hc
theorem RdC.set (h : RdC R a d b AN cN l w) {i : Nat} {u : Value} {a' d' : Nat} {b' : Bool} (he : (R.cells a d b (.slice AN l.length cN)).setIfInBounds i u = R.cells a' d' b' (.slice AN l.length cN)) (ha : a' ≤ R.n) :
  RdC R a' d' b' AN cN l (w.setCell ⟨R.T, i, none⟩ u) ∧ Kr R.T (AN.map (·.block)) w (AN.map (·.block)) (w.setCell ⟨R.T, i, none⟩ u) := by
 obtain ⟨h1, h2, h3, h4, h5, h6, h7⟩ := h
 refine ⟨⟨?_, mine_set h2 h1 (Ne.symm R.ty_node) _ _, ⟨fun x hx => ⟨(h3.1 x hx).1, mine_set (h3.1 x hx).2 h1 (Ne.symm R.ty_int) _ _⟩, fun g hg => by simpa [World.setCell] using h3.2 g hg⟩, h4, ha, h6.setCell h7.low _, h7⟩, ?_⟩
 ·have := h1.set_ i u
  rw [he] at this
  exact this
 ·exact ⟨by simp [World.setCell], .inl rfl, fun g hg ht _ => Below.heap_setCell w ⟨R.T, i, none⟩ u g ht⟩
theorem RdC.push (h : RdC R a d b AN cN l w) (x : Nd) (hx : KidsIn w R.w0.heap.size R.U x) (hl : l.length < 300) {w1 : World} (hw1 : Below w.heap.size w w1) {i : Nat} {v' : Value} {w3 : World}
  (hown : w3.ownsRow R.w0.heap.size 36 4 v' (l.length + 1) (l.flatMap nodeCells ++ nodeCells x)) (hg : w1.grownBy w3 (Value.slice AN l.length cN).ownBlock) (hwh : v'.ownBlock = (Value.slice AN l.length cN).ownBlock ∨ v'.ownBlock = some w1.heap.size)
  (he : (R.cells a d b (.slice AN l.length cN)).setIfInBounds i v' = R.cells a d b v') :
  ∃ A3 c3, v' = .slice A3 (l.length + 1) c3 ∧ RdC R a d b A3 c3 (l ++ [x]) (w3.setCell ⟨R.T, i, none⟩ v') ∧ Kr R.T (AN.map (·.block)) w (A3.map (·.block)) (w3.setCell ⟨R.T, i, none⟩ v') := by
 have h0 := h
 have hC := h.next hw1
 obtain ⟨h1, h2, h3, h4, h5, h6, h7⟩ := hC
 rw [ownBlk] at hg hwh
 have hof : ∀ g t cs, Blk w1 g t cs → t ≠ 36 → some g ≠ AN.map (·.block) := fun g t cs hk ht e => by
  obtain ⟨cs', hk'⟩ := mine_blk' h2 e.symm
  exact blk_ne hk hk' ht rfl
 have hb3 : Blk w3 R.T R.ty (R.cells a d b (.slice AN l.length cN)) := h1.grown hg (hof _ _ _ h1 R.ty_node)
 have hk3 : ∀ (y : Nd), KidsIn w1 R.w0.heap.size R.U y → KidsIn w3 R.w0.heap.size R.U y := fun y hy => by
  refine ⟨hy.1, ?_⟩
  have hl2 := hy.2.len
  rcases hy.2.own with ⟨e1, e2, e3⟩ | ⟨g', e1, hB, hn, hc, rest, hb', hs⟩
  ·rw [e1, e2, e3]; exact ⟨by rw [hl2, e2], .inl ⟨rfl, rfl⟩⟩
  ·rw [e1]; exact Mine.mk_own ⟨rest, hb'.grown hg (hof _ _ _ hb' (by decide)), hs⟩ hl2 hB hn hc
 obtain ⟨A3, c3, rfl, m3⟩ := Mine.of hown
 rw [ownBlk] at hwh
 have hll : (l ++ [x]).length = l.length + 1 := by simp
 have hff : (l ++ [x]).flatMap nodeCells = l.flatMap nodeCells ++ nodeCells x := by simp
 have hbw3 : Below R.w0.heap.size R.w0 w3 := h6.grown hg h6.size (fun g hgg => (Mine.blk h2 hgg).1)
 refine ⟨A3, c3, rfl, ⟨?_, ?_, ?_, by omega, h5, hbw3.setCell h7.low _, h7⟩, ?_⟩
 ·have := hb3.set_ i (.slice A3 (l.length + 1) c3)
  rw [he] at this
  rw [hll]; exact this
 ·rw [hll, hff]
  exact mine_set m3 hb3 (Ne.symm R.ty_node) _ _
 ·refine ⟨fun y hy => ?_, fun g hg2 => by have := h3.2 g hg2; have := hg.size; simp only [World.setCell, Array.size_modify]; omega⟩
  have hy1 : KidsIn w3 R.w0.heap.size R.U y := by
   rcases List.mem_append.1 hy with hy | hy
   ·exact hk3 y (h3.1 y hy)
   ·obtain rfl := List.mem_singleton.1 hy
    exact hk3 y (hx.next hw1)
  exact ⟨hy1.1, mine_set hy1.2 hb3 (Ne.symm R.ty_int) _ _⟩
 ·refine ⟨Nat.le_trans hw1.size (Nat.le_trans hg.size (by simp [World.setCell])), ?_, fun g hgl ht hr => ?_⟩
  ·rcases hwh with e | e
   ·exact .inl e
   ·exact .inr ⟨_, e, hw1.size⟩
  ·rw [Below.heap_setCell w3 ⟨R.T, i, none⟩ _ g ht, hg.block g (Nat.lt_of_lt_of_le hgl hw1.size) hr, hw1.block g hgl]
end
def RC.Lo (R : RC) (B : Nat) : Prop := R.w0.heap.size ≤ B ∧ ∀ g, R.U g → g < B
theorem RdI.lo {R : RC} {d : Nat} {st : RdSt} {row : Option Nat} {w : World} (h : RdI R d st row w) : R.Lo w.heap.size := by
 obtain ⟨a, b, AN, cN, l, ⟨_, _, h3, _, _, h6, _⟩, _⟩ := h
 exact ⟨h6.size, h3.2⟩
theorem RC.Lo.more {R : RC} {B B' : Nat} (h : R.Lo B) (hb : B ≤ B') : R.Lo B' := ⟨Nat.le_trans h.1 hb, fun g hg => Nat.lt_of_lt_of_le (h.2 g hg) hb⟩
abbrev RC.res (R : RC) (A : Option Addr) : RC := { R with U := fun x => R.U x ∨ A.map (·.block) = some x }
theorem RdC.kids_lt {R : RC} {a d : Nat} {b : Bool} {AN : Option Addr} {cN : Nat} {l : List Nd} {w : World} (h : RdC R a d b AN cN l w) {x : Nd} (hx : x ∈ l) {g : Nat} (hg : x.adr.map (·.block) = some g) : g < w.heap.size := (Mine.blk (h.2.2.1.1 x hx).2 hg).2
theorem RdI.res_new {R : RC} {d : Nat} {st : RdSt} {row : Option Nat} {w w' : World} (h : RdI R d st row w) (hb : Below w.heap.size w w') {A : Option Addr} (hA : ∀ g, A.map (·.block) = some g → w.heap.size ≤ g ∧ g < w'.heap.size) : RdI (R.res A) d st row w' := by
 obtain ⟨a, b, AN, cN, l, hc, h2⟩ := h
 have hk : ∀ x ∈ l, ∀ g, x.adr.map (·.block) = some g → g < w.heap.size := fun x hx g hg => hc.kids_lt hx hg
 obtain ⟨c1, c2, c3, c4, c5, c6, c7⟩ := hc.next hb
 refine ⟨a, b, AN, cN, l, ⟨c1, c2, ⟨fun x hx => ⟨⟨(c3.1 x hx).1.1, fun g hg hu => ?_⟩, (c3.1 x hx).2⟩, fun g hg => ?_⟩, c4, c5, c6, ⟨c7.len, c7.most, c7.rd, c7.low⟩⟩, h2⟩
 ·rcases hu with hu | hu
  ·exact (c3.1 x hx).1.2 g hg hu
  ·have := hk x hx g hg
   have := (hA g hu).1
   omega
 ·rcases hg with hg | hg
  ·exact c3.2 g hg
  ·exact (hA g hg).2
theorem RdI.unres {R : RC} {d : Nat} {st : RdSt} {row : Option Nat} {w : World} {A : Option Addr} (h : RdI (R.res A) d st row w) : RdI R d st row w := by
 obtain ⟨a, b, AN, cN, l, ⟨c1, c2, c3, c4, c5, c6, c7⟩, h2⟩ := h
 exact ⟨a, b, AN, cN, l, ⟨c1, c2, ⟨fun x hx => ⟨⟨(c3.1 x hx).1.1, fun g hg hu => (c3.1 x hx).1.2 g hg (.inl hu)⟩, (c3.1 x hx).2⟩, fun g hg => c3.2 g (.inl hg)⟩, c4, c5, c6, ⟨c7.len, c7.most, c7.rd, c7.low⟩⟩, h2⟩
theorem Kr.grown {T : Nat} {row row' r : Option Nat} {w w' w3 : World} (h : Kr T row w row' w') (hg : w'.grownBy w3 r) (hr : ∀ g, r = some g → w.heap.size ≤ g) : Kr T row w row' w3 :=
 ⟨Nat.le_trans h.1 hg.size, h.2.1, fun g hgl ht hrow => (hg.block g (Nat.lt_of_lt_of_le hgl h.1) (fun e => by have := hr g e.symm; omega)).trans (h.2.2 g hgl ht hrow)⟩
theorem RdI.appended {R : RC} {d : Nat} {st : RdSt} {row : Option Nat} {w w1 w3 : World} {A : Option Addr} {B n n' c : Nat} {xs ys : List Value} {v' : Value} (h : RdI (R.res A) d st row w) (hm : Mine w B 3 1 A n c xs) (hB : R.w0.heap.size ≤ B) (hw1 : Below w.heap.size w w1)
  (hown : w3.ownsRow B 3 1 v' n' ys) (hg : w1.grownBy w3 (Value.slice A n c).ownBlock) (hwh : v'.ownBlock = (Value.slice A n c).ownBlock ∨ v'.ownBlock = some w1.heap.size) :
  ∃ A' c', v' = .slice A' n' c' ∧ RdI (R.res A') d st row w3 ∧ Mine w3 B 3 1 A' n' c' ys := by
 obtain ⟨A', c', rfl, m3⟩ := Mine.of hown
 rw [ownBlk] at hg hwh
 rw [ownBlk] at hwh
 obtain ⟨a, b, AN, cN, l, hc, h2⟩ := h
 have hk : ∀ x ∈ l, ∀ g, x.adr.map (·.block) = some g → g < w.heap.size := fun x hx g hg => hc.kids_lt hx hg
 have hm1 := hm.next hw1
 obtain ⟨c1, c2, c3, c4, c5, c6, c7⟩ := hc.next hw1
 have hne : ∀ g t cs, Blk w1 g t cs → t ≠ 3 → some g ≠ A.map (·.block) := fun g t cs hk ht e => by
  obtain ⟨cs', hk'⟩ := mine_blk' hm1 e.symm
  exact blk_ne hk hk' ht rfl
 have hfar : ∀ g, A.map (·.block) = some g → B ≤ g := fun g hgg => (Mine.blk hm hgg).1
 refine ⟨A', c', rfl, ⟨a, b, AN, cN, l, ⟨c1.grown hg (hne _ _ _ c1 R.ty_int), ?_, ⟨fun x hx => ⟨⟨(c3.1 x hx).1.1, fun g hg hu => ?_⟩, ?_⟩, fun g hgu => ?_⟩, c4, c5, ?_, ⟨c7.len, c7.most, c7.rd, c7.low⟩⟩, h2⟩, m3⟩
 ·have hl2 := c2.len
  rcases c2.own with ⟨e1, e2, e3⟩ | ⟨g', e1, hB', hn, hcc, rest, hb', hs⟩
  ·rw [e1, e2, e3]; exact ⟨by rw [hl2, e2], .inl ⟨rfl, rfl⟩⟩
  ·rw [e1]; exact Mine.mk_own ⟨rest, hb'.grown hg (hne _ _ _ hb' (by decide)), hs⟩ hl2 hB' hn hcc
 ·rcases hu with hu | hu
  ·exact (c3.1 x hx).1.2 g hg (.inl hu)
  ·rcases hwh with e | e
   ·exact (c3.1 x hx).1.2 g hg (.inr (by rw [← e]; exact hu))
   ·have := hk x hx g hg
    rw [hu] at e
    injection e with e
    have := hw1.size
    omega
 ·have hy := (c3.1 x hx)
  have hl2 := hy.2.len
  rcases hy.2.own with ⟨e1, e2, e3⟩ | ⟨g', e1, hB', hn, hcc, rest, hb', hs⟩
  ·rw [e1, e2, e3]; exact ⟨by rw [hl2, e2], .inl ⟨rfl, rfl⟩⟩
  ·rw [e1]
   refine Mine.mk_own ⟨rest, hb'.grown hg (fun e => ?_), hs⟩ hl2 hB' hn hcc
   exact hy.1.2 g' (by rw [e1]; rfl) (.inr e.symm)
 ·rcases hgu with hgu | hgu
  ·have := c3.2 g (.inl hgu); have := hg.size; omega
  ·exact (Mine.blk m3 hgu).2
 ·exact c6.grown hg c6.size (fun g hgg => Nat.le_trans hB (hfar g hgg))
def Does (R : RC) (d : Nat) (row : Option Nat) (w : World) (v : Value) (st' : RdSt) (e : Ending) (w' : World) : Prop := e = .returned v ∧ ∃ row', RdI R d st' row' w' ∧ Kr R.T row w row' w'
theorem Does.frame {R : RC} {d : Nat} {row row1 : Option Nat} {w w1 : World} {v : Value} {st' : RdSt} {e : Ending} {w' : World} (hk : Kr R.T row w row1 w1) (h : Does R d row1 w1 v st' e w') : Does R d row w v st' e w' := by
 obtain ⟨h1, row', h2, h3⟩ := h; exact ⟨h1, row', h2, hk.trans h3⟩
section
variable {R : RC} {a d : Nat} {b : Bool} {AN : Option Addr} {cN : Nat} {l : List Nd} {st : RdSt} {s : PS} {row : Option Nat} {w : World}
theorem RdC.ci (hi : R.imp = true) (h : RdC R a d b AN cN l w) :
  w.cell? ⟨R.T, 0, none⟩ = some (.slice R.A R.n R.c) ∧ w.cell? ⟨R.T, 2, none⟩ = some (.int .i64 a) ∧ w.cell? ⟨R.T, 3, none⟩ = some (.int .i64 d) ∧ w.cell? ⟨R.T, 4, none⟩ = some (.bool b) ∧ w.cell? ⟨R.T, 5, none⟩ = some (.slice AN l.length cN) ∧ (∀ i, w.frozen? ⟨R.T, i, none⟩ = false) ∧ R.T < w.heap.size := by
 have hb := h.1
 unfold RC.cells at hb
 rw [if_pos hi] at hb
 exact ⟨hb.cell 0, hb.cell 2, hb.cell 3, hb.cell 4, hb.cell 5, hb.frozen, hb.lt⟩
theorem RdI.at1 (hi : R.imp = true) (hc : RdC R a d b AN cN l w) (hs : StOk (some s) b a l) (hr : row = AN.map (·.block)) (hlt : s.at_ < R.n) :
  RdI R d (skipS (some s)) row (w.setCell ⟨R.T, 2, none⟩ (.int .i64 ((a : Int) + 1))) ∧ Kr R.T row w row (w.setCell ⟨R.T, 2, none⟩ (.int .i64 ((a : Int) + 1))) := by
 obtain ⟨h1, h2, h3⟩ := hs
 have := hc.set (i := 2) (u := .int .i64 ((a : Int) + 1)) (a' := a + 1) (d' := d) (b' := b) (by unfold RC.cells; rw [if_pos hi, if_pos hi]; simp) (by omega)
 rw [hr]
 exact ⟨⟨a + 1, b, AN, cN, l, this.1, ⟨h1, (show s.at_ + 1 = a + 1 by rw [h2]), h3⟩, rfl⟩, this.2⟩
theorem RdI.bad1 (hi : R.imp = true) (hc : RdC R a d b AN cN l w) (hr : row = AN.map (·.block)) :
  RdI R d none row (w.setCell ⟨R.T, 4, none⟩ (.bool true)) ∧ Kr R.T row w row (w.setCell ⟨R.T, 4, none⟩ (.bool true)) := by
 have := hc.set (i := 4) (u := .bool true) (a' := a) (d' := d) (b' := true) (by unfold RC.cells; rw [if_pos hi, if_pos hi]; simp) hc.2.2.2.2.1
 rw [hr]
 exact ⟨⟨a, true, AN, cN, l, this.1, rfl, rfl⟩, this.2⟩
theorem RdI.nest1 (hi : R.imp = true) (hc : RdC R a d b AN cN l w) (hs : StOk st b a l) (hr : row = AN.map (·.block)) {u : Int} {d' : Nat} (hu : u = (d' : Int)) :
  RdI R d' st row (w.setCell ⟨R.T, 3, none⟩ (.int .i64 u)) ∧ Kr R.T row w row (w.setCell ⟨R.T, 3, none⟩ (.int .i64 u)) := by
 subst hu
 have := hc.set (i := 3) (u := .int .i64 (d' : Int)) (a' := a) (d' := d') (b' := b) (by unfold RC.cells; rw [if_pos hi, if_pos hi]; simp) hc.2.2.2.2.1
 rw [hr]
 exact ⟨⟨a, b, AN, cN, l, this.1, hs, rfl⟩, this.2⟩
theorem sgAt_in {sg : List SgP} {i : Nat} {x : SgP} (h : sg[s.at_ + i]? = some x) : sgAt sg (some s) i = x := by unfold sgAt; simp only; rw [h]; rfl
theorem sgAt_out {sg : List SgP} {i : Nat} (h : sg.length ≤ s.at_ + i) : sgAt sg (some s) i = sgZero := by unfold sgAt; simp only; rw [List.getElem?_eq_none h]; rfl
theorem isM_lt {sg : List SgP} {m : ByteArray} (h : isM sg st m = true) : ∃ s, st = some s ∧ s.at_ < sg.length := by
 cases st with
 | none => exact absurd h (by rw [isM_none]; decide)
 | some s =>
  refine ⟨s, rfl, ?_⟩
  rcases Nat.lt_or_ge s.at_ sg.length with hl | hl
  ·exact hl
  ·unfold isM at h
   rw [sgAt_out (i := 0) hl, show (sgZero.1 == 4) = false from rfl, Bool.false_and] at h
   exact absurd h (by decide)
theorem nameS_lt {sg : List SgP} {i : Nat} (h : nameS sg st i = true) : ∃ s, st = some s ∧ s.at_ + i < sg.length := by
 cases st with
 | none => exact absurd h (by rw [nameS_none]; decide)
 | some s =>
  refine ⟨s, rfl, ?_⟩
  rcases Nat.lt_or_ge (s.at_ + i) sg.length with hl | hl
  ·exact hl
  ·unfold nameS at h
   rw [sgAt_out hl, show (sgZero.1 == 1) = false from rfl, Bool.false_and] at h
   exact absurd h (by decide)
end
theorem fld0 (k : Int) (t : ByteArray) (p : Int) (z : Bool) (w : World) : (Instr.field 68 (.agg #[.int .i64 k, .string t, .int .i64 p, .bool z]) 0).run prog w = .ok (.int .i64 k) w := by simp [Instr.field, asAgg, go_sem]
theorem fld1 (k : Int) (t : ByteArray) (p : Int) (z : Bool) (w : World) : (Instr.field 68 (.agg #[.int .i64 k, .string t, .int .i64 p, .bool z]) 1).run prog w = .ok (.string t) w := by simp [Instr.field, asAgg, go_sem]
theorem fld3 (k : Int) (t : ByteArray) (p : Int) (z : Bool) (w : World) : (Instr.field 68 (.agg #[.int .i64 k, .string t, .int .i64 p, .bool z]) 3).run prog w = .ok (.bool z) w := by simp [Instr.field, asAgg, go_sem]
theorem peek_any (R : RC) (hi : R.imp = true) (d : Nat) (st : RdSt) (row : Option Nat) (i : Nat) (w : World) (hI : RdI R d st row w) (hn : i ≤ 100000) :
  Calls prog 182 #[.pointer (some ⟨R.T, 0, none⟩), .int .i64 i] w fun e w' => e = .returned (.agg #[.int .i64 (sgAt R.sg st i).1, .string (sgAt R.sg st i).2.1, .int .i64 (sgAt R.sg st i).2.2.1, .bool (sgAt R.sg st i).2.2.2]) ∧ Below w.heap.size w w' := by
 obtain ⟨a, b, AN, cN, l, hc, hst, hrow⟩ := hI
 obtain ⟨c0, c2, c3, c4, c5, cf, cz⟩ := hc.ci hi
 obtain ⟨hlen, hmost, hrd, hlow⟩ := hc.2.2.2.2.2.2
 have hold := hc.2.2.2.2.2.1
 have han := hc.2.2.2.2.1
 have hrd2 := hrd.below hold
 clear hc hrd hold c3 c5 hrow
 have hb0 : Below w.heap.size w (w.alloc (.cells #[.int .i64 0, .string ⟨#[]⟩, .int .i64 0, .bool false] 68)) := grow_
 have K := Blk.new w 68 #[.int .i64 0, .string ⟨#[]⟩, .int .i64 0, .bool false]
 have k0 := K.q0
 have k1 := K.q1
 have k2 := K.q2
 have k3 := K.q3
 cases st with
 | none =>
  obtain rfl : b = true := hst
  rw [sgAt_none]
  go_enter func182, ntmps182
  go_wp2
  go_quiet (fail)
  go_wp2
  refine bodyPost_ret (by simp [results, Tryz.results182, go_sem, k0, k1, k2, k3]; try rfl) rfl ?_
  exact ⟨rfl, grow_⟩
 | some s =>
  obtain ⟨rfl, ha, hns⟩ := hst
  have hw1 : IntKind.i64.wrap ((a : Int) + (i : Int)) = a + i := IntWalk.i64_in _ (by omega)
  by_cases hlt : a + i < R.n
  ·obtain ⟨x, hx⟩ : ∃ x, R.sg[a + i]? = some x := ⟨_, gE (by omega)⟩
   have hsx : sgAt R.sg (some s) i = x := sgAt_in (by rw [ha]; exact hx)
   rw [hsx]
   obtain ⟨b1, off, hA, hblt, e0, e1, e2, e3⟩ := sgn_at hrd2 hlt hx
   rw [hA] at c0
   have g1 : (a : Int) + i < R.n := by omega
   have g2 : ¬ (R.n : Int) ≤ (a : Int) + i := by omega
   have g3 : (0 : Int) ≤ (a : Int) + i := by omega
   clear hx hsx hrd2 hA hns ha
   go_enter func182, ntmps182
   go_wp2
   go_quiet (fail)
   go_upto_region 3 with fail
   have hbW : Below w.heap.size w ((w.alloc (.cells #[.int .i64 0, .string ⟨#[]⟩, .int .i64 0, .bool false] 68)).drewN nq) := below_drewN hb0 nq
   have KW := K.drewN nq
   clear k0 k1 k2 k3 K
   generalize (w.alloc (.cells #[.int .i64 0, .string ⟨#[]⟩, .int .i64 0, .bool false] 68)).drewN nq = W at hbW KW ⊢
   replace c0 := ((bcell hbW).1 _ _ cz).trans c0
   replace c2 := ((bcell hbW).1 _ _ cz).trans c2
   replace e0 := ((bcell hbW).1 _ _ hblt).trans e0
   replace e1 := ((bcell hbW).1 _ _ hblt).trans e1
   replace e2 := ((bcell hbW).1 _ _ hblt).trans e2
   replace e3 := ((bcell hbW).1 _ _ hblt).trans e3
   rw [show a + i = ((a : Int) + (i : Int)).toNat by omega] at e0 e1 e2 e3
   have k0 := KW.q0
   have k1 := KW.q1
   have k2 := KW.q2
   have k3 := KW.q3
   have kz := KW.lt
   have kf := KW.frozen
   clear cf cz c4
   go_still_tail 12, (by kernel_rfl)
   go_wp2
   refine bodyPost_ret (by simp [results, Tryz.results182, go_sem, k0, k1, k2, k3]; try rfl) rfl ?_
   exact ⟨rfl, grow_⟩
  ·have hsx : sgAt R.sg (some s) i = sgZero := sgAt_out (by rw [ha]; omega)
   rw [hsx]
   have g2 : (R.n : Int) ≤ (a : Int) + i := by omega
   clear hsx hrd2 hns ha
   go_enter func182, ntmps182
   go_wp2
   go_quiet (fail)
   go_wp2
   refine bodyPost_ret (by simp [results, Tryz.results182, go_sem, k0, k1, k2, k3]; try rfl) rfl ?_
   exact ⟨rfl, grow_⟩
theorem next_any (R : RC) (hi : R.imp = true) (d : Nat) (st : RdSt) (row : Option Nat) (w : World) (hI : RdI R d st row w) :
  Calls prog 138 #[.pointer (some ⟨R.T, 0, none⟩)] w fun e w' => e = .returned (.agg #[.int .i64 (sgAt R.sg st 0).1, .string (sgAt R.sg st 0).2.1, .int .i64 (sgAt R.sg st 0).2.2.1, .bool (sgAt R.sg st 0).2.2.2]) ∧ Below w.heap.size w w' := by
 have HN := hid (fun W (hW : Below w.heap.size w W) => peek_any R hi d st row 0 W (hI.next hW) (by omega))
 generalize sgAt R.sg st 0 = x at HN ⊢
 obtain ⟨k, t, p, z⟩ := x
 dsimp only at HN ⊢
 have K0 := Blk.new w 68 #[.int .i64 0, .string ⟨#[]⟩, .int .i64 0, .bool false]
 have hb0 : Below w.heap.size w (w.alloc (.cells #[.int .i64 0, .string ⟨#[]⟩, .int .i64 0, .bool false] 68)) := grow_
 clear hI
 go_enter func138, ntmps138
 go_wp2_with fail
 refine (HN.out _ hb0).mono ?_
 rintro e w1 ⟨rfl, h1⟩
 have K := K0.next h1
 have hb1 := below_next hb0 h1
 have k0 := K.q0
 have k1 := K.q1
 have k2 := K.q2
 have k3 := K.q3
 have kz := K.lt
 have kf := K.frozen
 clear K K0 h1 hb0
 go_wp2
 refine bodyPost_ret (by simp [results, Tryz.results138, go_sem, k0, k1, k2, k3]; try rfl) rfl ?_
 exact ⟨rfl, grow_⟩
theorem is_any (R : RC) (hi : R.imp = true) (d : Nat) (st : RdSt) (row : Option Nat) (m : ByteArray) (w : World) (hI : RdI R d st row w) :
  Calls prog 218 #[.pointer (some ⟨R.T, 0, none⟩), .string m] w fun e w' => e = .returned (.bool (isM R.sg st m)) ∧ Below w.heap.size w w' := by
 unfold isM
 have HN := hid (fun W (hW : Below w.heap.size w W) => next_any R hi d st row W (hI.next hW))
 generalize sgAt R.sg st 0 = x at HN ⊢
 obtain ⟨k, t, p, z⟩ := x
 dsimp only at HN ⊢
 clear hI
 cases h1 : (k == 4) with
 | false =>
  rw [Bool.false_and]
  have hF0 := fld0
  have hF1 := fld1
  go_enter func218, ntmps218
  go_wp2_with fail
  refine (HN.out _ (Below.refl _ _)).mono ?_
  rintro e w1 ⟨rfl, g1⟩
  go_wp2
  go_ret
  exact ⟨rfl, g1⟩
 | true =>
  obtain rfl : k = 4 := eq_of_beq h1
  rw [Bool.true_and]
  clear h1
  have hF0 := fld0
  have hF1 := fld1
  go_enter func218, ntmps218
  go_wp2_with fail
  refine (HN.out _ (Below.refl _ _)).mono ?_
  rintro e w1 ⟨rfl, g1⟩
  go_wp2_with fail
  refine (HN.out _ g1).mono ?_
  rintro e w2 ⟨rfl, g2⟩
  replace g1 := below_next g1 g2
  clear g2
  go_wp2
  go_ret
  exact ⟨rfl, g1⟩
theorem isWord_any (R : RC) (hi : R.imp = true) (d : Nat) (st : RdSt) (row : Option Nat) (m : ByteArray) (w : World) (hI : RdI R d st row w) :
  Calls prog 174 #[.pointer (some ⟨R.T, 0, none⟩), .string m] w fun e w' => e = .returned (.bool (isW R.sg st m)) ∧ Below w.heap.size w w' := by
 unfold isW
 have HN := hid (fun W (hW : Below w.heap.size w W) => next_any R hi d st row W (hI.next hW))
 generalize sgAt R.sg st 0 = x at HN ⊢
 obtain ⟨k, t, p, z⟩ := x
 dsimp only at HN ⊢
 clear hI
 cases h1 : (k == 1) with
 | false =>
  rw [Bool.false_and]
  have hF0 := fld0
  have hF1 := fld1
  go_enter func174, ntmps174
  go_wp2_with fail
  refine (HN.out _ (Below.refl _ _)).mono ?_
  rintro e w1 ⟨rfl, g1⟩
  go_wp2
  go_ret
  exact ⟨rfl, g1⟩
 | true =>
  obtain rfl : k = 1 := eq_of_beq h1
  rw [Bool.true_and]
  clear h1
  have hF0 := fld0
  have hF1 := fld1
  go_enter func174, ntmps174
  go_wp2_with fail
  refine (HN.out _ (Below.refl _ _)).mono ?_
  rintro e w1 ⟨rfl, g1⟩
  go_wp2_with fail
  refine (HN.out _ g1).mono ?_
  rintro e w2 ⟨rfl, g2⟩
  replace g1 := below_next g1 g2
  clear g2
  go_wp2
  go_ret
  exact ⟨rfl, g1⟩
theorem namesNext_any (R : RC) (hi : R.imp = true) (d : Nat) (st : RdSt) (row : Option Nat) (i : Nat) (w : World) (hI : RdI R d st row w) (hn : i ≤ 100000) :
  Calls prog 219 #[.pointer (some ⟨R.T, 0, none⟩), .int .i64 i] w fun e w' => e = .returned (.bool (nameS R.sg st i)) ∧ Below w.heap.size w w' := by
 unfold nameS
 have HN := hid (fun W (hW : Below w.heap.size w W) => peek_any R hi d st row i W (hI.next hW) hn)
 generalize sgAt R.sg st i = x at HN ⊢
 obtain ⟨k, t, p, z⟩ := x
 dsimp only at HN ⊢
 clear hI
 have HK := hid (implKey_any t)
 cases h1 : (k == 1) with
 | false =>
  rw [Bool.false_and]
  go_enter func219, ntmps219
  go_wp2_with fail
  refine (HN.out _ (Below.refl _ _)).mono ?_
  rintro e w1 ⟨rfl, g1⟩
  have gz := g1.size
  go_wp2
  go_ret
  exact ⟨rfl, grow_⟩
 | true =>
  obtain rfl : k = 1 := eq_of_beq h1
  rw [Bool.true_and]
  clear h1
  generalize keyB t = kb at HK ⊢
  go_enter func219, ntmps219
  go_wp2_with fail
  refine (HN.out _ (Below.refl _ _)).mono ?_
  rintro e w1 ⟨rfl, g1⟩
  have gz := g1.size
  go_wp2_with fail
  refine (HK.out _).mono ?_
  rintro e w2 ⟨rfl, rfl⟩
  go_wp2
  go_ret
  exact ⟨rfl, grow_⟩
def skipIf (sg : List SgP) (st : RdSt) (m : ByteArray) : RdSt := if isM sg st m = true then skipS st else st
theorem skipIf_yes {sg : List SgP} {st : RdSt} {m : ByteArray} (h : isM sg st m = true) : skipIf sg st m = skipS st := if_pos h
theorem skipIf_no {sg : List SgP} {st : RdSt} {m : ByteArray} (h : isM sg st m = false) : skipIf sg st m = st := if_neg (by rw [h]; decide)
theorem skip_any (R : RC) (hi : R.imp = true) (d : Nat) (st : RdSt) (row : Option Nat) (m : ByteArray) (w : World) (hI : RdI R d st row w) :
  Calls prog 215 #[.pointer (some ⟨R.T, 0, none⟩), .string m] w (Does R d row w (.bool (isM R.sg st m)) (skipIf R.sg st m)) := by
 have HN := hid (is_any R hi d st row m w hI)
 have HI := hid hI
 unfold Does
 clear hI
 cases hM : isM R.sg st m with
 | false =>
  rw [skipIf_no hM]
  rw [hM] at HN
  clear hM
  go_enter func215, ntmps215
  go_wp2_with fail
  refine HN.out.mono ?_
  rintro e w1 ⟨rfl, g1⟩
  go_wp2
  go_ret
  exact ⟨rfl, row, HI.out.next g1, Kr.of_below g1⟩
 | true =>
  rw [skipIf_yes hM]
  rw [hM] at HN
  obtain ⟨s, rfl, hlt⟩ := isM_lt hM
  clear hM
  go_enter func215, ntmps215
  go_wp2_with fail
  refine HN.out.mono ?_
  rintro e w1 ⟨rfl, g1⟩
  obtain ⟨a, b, AN, cN, l, hc, hst, hrow⟩ := HI.out.next g1
  obtain ⟨c0, c2, c3, c4, c5, cf, cz⟩ := hc.ci hi
  have HF := hid (RdI.at1 hi hc hst hrow (by rw [← hc.2.2.2.2.2.2.len]; exact hlt))
  have hal := hc.2.2.2.2.1
  have hmo := hc.2.2.2.2.2.2.most
  clear hc hst hrow c0 c3 c4 c5
  go_wp2
  go_ret
  exact ⟨rfl, row, HF.out.1, (Kr.of_below g1).trans HF.out.2⟩
theorem take_any (R : RC) (hi : R.imp = true) (d : Nat) (st : RdSt) (row : Option Nat) (m : ByteArray) (w : World) (hI : RdI R d st row w) :
  Calls prog 178 #[.pointer (some ⟨R.T, 0, none⟩), .string m] w (Does R d row w (.tuple #[]) (takeS R.sg st m)) := by
 have HN := hid (skip_any R hi d st row m w hI)
 unfold Does at HN ⊢
 clear hI
 cases hM : isM R.sg st m with
 | false =>
  rw [take_no hM]
  rw [hM, skipIf_no hM] at HN
  clear hM
  go_enter func178, ntmps178
  go_wp2_with fail
  refine HN.out.mono ?_
  rintro e w1 ⟨rfl, row1, hI1, k1⟩
  obtain ⟨a, b, AN, cN, l, hc, hst, hrow⟩ := hI1
  obtain ⟨c0, c2, c3, c4, c5, cf, cz⟩ := hc.ci hi
  have HF := hid (RdI.bad1 hi hc hrow)
  clear hc hst hrow c0 c2 c3 c5
  go_wp2
  go_end0
  exact ⟨rfl, row1, HF.out.1, k1.trans HF.out.2⟩
 | true =>
  rw [take_yes hM]
  rw [hM, skipIf_yes hM] at HN
  clear hM
  go_enter func178, ntmps178
  go_wp2_with fail
  refine HN.out.mono ?_
  rintro e w1 ⟨rfl, row1, hI1, k1⟩
  go_wp2
  go_end0
  exact ⟨rfl, row1, hI1, k1⟩
theorem step_calls {P : Program} {ops : Array Oper} {o : Oper} {a : Act} {w : World} {K : Act → World → Prop} {Q : Exit → Act → World → Prop} {E : Prop} (hgd : o.guard = none) (f : FuncId) {fn : Func} (hf : P.funcs[f]? = some fn) (hname : (fn.name == "runtime.NumGoroutine") = false) (hb : fn.body.isSome = true) (xs : Array Operand) (ts : Array TypeId)
  (ho : o.op = .call { callee := .value (.func f), args := xs, argTypes := ts }) (args : Array Value) (hargs : xs.map a.eval = args) {R : Ending → World → Prop} (hc : Calls P f args w R)
  (h : ∀ e w', R e w' → ∃ v, e = .returned v ∧ K (a.put o.dst v) w') :
  if Region.wanted o (yielded ops a.tmps) = true then Oper.wp P o a w K Q else E := by
 have hw : Region.wanted o (yielded ops a.tmps) = true := by simp [Region.wanted, hgd]
 rw [if_pos hw]
 have hrun : (execOp a.eval o).run P w = .ok (.enter f args) w := by
  obtain ⟨c, hc2⟩ := Option.isSome_iff_exists.1 hb
  have h1 : fn.name ≠ "runtime.NumGoroutine" := by simpa using hname
  have h2 : (callFunc f args).run P w = .ok (.enter f args) w := by simp [callFunc, hf, h1, hc2]
  have h3 : execOp a.eval o = callFunc f args := by
   cases o
   simp only at ho
   subst ho
   rw [execOp_call_go, hargs]
   simp
  rw [h3, h2]
 unfold Oper.wp
 rw [hrun, Oper.upon_enter]
 exact hc.mono fun e w' hR => by
  obtain ⟨v, rfl, hk⟩ := h e w' hR
  exact hk
theorem name_any (R : RC) (hi : R.imp = true) (d : Nat) (st : RdSt) (row : Option Nat) (w : World) (hI : RdI R d st row w) :
  Calls prog 177 #[.pointer (some ⟨R.T, 0, none⟩)] w (Does R d row w (.string (nmT R.sg st)) (nmS R.sg st)) := by
 have HN := hid (namesNext_any R hi d st row 0 w hI (by omega))
 have HI := hid hI
 unfold Does nmT nmS
 clear hI
 cases hM : nameS R.sg st 0 with
 | false =>
  rw [if_neg (by decide), if_neg (by decide)]
  rw [hM] at HN
  clear hM
  go_enter func177, ntmps177
  go_wp2_with fail
  refine HN.out.mono ?_
  rintro e w1 ⟨rfl, g1⟩
  obtain ⟨a, b, AN, cN, l, hc, hst, hrow⟩ := HI.out.next g1
  obtain ⟨c0, c2, c3, c4, c5, cf, cz⟩ := hc.ci hi
  have HF := hid (RdI.bad1 hi hc hrow)
  clear hc hst hrow c0 c2 c3 c5
  go_wp2
  go_ret
  exact ⟨rfl, row, HF.out.1, (Kr.of_below g1).trans HF.out.2⟩
 | true =>
  rw [if_pos rfl, if_pos rfl]
  rw [hM] at HN
  obtain ⟨s, rfl, hlt⟩ := nameS_lt hM
  rw [Nat.add_zero] at hlt
  obtain ⟨x, hx⟩ : ∃ x, R.sg[s.at_]? = some x := ⟨_, List.getElem?_eq_getElem hlt⟩
  rw [show sgAt R.sg (some s) 0 = x from sgAt_in hx]
  clear hM
  go_enter func177, ntmps177
  go_wp2_with fail
  refine HN.out.mono ?_
  rintro e w1 ⟨rfl, g1⟩
  have hI1 := HI.out.next g1
  have hold := hI1.old
  have hok := hI1.ok
  obtain ⟨a, b, AN, cN, l, hc, hst, hrow⟩ := hI1
  obtain ⟨c0, c2, c3, c4, c5, cf, cz⟩ := hc.ci hi
  have hlen := hok.len
  rw [hst.2.1] at hx
  obtain ⟨b1, off, hA, hblt, e0, e1, e2, e3⟩ := sgn_at (hok.rd.below hold) (show a < R.n by have := hst.2.1; omega) hx
  rw [hA] at c0
  have hF := RdI.at1 hi hc hst hrow (by have := hst.2.1; omega)
  have hal := hc.2.2.2.2.1
  have hmo := hok.most
  have hlow := hok.low
  have han : a < R.n := by have := hst.2.1; omega
  have hbr : b1 ≠ R.T := by
   obtain ⟨b2, off2, e, hb2, _⟩ := hok.rd.at_ (show 0 < R.n by omega)
   rw [hA] at e
   injection e with e
   injection e with e _
   omega
  clear hc hst hrow hx hlen hok hold e0 e2 e3
  have hw1 : IntKind.i64.wrap ((a : Int) + 1) = (a : Int) + 1 := IntWalk.i64_in _ (by omega)
  have HK := hid ((Kr.of_below g1).trans hF.2)
  have HF := hid hF.1
  clear hF g1
  go_upto_region 5 with fail
  have q0 : (w1.setCell ⟨R.T, 2, none⟩ (.int .i64 ((a : Int) + 1))).cell? ⟨R.T, 0, none⟩ = some (.slice (some ⟨b1, off, none⟩) R.n R.c) := by go_simp
  have q2 : (w1.setCell ⟨R.T, 2, none⟩ (.int .i64 ((a : Int) + 1))).cell? ⟨R.T, 2, none⟩ = some (.int .i64 ((a : Int) + 1)) := by go_simp
  have q1 : (w1.setCell ⟨R.T, 2, none⟩ (.int .i64 ((a : Int) + 1))).cell? ⟨b1, off + a * 4 + 1, none⟩ = some (.string x.2.1) := by go_simp
  have hw2 : IntKind.i64.wrap (a : Int) = (a : Int) := IntWalk.i64_in _ (by omega)
  clear e1 c0 c2 c3 c4 c5 cf
  generalize w1.setCell ⟨R.T, 2, none⟩ (.int .i64 ((a : Int) + 1)) = W at q0 q1 q2 HK HF ⊢
  go_quiet (fail)
  go_wp2
  go_ret
  exact ⟨rfl, row, HF.out.next (below_drewN (Below.refl _ _) _), HK.out.below (below_drewN (Below.refl _ _) _)⟩
theorem pass_any (R : RC) (hi : R.imp = true) (d : Nat) (st : RdSt) (row : Option Nat) (w : World) (hI : RdI R d st row w) (hlt : ∀ s, st = some s → s.at_ < R.n) :
  Calls prog 214 #[.pointer (some ⟨R.T, 0, none⟩)] w (Does R d row w (.tuple #[]) (skipS st)) := by
 obtain ⟨a, b, AN, cN, l, hc, hst, hrow⟩ := id hI
 obtain ⟨c0, c2, c3, c4, c5, cf, cz⟩ := hc.ci hi
 have HI := hid hI
 have hal := hc.2.2.2.2.1
 have hmo := hc.2.2.2.2.2.2.most
 clear c0 c3 c5 hI
 unfold Does
 cases st with
 | none =>
  obtain rfl : b = true := hst
  rw [skipS_none]
  clear hc
  go_enter func214, ntmps214
  go_wp2
  go_end0
  exact ⟨rfl, row, HI.out, Kr.refl _ _ _⟩
 | some s =>
  have HF := hid (RdI.at1 hi hc hst hrow (hlt s rfl))
  obtain ⟨rfl, _, _⟩ := hst
  clear hc
  go_enter func214, ntmps214
  go_wp2
  go_end0
  exact ⟨rfl, row, HF.out.1, HF.out.2⟩
theorem enter_any (R : RC) (hi : R.imp = true) (d : Nat) (st : RdSt) (row : Option Nat) (w : World) (hI : RdI R d st row w) (hd : d ≤ 100000) :
  Calls prog 221 #[.pointer (some ⟨R.T, 0, none⟩)] w (Does R (d + 1) row w (.tuple #[]) (nestS d st)) := by
 obtain ⟨a, b, AN, cN, l, hc, hst, hrow⟩ := id hI
 obtain ⟨c0, c2, c3, c4, c5, cf, cz⟩ := hc.ci hi
 unfold Does nestS
 clear c0 c2 c5 hI
 by_cases h20 : d = 20
 ·subst h20
  rw [if_pos rfl]
  have hF := RdI.bad1 hi hc hrow
  obtain ⟨a', b', AN', cN', l', hc', hst', hrow'⟩ := hF.1
  have hG := RdI.nest1 hi hc' hst' hrow' (u := 21) (d' := 21) (by rfl)
  have HF := hid (And.intro hG.1 (hF.2.trans hG.2))
  clear hc hst hF hG hc' hst'
  go_enter func221, ntmps221
  go_wp2
  go_end0
  exact ⟨rfl, row, HF.out.1, HF.out.2⟩
 ·rw [if_neg h20]
  have h20' : ((d : Int) == 20) = false := by rw [beq_eq_false_iff_ne]; omega
  have HF := hid (RdI.nest1 hi hc hst hrow (u := (d : Int) + 1) (d' := d + 1) (by omega))
  clear hc hst
  go_enter func221, ntmps221
  go_wp2
  go_end0
  exact ⟨rfl, row, HF.out.1, HF.out.2⟩
theorem grown_undrewP {w w' : World} {row : Option Nat} (h : w.drew.grownBy w' row) : w.grownBy w' row := ⟨h.os, h.tape, h.output, h.size, h.block⟩
theorem RdC.blk3 {R : RC} {a d : Nat} {b : Bool} {AN : Option Addr} {cN : Nat} {l : List Nd} {w w1 w3 : World} (hi : R.imp = true) (h : RdC R a d b AN cN l w) (hw1 : Below w.heap.size w w1) (hg : w1.grownBy w3 (Value.slice AN l.length cN).ownBlock) :
  (∃ v, w3.cell? ⟨R.T, 5, none⟩ = some v) ∧ (∀ i, w3.frozen? ⟨R.T, i, none⟩ = false) ∧ R.T < w3.heap.size := by
 have h2 := h.next hw1
 rw [ownBlk] at hg
 have hb3 : Blk w3 R.T R.ty (R.cells a d b (.slice AN l.length cN)) := h2.1.grown hg (fun e => by
  obtain ⟨cs', hk'⟩ := mine_blk' h2.2.1 e.symm
  exact blk_ne h2.1 hk' R.ty_node rfl)
 have hb4 := hb3
 unfold RC.cells at hb3
 rw [if_pos hi] at hb3
 exact ⟨⟨_, hb3.cell 5⟩, hb4.frozen, hb4.lt⟩
theorem RC.cells_nodes {R : RC} (hi : R.imp = true) (a d : Nat) (b : Bool) (u v : Value) : (R.cells a d b u).setIfInBounds 5 v = R.cells a d b v := by
 unfold RC.cells; rw [if_pos hi, if_pos hi]; simp
theorem infoNd : (prog.info? 36).map (fun i => (i.zero, i.size, i.bytes)) = some (some (.agg #[.int .i64 0, .string ⟨#[]⟩, .slice none 0 0, .bool false]), 4, 56) := by kernel_rfl
theorem nd_new (w : World) (x : Nd) (t : TypeId) : ∀ j v, (nodeCells x)[j]? = some v → (w.alloc (.cells #[.int .i64 x.kind, .string x.text, .slice x.adr x.cnt x.cap, .bool x.blank] t)).cell? ((⟨w.heap.size, 0, none⟩ : Addr).add j) = some v := by
 intro j v hj
 have hb := Blk.new w t #[.int .i64 x.kind, .string x.text, .slice x.adr x.cnt x.cap, .bool x.blank]
 match j, hj with
 | 0, hj => obtain rfl := Option.some.inj hj; exact hb.cell 0
 | 1, hj => obtain rfl := Option.some.inj hj; exact hb.cell 1
 | 2, hj => obtain rfl := Option.some.inj hj; exact hb.cell 2
 | 3, hj => obtain rfl := Option.some.inj hj; exact hb.cell 3
 | j + 4, hj => simp [nodeCells] at hj
theorem nd_one (x : Nd) : ∀ u ∈ nodeCells x, u.oneCell' = true := by
 intro u hu
 simp [nodeCells] at hu
 rcases hu with rfl | rfl | rfl | rfl <;> rfl
theorem add_some {s : PS} {x : PN} (h : s.nodes.length ≠ 300) : addS (some s) x = ((s.nodes.length : Int), some ⟨s.at_, s.nodes ++ [x]⟩) := if_neg h
theorem add_full {s : PS} {x : PN} (h : s.nodes.length = 300) : addS (some s) x = (0, none) := if_pos h
theorem add_any (R : RC) (hi : R.imp = true) (d : Nat) (st : RdSt) (row : Option Nat) (x : Nd) (w : World) (hI : RdI R d st row w) (hx : KidsIn w R.w0.heap.size R.U x) :
    Calls prog 139 #[.pointer (some ⟨R.T, 0, none⟩), .agg #[.int .i64 x.kind, .string x.text, .slice x.adr x.cnt x.cap, .bool x.blank]] w (Does R d row w (.int .i64 (addS st x.pn).1) (addS st x.pn).2) := by
  have hbx : Below w.heap.size w (w.alloc (.cells #[.int .i64 x.kind, .string x.text, .slice x.adr x.cnt x.cap, .bool x.blank] 36)) := grow_
  obtain ⟨a, b, AN, cN, l, hc0, hst, hrow⟩ := id hI
  obtain ⟨c0, c2, c3, c4, c5, cf, cz⟩ := hc0.ci hi
  have hc := hc0.next hbx
  clear c0 c2 c3 hI
  unfold Does
  cases st with
  | none =>
    obtain rfl : b = true := hst
    rw [addS_none]
    have HF := hid (RdI.bad1 hi hc0 hrow)
    clear hc hc0 hbx hx
    go_enter func139, ntmps139
    go_wp2
    go_ret
    exact ⟨rfl, row, HF.out.1.alloc _, HF.out.2.below ((Below.refl _ _).alloc (Nat.le_refl _) _)⟩
  | some s =>
    obtain ⟨rfl, ha, hns⟩ := hst
    have hsl : s.nodes.length = l.length := by rw [hns, List.length_map]
    by_cases hfull : l.length = 300
    · rw [add_full (hsl.trans hfull)]
      have HF := hid (RdI.bad1 hi hc0 hrow)
      rw [hfull] at c5
      clear hc hc0 hbx hx hfull hsl hns
      go_enter func139, ntmps139
      go_wp2
      go_ret
      exact ⟨rfl, row, HF.out.1.alloc _, HF.out.2.below ((Below.refl _ _).alloc (Nat.le_refl _) _)⟩
    · rw [add_some (by omega), hsl]
      have hll := hc.2.2.2.1
      have hlt : l.length < 300 := by omega
      obtain ⟨i0, hi0, hz0, hz1, hz2⟩ := info_parts infoNd
      have HI := hid (And.intro hi0 (And.intro hz0 (And.intro hz1 hz2)))
      have hnf : ((l.length : Int) == 300) = false := by rw [beq_eq_false_iff_ne]; omega
      obtain ⟨d0, d2, d3, d4, d5, df, dz⟩ := hc.ci hi
      have K := Blk.new w 36 #[.int .i64 x.kind, .string x.text, .slice x.adr x.cnt x.cap, .bool x.blank]
      have k0 := K.q0
      have k1 := K.q1
      have k2 := K.q2
      have k3 := K.q3
      have kz := K.lt
      have kf := K.frozen
      have HX := hid (hx.next hbx)
      have HC := hid hc
      have HB := hid hbx
      have HP := hid (fun (v' : Value) (w3 : World) h1 h2 h3 => hc.push x (hx.next hbx) hlt (w1 := (w.alloc (.cells #[.int .i64 x.kind, .string x.text, .slice x.adr x.cnt x.cap, .bool x.blank] 36)).alloc (.cells #[.int .i64 x.kind, .string x.text, .slice x.adr x.cnt x.cap, .bool x.blank] 36)) ((Below.refl _ _).alloc (Nat.le_refl _) _) (i := 5) (v' := v') (w3 := w3) h1 h2 h3 (RC.cells_nodes hi _ _ _ _ _))
      have H3 := hid (fun (w3 : World) h => hc.blk3 hi (w1 := (w.alloc (.cells #[.int .i64 x.kind, .string x.text, .slice x.adr x.cnt x.cap, .bool x.blank] 36)).alloc (.cells #[.int .i64 x.kind, .string x.text, .slice x.adr x.cnt x.cap, .bool x.blank] 36)) (w3 := w3) ((Below.refl _ _).alloc (Nat.le_refl _) _) h)
      have hcn := nd_new (w.alloc (.cells #[.int .i64 x.kind, .string x.text, .slice x.adr x.cnt x.cap, .bool x.blank] 36)) x 36
      rw [World.size_alloc] at hcn
      have HCN := hid hcn
      have HM := hid (Mine.alloc hc.2.1 (.cells #[.int .i64 x.kind, .string x.text, .slice x.adr x.cnt x.cap, .bool x.blank] 36))
      have hbz : R.w0.heap.size ≤ ((w.alloc (.cells #[.int .i64 x.kind, .string x.text, .slice x.adr x.cnt x.cap, .bool x.blank] 36)).alloc (.cells #[.int .i64 x.kind, .string x.text, .slice x.adr x.cnt x.cap, .bool x.blank] 36)).heap.size := by
        have := hc0.2.2.2.2.2.1.size; simp only [World.size_alloc]; omega
      have HBZ := hid hbz
      have HKb := hid (show Kr R.T row w row (w.alloc (.cells #[.int .i64 x.kind, .string x.text, .slice x.adr x.cnt x.cap, .bool x.blank] 36)) from Kr.of_below hbx)
      have hbl : s.at_ = a ∧ s.nodes = l.map Nd.pn := ⟨ha, hns⟩
      have HH := hid hbl
      have HR := hid hrow
      have b5 : ∀ o, ((w.alloc (.cells #[.int .i64 x.kind, .string x.text, .slice x.adr x.cnt x.cap, .bool x.blank] 36)).alloc o).cell? ⟨R.T, 5, none⟩ = some (.slice AN l.length cN) := fun o => ((hc.next ((Below.refl _ _).alloc (Nat.le_refl _) o)).ci hi).2.2.2.2.1
      have bk0 : ∀ o, ((w.alloc (.cells #[.int .i64 x.kind, .string x.text, .slice x.adr x.cnt x.cap, .bool x.blank] 36)).alloc o).cell? ⟨w.heap.size, 0, none⟩ = some (.int .i64 x.kind) := fun o => (K.alloc o).cell 0
      have bk1 : ∀ o, ((w.alloc (.cells #[.int .i64 x.kind, .string x.text, .slice x.adr x.cnt x.cap, .bool x.blank] 36)).alloc o).cell? ⟨w.heap.size, 1, none⟩ = some (.string x.text) := fun o => (K.alloc o).cell 1
      have bk2 : ∀ o, ((w.alloc (.cells #[.int .i64 x.kind, .string x.text, .slice x.adr x.cnt x.cap, .bool x.blank] 36)).alloc o).cell? ⟨w.heap.size, 2, none⟩ = some (.slice x.adr x.cnt x.cap) := fun o => (K.alloc o).cell 2
      have bk3 : ∀ o, ((w.alloc (.cells #[.int .i64 x.kind, .string x.text, .slice x.adr x.cnt x.cap, .bool x.blank] 36)).alloc o).cell? ⟨w.heap.size, 3, none⟩ = some (.bool x.blank) := fun o => (K.alloc o).cell 3
      have hnb : ((w.alloc (.cells #[.int .i64 x.kind, .string x.text, .slice x.adr x.cnt x.cap, .bool x.blank] 36)).alloc (.cells #[.int .i64 x.kind, .string x.text, .slice x.adr x.cnt x.cap, .bool x.blank] 36)).heap[w.heap.size + 1]? = some (.cells #[.int .i64 x.kind, .string x.text, .slice x.adr x.cnt x.cap, .bool x.blank] 36 (0, 0)) := by
        have := heap_alloc_new (w.alloc (.cells #[.int .i64 x.kind, .string x.text, .slice x.adr x.cnt x.cap, .bool x.blank] 36)) (.cells #[.int .i64 x.kind, .string x.text, .slice x.adr x.cnt x.cap, .bool x.blank] 36)
        rwa [World.size_alloc] at this
      clear hi0 hz0 hz1 hz2 hc hc0 hbx hx c4 c5 cf cz K d0 d2 d3 hcn hbz hbl ha hns hrow HC HCN
      go_enter func139, ntmps139
      go_upto_region 4 with fail
      go_region_law
        (refine step_append_lies _ rfl (.tmp 24) (.tmp 26) 31 rfl R.w0.heap.size 36 i0 (.agg #[.int .i64 0, .string ⟨#[]⟩, .slice none 0 0, .bool false]) 4 56 underlying31 HI.out.1 HI.out.2.1 HI.out.2.2.1 HI.out.2.2.2 rfl (by decide) (.slice AN l.length cN) l.length (l.flatMap nodeCells) (by first | (simp [Act.eval]; done) | (simp [Act.eval, Act.put]; done) | rfl) (by first | exact HM.out.drew | exact HM.out) ⟨w.heap.size + 1, 0, none⟩ 1 1 (nodeCells x) (by first | (simp [Act.eval]; done) | (simp [Act.eval, Act.put]; done) | rfl) (by rfl) (World.news_of_block (cs := #[.int .i64 x.kind, .string x.text, .slice x.adr x.cnt x.cap, .bool x.blank]) (t := 36) (fr := (0, 0)) hnb) (nd_one _) (by decide) (by unfold maxLen; omega) (by omega) (by first | exact HBZ.out) (w.heap.size + 1 + 1) (by simp) ?_
         intro q cap w6 hown6 hgrow hat hlt6
         have hgrow2 : ((w.alloc (.cells #[.int .i64 x.kind, .string x.text, .slice x.adr x.cnt x.cap, .bool x.blank] 36)).alloc (.cells #[.int .i64 x.kind, .string x.text, .slice x.adr x.cnt x.cap, .bool x.blank] 36)).grownBy w6 (Value.slice AN l.length cN).ownBlock := (by first | exact hgrow | exact grown_undrewP hgrow)
         obtain ⟨⟨v5, j5⟩, jf, jz⟩ := H3.out _ hgrow2
         have HW := hid (HP.out _ _ hown6 hgrow2 (hat.elim (fun e => .inl e.symm) (fun e => .inr (by rw [e]; simp [Value.ownBlock]))))
         clear hown6 hgrow hat hgrow2)
      all_goals
        obtain ⟨A3, c3, ev, hC3, hK3⟩ := HW.out
        injection ev with ev1 ev2 ev3
        subst ev1; subst ev3
        have HC3 := hid hC3
        have HK3 := hid hK3
        clear hC3 hK3 HW ev2
        go_wp2
        go_ret
        refine ⟨rfl, _, ⟨a, false, _, _, _, HC3.out, ⟨rfl, HH.out.1, ?_⟩, rfl⟩, ?_⟩
        · rw [HH.out.2, List.map_append]; rfl
        · exact HKb.out.trans (by rw [HR.out]; exact HK3.out)
end Go.Proofs.YtgbikafalcbibaaGreatDoor

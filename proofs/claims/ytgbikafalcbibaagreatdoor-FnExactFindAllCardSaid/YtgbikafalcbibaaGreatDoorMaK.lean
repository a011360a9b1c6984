/-
  Put together by program (shake.py):ParA,Row,MineB,ParP,ParB,ParC,Step,ParD.
-/
import Derived.Test.YtgbikafalcbibaaGreatDoorMaD
import Derived.Deep.AppendLies
set_option maxRecDepth 100000
set_option linter.all false
set_option maxHeartbeats 25600000
open Go.Lib (hid)
open Go.Proofs.Tryz
namespace Go.Proofs.YtgbikafalcbibaaGreatDoor
open Go.RowKit
structure PS where
 at_:Nat
 nodes:List PN
abbrev RdSt:=Option PS
abbrev PR:=Int × RdSt
abbrev sgZero:SgP:=(0,⟨#[]⟩,0,false)
def bt (l:List UInt8):BA:=⟨l.toArray⟩
abbrev noT:BA:=⟨#[]⟩
section
variable (sg:List SgP)
def Qu_ (st:RdSt) (i:Nat):SgP:=match st with|none=>sgZero|some s=>(sg[s.at_+i]?).getD sgZero
def isM (st:RdSt) (m:BA):Bool:=((Qu_ sg st 0).1==4)&&((Qu_ sg st 0).2.1.toList==m.toList)
def isW (st:RdSt) (m:BA):Bool:=((Qu_ sg st 0).1==1)&&((Qu_ sg st 0).2.1.toList==m.toList)
def Kd_ (st:RdSt) (i:Nat):Bool:=((Qu_ sg st i).1==1)&&!X3_ (Qu_ sg st i).2.1
def Qe_ (st:RdSt):RdSt:=st.map (fun s=>⟨s.at_+1,s.nodes⟩)
def Qk_ (st:RdSt) (m:BA):RdSt:=if isM sg st m=true then Qe_ st else none
def KC_ (st:RdSt) (x:PN):PR:=match st with|none=>(0,none)|some s=>if s.nodes.length=300 then (0,none)else ((s.nodes.length:Int),some ⟨s.at_,s.nodes++[x]⟩)
def YD_ (k:Int) (st:RdSt):PR:=((KC_ st ⟨k,(Qu_ sg st 0).2.1,[],false⟩).1,Qe_ (KC_ st ⟨k,(Qu_ sg st 0).2.1,[],false⟩).2)
def Qi_ (st:RdSt):PR:=if Kd_ sg st 0=true then YD_ sg 1 st else (0,none)
def nmS (st:RdSt):RdSt:=if Kd_ sg st 0=true then Qe_ st else none
def nmT (st:RdSt):BA:=if Kd_ sg st 0=true then (Qu_ sg st 0).2.1 else noT
def QF_ (one:RdSt->PR) (m:BA):Nat->LI->RdSt->LI × RdSt
 |0,ks,st=>(ks,st)
 |n+1,ks,st=>
  if st.isNone=true then (ks,st)
  else if isM sg st m=true then (ks,st)
  else if isM sg (one st).2 ⟨#[44]⟩=true then QF_ one m n (ks++[(one st).1]) (Qe_ (one st).2)
  else (ks++[(one st).1],(one st).2)
def Yc_ (one:RdSt->PR) (N:Nat) (k:Int) (st:RdSt):PR:=
 KC_ (Qk_ sg (QF_ sg one ⟨#[41]⟩ N [] (Qk_ sg st ⟨#[40]⟩)).2 ⟨#[41]⟩) ⟨5,noT,k::(QF_ sg one ⟨#[41]⟩ N [] (Qk_ sg st ⟨#[40]⟩)).1,false⟩
def YS_ (one:RdSt->PR) (N:Nat):Nat->LI->RdSt->LI × RdSt
 |0,ks,st=>(ks,st)
 |n+1,ks,st=>
  if isM sg st ⟨#[46,46]⟩=true then YS_ one N n (ks++[(Yc_ sg one N (Qi_ sg (Qe_ st)).1 (Qi_ sg (Qe_ st)).2).1]) (Yc_ sg one N (Qi_ sg (Qe_ st)).1 (Qi_ sg (Qe_ st)).2).2
  else (ks,st)
def GK_ (one:RdSt->PR) (m:BA):Nat->LI->RdSt->LI × RdSt
 |0,ks,st=>(ks,st)
 |n+1,ks,st=>if isM sg st m=true then GK_ one m n (ks++[(one (Qe_ st)).1]) (one (Qe_ st)).2 else (ks,st)
def K8_ (l:Nat):List BA:=
 if l=0 then [⟨#[124,124]⟩]else if l=1 then [⟨#[38,38]⟩]else if l=2 then [⟨#[61,61]⟩]else if l=3 then [⟨#[60]⟩]else if l=4 then [⟨#[43]⟩,⟨#[45]⟩]else [⟨#[42]⟩]
def Zs_ (st:RdSt):List BA->BA
 |[]=>noT
 |m::r=>if isM sg st m=true then m else Zs_ st r
def KK_ (st:RdSt) (l:Nat):BA:=Zs_ sg st (K8_ l)
def Zp_ (one:RdSt->PR) (l N:Nat):Nat->Int->RdSt->PR
 |0,k,st=>(k,st)
 |n+1,k,st=>
  if (KK_ sg st l).toList==[]then (k,st)
  else Zp_ one l N n (KC_ (GK_ sg one (KK_ sg st l) N [k] st).2 ⟨7,KK_ sg st l,(GK_ sg one (KK_ sg st l) N [k] st).1,false⟩).1 (KC_ (GK_ sg one (KK_ sg st l) N [k] st).2 ⟨7,KK_ sg st l,(GK_ sg one (KK_ sg st l) N [k] st).1,false⟩).2
def W1_ (one:RdSt->PR) (N:Nat):Nat->Int->RdSt->PR
 |0,k,st=>(k,st)
 |n+1,k,st=>
  if st.isNone=true then (k,st)
  else if isM sg st ⟨#[40]⟩=true then W1_ one N n (Yc_ sg one N k st).1 (Yc_ sg one N k st).2
  else if isM sg st ⟨#[46]⟩=true then
   (if Kd_ sg (Qe_ st) 0=true then W1_ one N n (KC_ (Qe_ st) ⟨6,(Qu_ sg (Qe_ st) 0).2.1,[k],false⟩).1 (Qe_ (KC_ (Qe_ st) ⟨6,(Qu_ sg (Qe_ st) 0).2.1,[k],false⟩).2)else (0,none))
  else (k,st)
def fnF (st:RdSt):Nat->Nat->Nat
 |0,i=>i
 |f+1,i=>if Kd_ sg st i=true then (if (Qu_ sg st (i+1)).2.1.toList==[44]then fnF st f (i+2)else i+1)else i
def fnB (st:RdSt):Bool:=((Qu_ sg st (fnF sg st (sg.length+1) 1)).2.1.toList==[41])&&((Qu_ sg st (fnF sg st (sg.length+1) 1+1)).2.1.toList==[61,62])
inductive Md
 |value|pick|chain (l:Nat)|end_|base|stmt (b:Bool)|block
variable (E:Md->Nat->RdSt->PR) (N:Nat)
def Xg_ (d:Nat) (st:RdSt):PR:=
 if isM sg (E .pick d st).2 ⟨#[46,46]⟩=true then KC_ (YS_ sg (E .value d) N N [(E .pick d st).1] (E .pick d st).2).2 ⟨10,noT,(YS_ sg (E .value d) N N [(E .pick d st).1] (E .pick d st).2).1,false⟩
 else E .pick d st
def Ks_ (d:Nat) (st:RdSt):RdSt:=if d=20 then none else st
def Vf_ (d:Nat) (st:RdSt):PR:=
 let r:=E (.chain 0) (d+1) (Ks_ d st)
 if isM sg r.2 ⟨#[63]⟩=true then
  let a:=E .pick (d+1) (Qe_ r.2)
  let b:=E .pick (d+1) (Qk_ sg a.2 ⟨#[58]⟩)
  KC_ b.2 ⟨8,noT,[r.1,a.1,b.1],false⟩
 else r
def Xa_ (l d:Nat) (st:RdSt):PR:=
 if l=6 then E .end_ d st else Zp_ sg (E (.chain (l+1)) d) l N N (E (.chain (l+1)) d st).1 (E (.chain (l+1)) d st).2
def endS (d:Nat) (st:RdSt):PR:=W1_ sg (E .value d) N N (E .base d st).1 (E .base d st).2
def fnS (d:Nat) (st:RdSt):PR:=
 let q:=QF_ sg (Qi_ sg) ⟨#[41]⟩ N [] (Qk_ sg st ⟨#[40]⟩)
 let r:=E .pick d (Qk_ sg (Qk_ sg q.2 ⟨#[41]⟩) ⟨#[61,62]⟩)
 KC_ r.2 ⟨9,noT,q.1++[r.1],false⟩
def Qcs_ (d:Nat) (st:RdSt):PR:=
 let q:=QF_ sg (E .value d) ⟨#[93]⟩ N [] (Qe_ st)
 KC_ (Qk_ sg q.2 ⟨#[93]⟩) ⟨4,noT,q.1,false⟩
def parS (d:Nat) (st:RdSt):PR:=
 let r:=E .value d (Qe_ st)
 KC_ (Qk_ sg r.2 ⟨#[41]⟩) ⟨11,noT,[r.1],false⟩
def Yx_ (d:Nat) (st:RdSt):PR:=
 if (Qu_ sg st 0).1=1 then Qi_ sg st
 else if (Qu_ sg st 0).1=2 then YD_ sg 2 st
 else if (Qu_ sg st 0).1=3 then YD_ sg 3 st
 else if isM sg st ⟨#[91]⟩=true then Qcs_ sg E N d st
 else if isM sg st ⟨#[40]⟩=true then (if fnB sg st=true then fnS sg E N d st else parS sg E d st)
 else (0,none)
def Xj_ (b:Bool) (st:RdSt):PR:=((KC_ st ⟨19,(Qu_ sg st 0).2.1,[],b⟩).1,Qe_ (KC_ st ⟨19,(Qu_ sg st 0).2.1,[],b⟩).2)
def Ji_ (d:Nat) (b:Bool) (st:RdSt):PR:=
 if isM sg (nmS sg st) ⟨#[61]⟩=true then
  let r:=E .value d (Qe_ (nmS sg st))
  KC_ (Qk_ sg r.2 ⟨#[59]⟩) ⟨12,nmT sg st,[r.1],b⟩
 else KC_ (Qk_ sg (nmS sg st) ⟨#[59]⟩) ⟨12,nmT sg st,[],b⟩
def Yk_ (d:Nat) (b:Bool) (st:RdSt):PR:=
 if isM sg st ⟨#[59]⟩=true then KC_ (Qk_ sg st ⟨#[59]⟩) ⟨15,noT,[],b⟩
 else
  let r:=E .value d st
  KC_ (Qk_ sg r.2 ⟨#[59]⟩) ⟨15,noT,[r.1],b⟩
def JB_ (d:Nat) (st:RdSt):PR:=((E .value d (Qk_ sg st ⟨#[40]⟩)).1,Qk_ sg (E .value d (Qk_ sg st ⟨#[40]⟩)).2 ⟨#[41]⟩)
def ifS (d:Nat) (b:Bool) (st:RdSt):PR:=
 let c:=JB_ sg E d st
 let t:=E .block d c.2
 if isW sg t.2 ⟨#[101,108,115,101]⟩=true then
  let o:=E .block d (Qe_ t.2)
  KC_ o.2 ⟨16,noT,[c.1,t.1,o.1],b⟩
 else KC_ t.2 ⟨16,noT,[c.1,t.1],b⟩
def zY_ (d:Nat) (b:Bool) (st:RdSt):PR:=
 let c:=JB_ sg E d st
 let t:=E .block d c.2
 KC_ t.2 ⟨17,noT,[c.1,t.1],b⟩
def setS (d:Nat) (b:Bool) (st:RdSt):PR:=
 let r:=E .value d (Qe_ (Qe_ st))
 KC_ (Qk_ sg r.2 ⟨#[59]⟩) ⟨13,nmT sg st,[r.1],b⟩
def doS (d:Nat) (b:Bool) (st:RdSt):PR:=
 let r:=E .value d st
 KC_ (Qk_ sg r.2 ⟨#[59]⟩) ⟨14,noT,[r.1],b⟩
def setB (st:RdSt):Bool:=Kd_ sg st 0&&(((Qu_ sg st 1).2.1.toList==[61])&&((Qu_ sg st 1).1==4))
def ZH_ (d:Nat) (b:Bool) (st:RdSt):PR:=
 if (Qu_ sg st 0).1=5 then Xj_ sg b st
 else if isW sg st ⟨#[118,97,114]⟩=true then Ji_ sg E d b (Qe_ st)
 else if isW sg st ⟨#[114,101,116,117,114,110]⟩=true then Yk_ sg E d b (Qe_ st)
 else if isW sg st ⟨#[105,102]⟩=true then ifS sg E d b (Qe_ st)
 else if isW sg st ⟨#[119,104,105,108,101]⟩=true then zY_ sg E d b (Qe_ st)
 else if setB sg st=true then setS sg E d b st
 else doS sg E d b st
def XE_ (st:RdSt) (ks:LI):Bool:=(Qu_ sg st 0).2.2.2&&decide (0 < ks.length)
def Zo_ (one:Bool->RdSt->PR):Nat->LI->RdSt->LI × RdSt
 |0,ks,st=>(ks,st)
 |n+1,ks,st=>
  if st.isNone=true then (ks,st)
  else if isM sg st ⟨#[125]⟩=true then (ks,st)
  else Zo_ one n (ks++[(one (XE_ sg st ks) st).1]) (one (XE_ sg st ks) st).2
def Ya_ (d:Nat) (st:RdSt):PR:=
 let q:=Zo_ sg (fun b=>E (.stmt b) (d+1)) N [] (Qk_ sg (Ks_ d st) ⟨#[123]⟩)
 KC_ (Qk_ sg q.2 ⟨#[125]⟩) ⟨18,noT,q.1,false⟩
def Qbp_:Md->Nat->RdSt->PR
 |.value=>Xg_ sg E N
 |.pick=>Vf_ sg E
 |.chain l=>Xa_ sg E N l
 |.end_=>endS sg E N
 |.base=>Yx_ sg E N
 |.stmt b=>fun d st=>ZH_ sg E d b st
 |.block=>Ya_ sg E N
def Qd_:Nat->Md->Nat->RdSt->PR
 |0=>fun _ _ _=>(0,none)
 |f+1=>Qbp_ sg (Qd_ f) N
def VH_ (b:Bool) (st:RdSt):PR:=
 let q:=QF_ sg (Qi_ sg) ⟨#[41]⟩ N [] (Qk_ sg (nmS sg st) ⟨#[40]⟩)
 let r:=E .block 0 (Qk_ sg q.2 ⟨#[41]⟩)
 KC_ r.2 ⟨20,nmT sg st,q.1++[r.1],b⟩
def VS_ (b:Bool) (st:RdSt):PR:=
 if (Qu_ sg st 0).1=5 then Xj_ sg b st
 else if isW sg st ⟨#[118,97,114]⟩=true then Ji_ sg E 0 b (Qe_ st)
 else VH_ sg E N b st
def YW_ (b:Bool) (st:RdSt):PR:=
 let q:=Zo_ sg (VS_ sg E N) N [] (Qk_ sg (nmS sg st) ⟨#[123]⟩)
 KC_ (Qk_ sg q.2 ⟨#[125]⟩) ⟨21,nmT sg st,q.1,b⟩
def YU_ (b:Bool) (st:RdSt):PR:=
 if (Qu_ sg st 0).1=5 then Xj_ sg b st
 else if isW sg st ⟨#[118,97,114]⟩=true then Ji_ sg E 0 b (Qe_ st)
 else if isW sg st ⟨#[99,108,97,115,115]⟩=true then YW_ sg E N b (Qe_ st)
 else VH_ sg E N b st
def jw_ (st:RdSt):Bool:=match st with|none=>false|some s=>decide (s.at_ < sg.length)
def XI_:Nat->LI->RdSt->LI × RdSt
 |0,ks,st=>(ks,st)
 |n+1,ks,st=>if jw_ sg st=true then XI_ n (ks++[(YU_ sg E N (XE_ sg st ks) st).1]) (YU_ sg E N (XE_ sg st ks) st).2 else (ks,st)
def kp_ (st:RdSt):RdSt:=(KC_ (XI_ sg E N N [] st).2 ⟨22,noT,(XI_ sg E N N [] st).1,false⟩).2
end
def ZD_ (sg:List SgP):RdSt:=kp_ sg (Qd_ sg (sg.length+2) (14 * (sg.length+2))) (sg.length+2) (some ⟨0,[]⟩)
section
variable {sg:List SgP} {st st' st2:RdSt} {s:PS} {m:BA}
theorem WB_ (i:Nat):Qu_ sg none i=sgZero:=rfl
theorem ZK_:isM sg none m=false:=rfl
theorem vt_:isW sg none m=false:=rfl
theorem zF_ (i:Nat):Kd_ sg none i=false:=rfl
theorem zO_:Qe_ none=none:=rfl
theorem ZF_:Qk_ sg none m=none:=by unfold Qk_;rw[ZK_];rfl
theorem Z6_ (x:PN):KC_ none x=(0,none):=rfl
theorem Vs_ (one:RdSt->PR) (n:Nat) (ks:LI):QF_ sg one m n ks none=(ks,none):=by
 cases n with
 |zero=>rfl
 |succ n=>unfold QF_;exact if_pos rfl
theorem QcV_ (one:RdSt->PR) (n:Nat) (ks:LI):GK_ sg one m n ks none=(ks,none):=by
 cases n with
 |zero=>rfl
 |succ n=>unfold GK_;rw[ZK_,if_neg (by decide)]
theorem X6_:(noT.toList==[])=true:=by rw[ByteArray.toList_eq];rfl
theorem QaE_ (l:List BA):Zs_ sg none l=noT:=by
 induction l with
 |nil=>rfl
 |cons a l ih=>unfold Zs_;rw[ZK_,if_neg (by decide)];exact ih
theorem zC_ (l:Nat):KK_ sg none l=noT:=QaE_ _
theorem ZV_ (one:RdSt->PR) (l N n:Nat) (k:Int):Zp_ sg one l N n k none=(k,none):=by
 cases n with
 |zero=>rfl
 |succ n=>unfold Zp_;rw[zC_,if_pos X6_]
theorem YY_ (one:RdSt->PR) (N n:Nat) (k:Int):W1_ sg one N n k none=(k,none):=by
 cases n with
 |zero=>rfl
 |succ n=>unfold W1_;exact if_pos rfl
theorem Xs_ (one:Bool->RdSt->PR) (n:Nat) (ks:LI):Zo_ sg one n ks none=(ks,none):=by
 cases n with
 |zero=>rfl
 |succ n=>unfold Zo_;exact if_pos rfl
theorem GD_ (d:Nat):Ks_ d none=none:=by unfold Ks_;split<;>rfl
end
section
variable {sg:List SgP} {E:Md->Nat->RdSt->PR} {N:Nat}
theorem GS_ (hE:∀m d,E m d none=(0,none)):∀m d,Qbp_ sg E N m d none=(0,none):=by
 intro m d;have hs:∀b,ZH_ sg E d b none=(0,none):=fun b=>by
  unfold ZH_ doS;simp only[WB_,vt_,hE,ZF_,Z6_,setB,zF_]
  rfl
 cases m with
 |value=>show Xg_ sg E N d none=_;unfold Xg_;rw[hE,if_neg (by rw[ZK_];decide)]
 |pick=>show Vf_ sg E d none=_;unfold Vf_;rw[GD_,hE];simp only[ZK_];rfl
 |chain l=>show Xa_ sg E N l d none=_;unfold Xa_;rw[hE,hE];simp only[ZV_];split<;>rfl
 |end_=>show endS sg E N d none=_;unfold endS;rw[hE];exact YY_ _ _ _ _
 |base=>show Yx_ sg E N d none=_;unfold Yx_;simp only[WB_,ZK_];rfl
 |stmt b=>exact hs b
 |block=>show Ya_ sg E N d none=_;unfold Ya_;rw[GD_,ZF_,Xs_];simp only[ZF_];rfl
theorem Xt_:∀(f:Nat) (m:Md) (d:Nat),Qd_ sg N f m d none=(0,none):=by
 intro f
 induction f with
 |zero=>intro m d;rfl
 |succ f ih=>exact GS_ ih
end
def Adv (i j:Nat) (st st':RdSt):Prop:=∀t,st'=some t->∃s,st=some s/\s.at_+i<=t.at_/\s.nodes.length+j<=t.nodes.length
section
variable {sg:List SgP} {st st' st2:RdSt} {i j i' j':Nat}
theorem Adv.trans (h:Adv i j st st') (k:Adv i' j' st' st2):Adv (i+i') (j+j') st st2:=fun t e=>by
 obtain⟨s',e',h1,h2⟩:=k t e;obtain⟨s,e2,h3,h4⟩:=h s' e';exact⟨s,e2,oo,oo⟩
theorem Adv.weak (h:Adv i j st st') (h1:i'<=i) (h2:j'<=j):Adv i' j' st st':=fun t e=>by
 obtain⟨s,e2,h3,h4⟩:=h t e;exact⟨s,e2,oo,oo⟩
theorem Adv.refl (st:RdSt):Adv 0 0 st st:=fun t e=>⟨t,e,Nat.le_refl _,Nat.le_refl _⟩
theorem Adv.bad (i j:Nat) (st:RdSt):Adv i j st none:=fun t e=>by cases e
theorem Qh_ (st:RdSt):Adv 1 0 st (Qe_ st):=fun t e=>by
 cases st with
 |none=>cases e
 |some s=>obtain rfl:=Option.some.inj e;exact⟨s,rfl,Nat.le_refl _,Nat.le_refl _⟩
theorem Qo_ (st:RdSt) (m:BA):Adv 1 0 st (Qk_ sg st m):=by
 unfold Qk_;split
 ·exact Qh_ st
 ·exact Adv.bad _ _ _
theorem Jm_ (st:RdSt):Adv 1 0 st (nmS sg st):=by
 unfold nmS;split
 ·exact Qh_ st
 ·exact Adv.bad _ _ _
theorem Xn_ (d:Nat) (st:RdSt):Adv 0 0 st (Ks_ d st):=by
 unfold Ks_;split
 ·exact Adv.bad _ _ _
 ·exact Adv.refl _
theorem Q5_ (st:RdSt) (x:PN):Adv 0 1 st (KC_ st x).2:=fun t e=>by
 unfold KC_ at e
 cases st with
 |none=>cases e
 |some s=>
  simp only at e;split at e
  ·cases e
  ·obtain rfl:=Option.some.inj e;exact⟨s,rfl,by simp,by simp⟩
theorem z0_ (k:Int) (st:RdSt):Adv 1 1 st (YD_ sg k st).2:=((Q5_ st _).trans (Qh_ _)).weak oo oo
theorem QS_ (st:RdSt):Adv 1 1 st (Qi_ sg st).2:=by
 unfold Qi_;split
 ·exact z0_ 1 st
 ·exact Adv.bad _ _ _
theorem z2_ (b:Bool) (st:RdSt):Adv 1 1 st (Xj_ sg b st).2:=((Q5_ st _).trans (Qh_ _)).weak oo oo
theorem Yv_ {one:RdSt->PR} (h1:∀st,Adv 1 1 st (one st).2) (m:BA):∀(n:Nat) (ks:LI) (st:RdSt),ks.length<=(QF_ sg one m n ks st).1.length/\Adv 0 ((QF_ sg one m n ks st).1.length - ks.length) st (QF_ sg one m n ks st).2:=by
 intro n
 induction n with
 |zero=>intro ks st;exact⟨Nat.le_refl _,by simpa[QF_]using Adv.refl st⟩
 |succ n ih=>
  intro ks st;unfold QF_;split
  ·exact⟨Nat.le_refl _,by simpa using Adv.refl st⟩
  ·split
   ·exact⟨Nat.le_refl _,by simpa using Adv.refl st⟩
   ·split
    ·obtain⟨g1,g2⟩:=ih (ks++[(one st).1]) (Qe_ (one st).2);simp only[lA,List.length_singleton]at g1 g2;refine⟨oo,(((h1 st).trans (Qh_ _)).trans g2).weak oo oo⟩
    ·simp only[lA,List.length_singleton];exact⟨oo,(h1 st).weak oo oo⟩
theorem Vn_ {one:RdSt->PR} (h1:∀st,Adv 1 1 st (one st).2) (N:Nat) (k:Int) (st:RdSt):Adv 1 1 st (Yc_ sg one N k st).2:=by
 unfold Yc_;exact((((Qo_ st _).trans (Yv_ h1 _ _ _ _).2).trans (Qo_ _ _)).trans (Q5_ _ _)).weak oo oo
theorem j6_ {one:RdSt->PR} (h1:∀st,Adv 1 1 st (one st).2) (N:Nat):∀(n:Nat) (ks:LI) (st:RdSt),ks.length<=(YS_ sg one N n ks st).1.length/\Adv 0 ((YS_ sg one N n ks st).1.length - ks.length) st (YS_ sg one N n ks st).2:=by
 intro n
 induction n with
 |zero=>intro ks st;exact⟨Nat.le_refl _,by simpa[YS_]using Adv.refl st⟩
 |succ n ih=>
  intro ks st;unfold YS_;split
  ·obtain⟨g1,g2⟩:=ih (ks++[(Yc_ sg one N (Qi_ sg (Qe_ st)).1 (Qi_ sg (Qe_ st)).2).1]) (Yc_ sg one N (Qi_ sg (Qe_ st)).1 (Qi_ sg (Qe_ st)).2).2;simp only[lA,List.length_singleton]at g1 g2;exact⟨oo,((((Qh_ st).trans (QS_ _)).trans (Vn_ h1 N _ _)).trans g2).weak oo oo⟩
  ·exact⟨Nat.le_refl _,by simpa using Adv.refl st⟩
theorem xQ_ {one:RdSt->PR} (h1:∀st,Adv 1 1 st (one st).2) (m:BA):∀(n:Nat) (ks:LI) (st:RdSt),ks.length<=(GK_ sg one m n ks st).1.length/\Adv 0 ((GK_ sg one m n ks st).1.length - ks.length) st (GK_ sg one m n ks st).2:=by
 intro n
 induction n with
 |zero=>intro ks st;exact⟨Nat.le_refl _,by simpa[GK_]using Adv.refl st⟩
 |succ n ih=>
  intro ks st;unfold GK_;split
  ·obtain⟨g1,g2⟩:=ih (ks++[(one (Qe_ st)).1]) (one (Qe_ st)).2;simp only[lA,List.length_singleton]at g1 g2;exact⟨oo,(((Qh_ st).trans (h1 _)).trans g2).weak oo oo⟩
  ·exact⟨Nat.le_refl _,by simpa using Adv.refl st⟩
theorem QbE_ {one:RdSt->PR} (h1:∀st,Adv 1 1 st (one st).2) (l N:Nat):∀(n:Nat) (k:Int) (st:RdSt),Adv 0 0 st (Zp_ sg one l N n k st).2:=by
 intro n
 induction n with
 |zero=>intro k st;exact Adv.refl st
 |succ n ih=>
  intro k st;unfold Zp_;split
  ·exact Adv.refl st
  ·exact(((xQ_ h1 _ N [k] st).2.trans (Q5_ _ _)).trans (ih _ _)).weak oo oo
theorem Qfd_ {one:RdSt->PR} (h1:∀st,Adv 1 1 st (one st).2) (N:Nat):∀(n:Nat) (k:Int) (st:RdSt),Adv 0 0 st (W1_ sg one N n k st).2:=by
 intro n
 induction n with
 |zero=>intro k st;exact Adv.refl st
 |succ n ih=>
  intro k st;unfold W1_;split
  ·exact Adv.refl st
  ·split
   ·exact((Vn_ h1 N k st).trans (ih _ _)).weak oo oo
   ·split
    ·split
     ·exact((((Qh_ st).trans (Q5_ _ _)).trans (Qh_ _)).trans (ih _ _)).weak oo oo
     ·exact Adv.bad _ _ _
    ·exact Adv.refl st
theorem zZ_ {one:Bool->RdSt->PR} (h1:∀b st,Adv 1 1 st (one b st).2):∀(n:Nat) (ks:LI) (st:RdSt),ks.length<=(Zo_ sg one n ks st).1.length/\Adv 0 ((Zo_ sg one n ks st).1.length - ks.length) st (Zo_ sg one n ks st).2:=by
 intro n
 induction n with
 |zero=>intro ks st;exact⟨Nat.le_refl _,by simpa[Zo_]using Adv.refl st⟩
 |succ n ih=>
  intro ks st;unfold Zo_;split
  ·exact⟨Nat.le_refl _,by simpa using Adv.refl st⟩
  ·split
   ·exact⟨Nat.le_refl _,by simpa using Adv.refl st⟩
   ·obtain⟨g1,g2⟩:=ih (ks++[(one (XE_ sg st ks) st).1]) (one (XE_ sg st ks) st).2;simp only[lA,List.length_singleton]at g1 g2;exact⟨oo,((h1 _ st).trans g2).weak oo oo⟩
end
section
variable {sg:List SgP} {E:Md->Nat->RdSt->PR} {N:Nat} (hE:∀m d st,Adv 1 1 st (E m d st).2)
include hE
theorem QbF_ (d:Nat) (st:RdSt):Adv 1 1 st (Xg_ sg E N d st).2:=by
 unfold Xg_;split
 ·exact(((hE .pick d st).trans (j6_ (hE .value d) N N _ _).2).trans (Q5_ _ _)).weak oo oo
 ·exact hE _ _ _
theorem QdH_ (d:Nat) (st:RdSt):Adv 1 1 st (Vf_ sg E d st).2:=by
 unfold Vf_;simp only;split
 ·exact(((((((Xn_ d st).trans (hE (.chain 0) (d+1) _)).trans (Qh_ _)).trans (hE .pick (d+1) _)).trans (Qo_ _ _)).trans (hE .pick (d+1) _)).trans (Q5_ _ _)).weak oo oo
 ·exact((Xn_ d st).trans (hE (.chain 0) (d+1) _)).weak oo oo
theorem QgF_ (d:Nat) (st:RdSt):Adv 1 1 st (fnS sg E N d st).2:=by
 unfold fnS;exact((((((Qo_ st _).trans (Yv_ QS_ _ _ _ _).2).trans (Qo_ _ _)).trans (Qo_ _ _)).trans (hE .pick d _)).trans (Q5_ _ _)).weak oo oo
theorem QdF_ (d:Nat) (st:RdSt):Adv 1 1 st (Yx_ sg E N d st).2:=by
 unfold Yx_;split
 ·exact QS_ st
 ·split
  ·exact z0_ _ st
  ·split
   ·exact z0_ _ st
   ·split
    ·exact((((Qh_ st).trans (Yv_ (hE .value d) _ _ _ _).2).trans (Qo_ _ _)).trans (Q5_ _ _)).weak oo oo
    ·split
     ·split
      ·exact QgF_ hE d st
      ·exact((((Qh_ st).trans (hE .value d _)).trans (Qo_ _ _)).trans (Q5_ _ _)).weak oo oo
     ·exact Adv.bad _ _ _
theorem xS_ (d:Nat) (b:Bool) (st:RdSt):Adv 1 1 st (Ji_ sg E d b st).2:=by
 unfold Ji_;split
 ·exact(((((Jm_ st).trans (Qh_ _)).trans (hE .value d _)).trans (Qo_ _ _)).trans (Q5_ _ _)).weak oo oo
 ·exact(((Jm_ st).trans (Qo_ _ _)).trans (Q5_ _ _)).weak oo oo
theorem Yu_ (d:Nat) (st:RdSt):Adv 1 1 st (JB_ sg E d st).2:=(((Qo_ st _).trans (hE .value d _)).trans (Qo_ _ _)).weak oo oo
theorem QdJ_ (d:Nat) (b:Bool) (st:RdSt):Adv 1 1 st (ZH_ sg E d b st).2:=by
 unfold ZH_;split
 ·exact z2_ b st
 ·split
  ·exact((Qh_ st).trans (xS_ hE d b _)).weak oo oo
  ·split
   ·unfold Yk_;split
    ·exact(((Qh_ st).trans (Qo_ _ _)).trans (Q5_ _ _)).weak oo oo
    ·exact((((Qh_ st).trans (hE .value d _)).trans (Qo_ _ _)).trans (Q5_ _ _)).weak oo oo
   ·split
    ·unfold ifS;simp only;split
     ·exact((((((Qh_ st).trans (Yu_ hE d _)).trans (hE .block d _)).trans (Qh_ _)).trans (hE .block d _)).trans (Q5_ _ _)).weak oo oo
     ·exact((((Qh_ st).trans (Yu_ hE d _)).trans (hE .block d _)).trans (Q5_ _ _)).weak oo oo
    ·split
     ·exact((((Qh_ st).trans (Yu_ hE d _)).trans (hE .block d _)).trans (Q5_ _ _)).weak oo oo
     ·split
      ·exact(((((Qh_ st).trans (Qh_ _)).trans (hE .value d _)).trans (Qo_ _ _)).trans (Q5_ _ _)).weak oo oo
      ·exact(((hE .value d st).trans (Qo_ _ _)).trans (Q5_ _ _)).weak oo oo
theorem QbD_ (d:Nat) (st:RdSt):Adv 1 1 st (Ya_ sg E N d st).2:=by
 unfold Ya_;exact(((((Xn_ d st).trans (Qo_ _ _)).trans (zZ_ (fun b=>hE (.stmt b) (d+1)) _ _ _).2).trans (Qo_ _ _)).trans (Q5_ _ _)).weak oo oo
theorem QdI_ (m:Md) (d:Nat) (st:RdSt):Adv 1 1 st (Qbp_ sg E N m d st).2:=by
 cases m with
 |value=>exact QbF_ hE d st
 |pick=>exact QdH_ hE d st
 |chain l=>
  show Adv 1 1 st (Xa_ sg E N l d st).2;unfold Xa_;split
  ·exact hE _ _ _
  ·exact((hE (.chain (l+1)) d st).trans (QbE_ (hE (.chain (l+1)) d) l N N _ _)).weak oo oo
 |end_=>exact((hE .base d st).trans (Qfd_ (hE .value d) N N _ _)).weak oo oo
 |base=>exact QdF_ hE d st
 |stmt b=>exact QdJ_ hE d b st
 |block=>exact QbD_ hE d st
theorem j7_ (b:Bool) (st:RdSt):Adv 1 1 st (VH_ sg E N b st).2:=by
 unfold VH_;exact((((((Jm_ st).trans (Qo_ _ _)).trans (Yv_ QS_ _ _ _ _).2).trans (Qo_ _ _)).trans (hE .block 0 _)).trans (Q5_ _ _)).weak oo oo
theorem z1_ (b:Bool) (st:RdSt):Adv 1 1 st (VS_ sg E N b st).2:=by
 unfold VS_;split
 ·exact z2_ b st
 ·split
  ·exact((Qh_ st).trans (xS_ hE 0 b _)).weak oo oo
  ·exact j7_ hE b st
theorem xR_ (b:Bool) (st:RdSt):Adv 1 1 st (YU_ sg E N b st).2:=by
 unfold YU_;split
 ·exact z2_ b st
 ·split
  ·exact((Qh_ st).trans (xS_ hE 0 b _)).weak oo oo
  ·split
   ·unfold YW_;exact((((((Qh_ st).trans (Jm_ _)).trans (Qo_ _ _)).trans (zZ_ (z1_ hE) _ _ _).2).trans (Qo_ _ _)).trans (Q5_ _ _)).weak oo oo
   ·exact j7_ hE b st
end
theorem Qy_ {sg:List SgP} {N:Nat}:∀(f:Nat) (m:Md) (d:Nat) (st:RdSt),Adv 1 1 st (Qd_ sg N f m d st).2:=by
 intro f
 induction f with
 |zero=>intro m d st;exact Adv.bad _ _ _
 |succ f ih=>exact QdI_ ih
section
variable {P:Program} (w:World)
theorem q9_ (base:Nat) (t ty e:TypeId) (i:TypeInfo) (z:Value) (size l:Nat) (s:P.underlying t=some (.slice e)) (hi:P.info? e=some i) (hz:i.zero=some z)
  (q:i.size=size) (A:i.bytes=l) (D:0 < size)
  (v:Value) (n:Nat) (xs:List Value) (o:w.ownsRow base e size v n xs)
  (a:Addr) (m c:Nat) (d:List Value) (r:d.length=m * size) (f:∀j u,d[j]? =some u->w.cell? (a.add j)=some u) (h1:∀u∈d,u.oneCell'=true)
  (y:n+m<=maxLen) (k:(n+m) * l<=140737488355328) {v':Value} {w':World}
  (p:(Builtin.append_ #[t,t] ty #[v,.slice (some a) m c]).run P w=.ok v' w'):v'.ownBlock=v.ownBlock\/v'.ownBlock=some w.heap.size:=by
 subst q;subst A;have C:n+m<=9223372036854775807:=by simp only[maxLen]at y;omega
 rcases o.2 with⟨rfl,rfl⟩|⟨g,cap,x,rfl,_,hg,_,_,B,_⟩
 ·rcases Nat.eq_zero_or_pos m with rfl|hm
  ·obtain rfl:d=[]:=List.eq_nil_of_length_eq_zero (by simpa using r);have h:(Builtin.append_ #[t,t] ty #[.slice none 0 0,.slice (some a) 0 c]).run P w=.ok (.slice none 0 0) w:=by
    simp[Builtin.append_,run_underlying s,sizeOf,typeInfo,hi,Builtin.lenOf,Builtin.firstCells,loadCells,loadCellsFrom]
   rw[h]at p;injection p with h2 _;exact .inl (by rw[<-h2])
  ·rw[run_append_nil (P:=P) w t ty e i z s hi hz a m c d r f hm oo (by rw[Nat.zero_add]at k;omega)]at p;injection p with h2 _;exact .inr (by rw[<-h2];rfl)
 ·rcases Nat.lt_or_ge cap (n+m)with b|b
  ·rw[run_append_grow (P:=P) w t ty e i z s hi hz ⟨g,0,none⟩ n cap xs o.1 (o.cells (g:=g) rfl) a m c d r f b oo (growslice_fits b k)]at p;injection p with h2 _;exact .inr (by rw[<-h2];rfl)
  ·rw[run_append_room (P:=P) w t ty e i s hi g n cap x hg a m c d r f h1 b (by rw[r,B,<-Nat.add_mul];exact Nat.mul_le_mul_right _ b)]at p;injection p with h2 _;exact .inl (by rw[<-h2];rfl)
theorem Qf_ {A:Array Oper} {rest:List Oper} {o:Oper} {a:Act} {Q:Exit->Act->World->Prop} (C:o.guard=none) (s x:Operand) (t:TypeId)
  (ho:o.op=.call { callee:=.builtin .append,args:=#[s,x],argTypes:=#[t,t] })
  (base:Nat) (e:TypeId) (i:TypeInfo) (z:Value) (size d:Nat) (ht:P.underlying t=some (.slice e)) (hi:P.info? e=some i) (hz:i.zero=some z)
  (k:i.size=size) (r:i.bytes=d) (D:z.cells.size=size) (y:0 < size)
  (v:Value) (n:Nat) (xs:List Value) (hs:a.eval s=v) (l:w.ownsRow base e size v n xs)
  (B:Addr) (m c:Nat) (b:List Value) (hx:a.eval x=.slice (some B) m c) (hl:b.length=m * size) (g:∀j u,b[j]? =some u->w.cell? (B.add j)=some u) (h1:∀u∈b,u.oneCell'=true)
  (q:n+m<=maxLen) (f:(n+m) * d<=140737488355328) (p:base<=w.heap.size)
  (h:∀v' w',w'.ownsRow base e size v' (n+m) (xs++b)->w.grownBy w' v.ownBlock->(v'.ownBlock=v.ownBlock\/v'.ownBlock=some w.heap.size)->wpList P A Q rest (a.put o.dst v') w'):wpList P A Q (o::rest) a w:=by
 obtain⟨v',w',hr,h2,h3,_⟩:=run_append_own (P:=P) w base t o.type e i z size d ht hi hz k r D y v n xs l B m c b hl g h1 q f p;have h4:=q9_ (P:=P) w base t o.type e i z size d ht hi hz k r y v n xs l B m c b hl g h1 q f hr;refine wpList_plain C fun K hK=>?_
 unfold Oper.wp;simp[execOp,ho,resolve,invoke,builtin,hs,hx,hr,Result.andThen];exact hK _ _ (h v' w' h2 h3 h4)
end
theorem QP_ {w:World} {A:OA} {n c:Nat} {B:Nat} {e:TypeId} {sz:Nat} {xs:List Value} (h:Mine w B e sz A n c xs) {g:Nat} (a:A.map (·.block)=some g):∃cs,Blk w g e cs:=by
 rcases h.own with⟨rfl,_⟩|⟨g',rfl,_,_,_,rest,hb,_⟩
 ·simp at a
 ·simp at a;subst a;exact⟨_,hb⟩
theorem KM_ {w:World} {g g':Nat} {t t':TypeId} {cs b:Array Value} (h:Blk w g t cs) (a:Blk w g' t' b) (ht:t≠t'):g≠g':=by
 rintro rfl;unfold Blk at h a;rw[h]at a;injection a with a;injection a with _ h2;exact ht h2
theorem Kx_ {w:World} {B:Nat} {t:TypeId} {s:Nat} {A:OA} {n c:Nat} {xs:List Value} {g:Nat} {t':TypeId} {cs:Array Value} (hm:Mine w B t s A n c xs) (hb:Blk w g t' cs) (ht:t≠t') (i:Nat) (u:Value):Mine (w.setCell ⟨g,i,none⟩ u) B t s A n c xs:=by
 have hl:=hm.len;rcases hm.own with⟨rfl,rfl,rfl⟩|⟨g',rfl,hB,hn,hc,rest,a,hs⟩
 ·exact⟨hl,.inl ⟨rfl,rfl⟩⟩
 ·exact Mine.mk_own ⟨rest,a.far (KM_ a hb ht) u,hs⟩ hl hB hn hc
theorem Kw_ {w w':World} {row:ON} (h:w.drew.grownBy w' row):w.grownBy w' row:=⟨h.os,h.tape,h.output,h.size,h.block⟩
theorem Qe0_:(prog.info? 36).map (fun i=>(i.zero,i.size,i.bytes))=some (some (.agg #[.int .i64 0,.string ⟨#[]⟩,.slice none 0 0,.bool false]),4,56):=by kernel_rfl
theorem Qe5_ (w:World) (x:Nd) (t:TypeId):∀j v,(Qq_ x)[j]? =some v->(w.alloc (.cells #[.int .i64 x.kind,.string x.text,.slice x.adr x.cnt x.cap,.bool x.blank] t)).cell? ((⟨w.heap.size,0,none⟩:Addr).add j)=some v:=by
 intro j v a;have b:=Blk.new w t #[.int .i64 x.kind,.string x.text,.slice x.adr x.cnt x.cap,.bool x.blank]
 match j,a with
 |0,a=>obtain rfl:=Option.some.inj a;exact b.cell 0
 |1,a=>obtain rfl:=Option.some.inj a;exact b.cell 1
 |2,a=>obtain rfl:=Option.some.inj a;exact b.cell 2
 |3,a=>obtain rfl:=Option.some.inj a;exact b.cell 3
 |j+4,a=>simp[Qq_]at a
theorem Qe6_ (x:Nd):∀u∈Qq_ x,u.oneCell'=true:=by
 intro u hu;simp[Qq_]at hu;rcases hu with rfl|rfl|rfl|rfl<;>rfl
theorem Kq_ (w:World) (x:Int) (t:TypeId):∀j v,[Value.int .i64 x][j]? =some v->(w.alloc (.cells #[.int .i64 x] t)).cell? ((⟨w.heap.size,0,none⟩:Addr).add j)=some v:=by
 intro j v a;have hb:=Blk.new w t #[.int .i64 x]
 match j,a with
 |0,a=>obtain rfl:=Option.some.inj a;exact hb.cell 0
 |j+1,a=>simp at a
theorem Kr_ (x:Int):∀u∈[Value.int .i64 x],u.oneCell'=true:=by
 intro u hu;simp at hu;subst hu;rfl
theorem QO_ (l:LI) (x:Int):Qa_ (l++[x])=Qa_ l++[.int .i64 x]:=by simp[Qa_]
def KidsIn (w:World) (B:Nat) (U:Nat->Prop) (d:Nd):Prop:=(d.cnt<=d.cap/\∀g,d.adr.map (·.block)=some g->¬U g)/\Mine w B 3 1 d.adr d.cnt d.cap (Qa_ d.kids)
theorem KidsIn.next {w w':World} {B:Nat} {U:Nat->Prop} {x:Nd} (h:KidsIn w B U x) (hb:Below w.heap.size w w'):KidsIn w' B U x:=⟨h.1,h.2.next hb⟩
section
variable {sg:List SgP} {st:RdSt} {m:BA}
theorem Vm_ (st:RdSt) (x:PN):KC_ (Qe_ st) x=((KC_ st x).1,Qe_ (KC_ st x).2):=by
 cases st with
 |none=>rfl
 |some s=>
  unfold KC_ Qe_;simp only[Option.map_some];split<;>rfl
theorem Ja_ (st:RdSt):KC_ (nmS sg st) ⟨1,nmT sg st,[],false⟩=Qi_ sg st:=by
 unfold nmS nmT Qi_;split
 ·exact Vm_ _ _
 ·rfl
theorem Qcp_ (k:Int) (st:RdSt):KC_ (Qe_ st) ⟨k,(Qu_ sg st 0).2.1,[],false⟩=YD_ sg k st:=Vm_ _ _
theorem qN_ (st:RdSt):KC_ (Qe_ st) ⟨19,(Qu_ sg st 0).2.1,[],false⟩=Xj_ sg false st:=Vm_ _ _
theorem Zk_ (h:isM sg st m=true):Qk_ sg st m=Qe_ st:=if_pos h
theorem GT_ (h:isM sg st m=false):Qk_ sg st m=none:=if_neg (by rw[h];decide)
def Zl_ (k:Int) (b:Bool) (st:RdSt):RdSt:=st.map (fun s=>⟨s.at_,s.nodes.modify k.toNat (fun x=>⟨x.kind,x.text,x.kids,b⟩)⟩)
def Z8_ (b:Bool) (r:PR):PR:=(r.1,Zl_ r.1 b r.2)
theorem jr_ {α:Type} (l:List α) (x:α) (f:α->α):(l++[x]).modify l.length f=l++[f x]:=by
 induction l with
 |nil=>rfl
 |cons a l ih=>simpa using ih
theorem KH_ (st:RdSt) (k:Int) (t:BA) (ks:LI) (b:Bool):KC_ st ⟨k,t,ks,b⟩=Z8_ b (KC_ st ⟨k,t,ks,false⟩):=by
 cases st with
 |none=>rfl
 |some s=>
  unfold KC_ Z8_ Zl_;simp only;split
  ·rfl
  ·simp only[Option.map_some,Int.toNat_natCast];rw[jr_]
theorem Qbh_ (k:Int) (b:Bool) (st:RdSt):Qe_ (Zl_ k b st)=Zl_ k b (Qe_ st):=by cases st<;>rfl
theorem GF_ (b:Bool) (st:RdSt):Xj_ sg b st=Z8_ b (Xj_ sg false st):=by
 unfold Xj_;rw[KH_ st 19 _ [] b];unfold Z8_;simp only[Qbh_]
variable {E:Md->Nat->RdSt->PR} {N:Nat}
theorem WU_ (d:Nat) (b:Bool) (st:RdSt):Ji_ sg E d b st=Z8_ b (Ji_ sg E d false st):=by
 unfold Ji_;split
 ·exact KH_ _ _ _ _ _
 ·exact KH_ _ _ _ _ _
theorem Qbq_ (d:Nat) (b:Bool) (st:RdSt):ZH_ sg E d b st=Z8_ b (ZH_ sg E d false st):=by
 unfold ZH_;split
 ·exact GF_ b st
 ·split
  ·exact WU_ d b _
  ·split
   ·unfold Yk_;split
    ·exact KH_ _ _ _ _ _
    ·exact KH_ _ _ _ _ _
   ·split
    ·unfold ifS;simp only;split
     ·exact KH_ _ _ _ _ _
     ·exact KH_ _ _ _ _ _
    ·split
     ·exact KH_ _ _ _ _ _
     ·split
      ·exact KH_ _ _ _ _ _
      ·exact KH_ _ _ _ _ _
theorem QcE_ (b:Bool) (st:RdSt):VS_ sg E N b st=Z8_ b (VS_ sg E N false st):=by
 unfold VS_;split
 ·exact GF_ b st
 ·split
  ·exact WU_ 0 b _
  ·exact KH_ _ _ _ _ _
theorem Qdm_ (b:Bool) (st:RdSt):YU_ sg E N b st=Z8_ b (YU_ sg E N false st):=by
 unfold YU_;split
 ·exact GF_ b st
 ·split
  ·exact WU_ 0 b _
  ·split
   ·exact KH_ _ _ _ _ _
   ·exact KH_ _ _ _ _ _
theorem Qab_ (f:Nat) (d:Nat) (b:Bool) (st:RdSt):Qd_ sg N f (.stmt b) d st=Z8_ b (Qd_ sg N f (.stmt false) d st):=by
 cases f with
 |zero=>rfl
 |succ f=>exact Qbq_ d b st
def Xx_ (sg:List SgP):Prop:=∀d∈sg,((d.2.1.toList==[41])=true\/(d.2.1.toList==[61,62])=true\/(d.2.1.toList==[44])=true)->d.1=4
theorem Qc1_ (hm:Xx_ sg) {i:Nat} (h:((Qu_ sg st i).2.1.toList==[41])=true\/((Qu_ sg st i).2.1.toList==[61,62])=true\/((Qu_ sg st i).2.1.toList==[44])=true):(Qu_ sg st i).1=4:=by
 have a:∀c:List UInt8,c≠[]->¬(sgZero.2.1.toList==c)=true:=fun c hc e=>by
  have h1:sgZero.2.1.toList=[]:=by rw[ByteArray.toList_eq]
  rw[h1]at e;exact hc (eq_of_beq e).symm
 unfold Qu_ at h |-
 cases st with
 |none=>
  rcases h with h|h|h
  ·exact absurd h (a _ (by decide))
  ·exact absurd h (a _ (by decide))
  ·exact absurd h (a _ (by decide))
 |some s=>
  simp only at h |-
  cases b:sg[s.at_+i]? with
  |none=>
   rw[b]at h;rcases h with h|h|h
   ·exact absurd h (a _ (by decide))
   ·exact absurd h (a _ (by decide))
   ·exact absurd h (a _ (by decide))
  |some d=>
   rw[b]at h;exact hm d (List.mem_of_getElem? b) h
end
def xO_ (sg:List SgP) (p:Nat):Prop:=∃d,sg[p]? =some d/\d.1=4/\(d.2.1.toList==[44])=true
def xN_ (p:Nat) (st:RdSt):Prop:=∀s,st=some s->s.at_=p
section
variable {sg:List SgP} {p:Nat} {st:RdSt} {E:Md->Nat->RdSt->PR} {N:Nat}
theorem QeN_ (hs:xO_ sg p) (hn:xN_ p st) (h:st≠none):(Qu_ sg st 0).1=4/\(Qu_ sg st 0).2.1.toList=[44]:=by
 obtain⟨d,h1,h2,h3⟩:=hs
 cases st with
 |none=>exact absurd rfl h
 |some s=>
  have:=hn s rfl;subst this;unfold Qu_;simp only[Nat.add_zero];rw[h1];exact⟨h2,eq_of_beq h3⟩
theorem Yq_ (hs:xO_ sg p) (hn:xN_ p st) {m:BA} (hm:m.toList≠[44]):isM sg st m=false:=by
 by_cases h:st=none
 ·subst h;rfl
 ·unfold isM;rw[(QeN_ hs hn h).2];have:([44]==m.toList)=false:=by rw[beq_eq_false_iff_ne];exact fun e=>hm e.symm
  rw[this,Bool.and_false]
theorem YQ_ {l:List UInt8} (h:l≠[44]):(⟨l.toArray⟩:BA).toList≠[44]:=by rw[ByteArray.toList_eq];simpa using h
theorem xq_:xN_ p none:=fun s e=>by cases e
theorem Qbs_ (hs:xO_ sg p) (hn:xN_ p st):∀l:List BA,(∀m∈l,m.toList≠[44])->Zs_ sg st l=noT:=by
 intro l
 induction l with
 |nil=>intro _;rfl
 |cons a l ih=>
  intro h;unfold Zs_;rw[Yq_ hs hn (h a (by simp)),if_neg (by decide)];exact ih (fun m hm=>h m (by simp[hm]))
theorem Qek_ (l:Nat):∀m∈K8_ l,m.toList≠[44]:=by
 unfold K8_;intro m a;split at a
 ·simp at a;subst a;exact YQ_ (l:=[124,124]) (by decide)
 ·split at a
  ·simp at a;subst a;exact YQ_ (l:=[38,38]) (by decide)
  ·split at a
   ·simp at a;subst a;exact YQ_ (l:=[61,61]) (by decide)
   ·split at a
    ·simp at a;subst a;exact YQ_ (l:=[60]) (by decide)
    ·split at a
     ·simp at a;rcases a with rfl|rfl
      ·exact YQ_ (l:=[43]) (by decide)
      ·exact YQ_ (l:=[45]) (by decide)
     ·simp at a;subst a;exact YQ_ (l:=[42]) (by decide)
theorem jN_ (hs:xO_ sg p) (hn:xN_ p st) (one:RdSt->PR) (l n:Nat) (k:Int):Zp_ sg one l N n k st=(k,st):=by
 cases n with
 |zero=>rfl
 |succ n=>unfold Zp_;rw[show KK_ sg st l=noT from Qbs_ hs hn _ (Qek_ l)];exact if_pos X6_
theorem Qdd_ (hs:xO_ sg p) (hn:xN_ p st) (one:RdSt->PR) (n:Nat) (k:Int):W1_ sg one N n k st=(k,st):=by
 cases n with
 |zero=>rfl
 |succ n=>
  unfold W1_;split
  ·rfl
  ·rw[Yq_ hs hn (YQ_ (l:=[40]) (by decide)),if_neg (by decide),Yq_ hs hn (YQ_ (l:=[46]) (by decide)),if_neg (by decide)]
def Md.val:Md->Bool
 |.stmt _=>false
 |.block=>false
 |_=>true
theorem k3_ (k:Int) {s:PS} (hp:s.at_+1=p):xN_ p (YD_ sg k (some s)).2:=by
 intro t a;unfold YD_ KC_ at a;simp only at a;split at a
 ·cases a
 ·have:=Option.some.inj a;rw[<-this];exact hp
theorem j0_ {s:PS} (hs:xO_ sg (s.at_+1)) (hn:Kd_ sg (some s) 0=true):∀(f:Nat) (m:Md) (d:Nat),m.val=true->xN_ (s.at_+1) (Qd_ sg N f m d (some s)).2:=by
 intro f
 induction f with
 |zero=>intro m d _;exact xq_
 |succ f a=>
  intro m d hm;show xN_ _ (Qbp_ sg (Qd_ sg N f) N m d (some s)).2
  cases m with
  |value=>
   show xN_ _ (Xg_ sg (Qd_ sg N f) N d (some s)).2;unfold Xg_;rw[Yq_ hs (a .pick d rfl) (YQ_ (l:=[46,46]) (by decide)),if_neg (by decide)];exact a .pick d rfl
  |pick=>
   show xN_ _ (Vf_ sg (Qd_ sg N f) d (some s)).2;have hq:xN_ (s.at_+1) (Qd_ sg N f (.chain 0) (d+1) (Ks_ d (some s))).2:=by
    unfold Ks_;split
    ·rw[Xt_];exact xq_
    ·exact a (.chain 0) (d+1) rfl
   unfold Vf_;simp only;rw[Yq_ hs hq (YQ_ (l:=[63]) (by decide)),if_neg (by decide)];exact hq
  |chain l=>
   show xN_ _ (Xa_ sg (Qd_ sg N f) N l d (some s)).2;unfold Xa_;split
   ·exact a .end_ d rfl
   ·rw[jN_ hs (a (.chain (l+1)) d rfl)];exact a (.chain (l+1)) d rfl
  |end_=>
   show xN_ _ (endS sg (Qd_ sg N f) N d (some s)).2;unfold endS;rw[Qdd_ hs (a .base d rfl)];exact a .base d rfl
  |base=>
   show xN_ _ (Yx_ sg (Qd_ sg N f) N d (some s)).2;have h1:(Qu_ sg (some s) 0).1=1:=by
    have:=hn;unfold Kd_ at this;simp only[Bool.and_eq_true]at this;exact eq_of_beq this.1
   unfold Yx_;rw[if_pos h1];unfold Qi_;rw[if_pos hn];exact k3_ 1 rfl
  |stmt b=>cases hm
  |block=>cases hm
theorem Qds_ {s:PS} (h1:(Qu_ sg (some s) 0).1=1) (hn:Kd_ sg (some s) 0=false):∀(f:Nat) (m:Md) (d:Nat),m.val=true->(Qd_ sg N f m d (some s)).2=none:=by
 intro f
 induction f with
 |zero=>intro m d _;rfl
 |succ f a=>
  intro m d hm;show(Qbp_ sg (Qd_ sg N f) N m d (some s)).2=none
  cases m with
  |value=>
   show(Xg_ sg (Qd_ sg N f) N d (some s)).2=none;unfold Xg_;rw[a .pick d rfl,ZK_,if_neg (by decide)];exact a .pick d rfl
  |pick=>
   show(Vf_ sg (Qd_ sg N f) d (some s)).2=none;have hq:(Qd_ sg N f (.chain 0) (d+1) (Ks_ d (some s))).2=none:=by
    unfold Ks_;split
    ·rw[Xt_]
    ·exact a (.chain 0) (d+1) rfl
   unfold Vf_;simp only;rw[hq,ZK_,if_neg (by decide)];exact hq
  |chain l=>
   show(Xa_ sg (Qd_ sg N f) N l d (some s)).2=none;unfold Xa_;split
   ·exact a .end_ d rfl
   ·rw[a (.chain (l+1)) d rfl,ZV_]
  |end_=>
   show(endS sg (Qd_ sg N f) N d (some s)).2=none;unfold endS;rw[a .base d rfl,YY_]
  |base=>
   show(Yx_ sg (Qd_ sg N f) N d (some s)).2=none;unfold Yx_;rw[if_pos h1];unfold Qi_;rw[hn]
   rfl
  |stmt b=>cases hm
  |block=>cases hm
end
def Jq_ (sg:List SgP) (i:Nat):Bool:=
 decide (i+1 < sg.length)&&(((sg[i]?).getD sgZero).2.1.toList==[41])&&(((sg[i]?).getD sgZero).1==4)&&(((sg[i+1]?).getD sgZero).2.1.toList==[61,62])&&(((sg[i+1]?).getD sgZero).1==4)
def kb_ (sg:List SgP):Nat->Nat->Bool
 |0,i=>Jq_ sg i
 |f+1,i=>if i+1 < sg.length/\((sg[i]?).getD sgZero).1=1 then (if ((sg[i+1]?).getD sgZero).2.1.toList==[44]then kb_ sg f (i+2)else Jq_ sg (i+1))else Jq_ sg i
def xU_ (sg:List SgP) (st:RdSt):Bool:=isM sg st ⟨#[40]⟩&&(match st with|none=>false|some s=>kb_ sg (sg.length+1) (s.at_+1))
section
variable {sg:List SgP} {s:PS}
theorem xv_ (i:Nat):Qu_ sg (some s) i=(sg[s.at_+i]?).getD sgZero:=rfl
theorem Qdz_ {c:List UInt8} (hc:c≠[]):¬(sgZero.2.1.toList==c)=true:=fun e=>by
 have h1:sgZero.2.1.toList=[]:=by rw[ByteArray.toList_eq]
 rw[h1]at e;exact hc (eq_of_beq e).symm
theorem jT_ {i:Nat} {c:List UInt8} (hc:c≠[]) (h:(((sg[i]?).getD sgZero).2.1.toList==c)=true):i < sg.length:=by
 rcases Nat.lt_or_ge i sg.length with a|a
 ·exact a
 ·rw[List.getElem?_eq_none a]at h;exact absurd h (Qdz_ hc)
theorem Gt_ (hm:Xx_ sg) {i:Nat} (h:(((sg[i]?).getD sgZero).2.1.toList==[41])=true\/(((sg[i]?).getD sgZero).2.1.toList==[61,62])=true\/(((sg[i]?).getD sgZero).2.1.toList==[44])=true):((sg[i]?).getD sgZero).1=4:=by
 have:=Qc1_ (sg:=sg) (st:=some ⟨i,[]⟩) hm (i:=0) (by simpa[Qu_]using h);simpa[Qu_]using this
def fnT (sg:List SgP) (st:RdSt) (f i:Nat):Bool:=((Qu_ sg st (fnF sg st f i)).2.1.toList==[41])&&((Qu_ sg st (fnF sg st f i+1)).2.1.toList==[61,62])
theorem VM_ (hm:Xx_ sg) (i:Nat):Jq_ sg i=((((sg[i]?).getD sgZero).2.1.toList==[41])&&(((sg[i+1]?).getD sgZero).2.1.toList==[61,62])):=by
 unfold Jq_
 cases h1:(((sg[i]?).getD sgZero).2.1.toList==[41])with
 |false=>simp
 |true=>
  cases h2:(((sg[i+1]?).getD sgZero).2.1.toList==[61,62])with
  |false=>simp
  |true=>
   rw[Gt_ hm (.inl h1),Gt_ hm (.inr (.inl h2)),decide_eq_true (jT_ (by decide) h2)]
   rfl
theorem QgN_ (g:Xx_ sg):∀(f i:Nat),fnT sg (some s) f i=true->kb_ sg f (s.at_+i)=true:=by
 intro f
 induction f with
 |zero=>
  intro i h;unfold kb_;rw[VM_ g];exact h
 |succ f ih=>
  intro i h;unfold fnT fnF at h;unfold kb_
  cases b:Kd_ sg (some s) i with
  |false=>
   rw[b,if_neg (by decide)]at h;have hk:¬(s.at_+i+1 < sg.length/\((sg[s.at_+i]?).getD sgZero).1=1):=fun e=>by
    have h1:(Qu_ sg (some s) i).1=4:=Qc1_ g (.inl (by simp only[Bool.and_eq_true]at h;exact h.1));rw[xv_]at h1;omega
   rw[if_neg hk,VM_ g];exact h
  |true=>
   rw[b,if_pos rfl]at h;have h1:((sg[s.at_+i]?).getD sgZero).1=1:=by
    unfold Kd_ at b;simp only[Bool.and_eq_true]at b;exact eq_of_beq b.1
   cases d:((Qu_ sg (some s) (i+1)).2.1.toList==[44])with
   |true=>
    have a:(((sg[s.at_+i+1]?).getD sgZero).2.1.toList==[44])=true:=d;rw[d,if_pos rfl]at h;rw[if_pos ⟨jT_ (by decide) a,h1⟩,a,if_pos rfl];exact ih (i+2) h
   |false=>
    have a:(((sg[s.at_+i+1]?).getD sgZero).2.1.toList==[44])=false:=d;rw[d,if_neg (by decide)]at h;have hl:s.at_+i+1 < sg.length:=by
     simp only[Bool.and_eq_true]at h;exact jT_ (c:=[41]) (by decide) h.1
    rw[if_pos ⟨hl,h1⟩,a,if_neg (by decide),VM_ g];exact h
theorem kN_ {m:BA}:isM sg none m=false:=rfl
theorem QdP_ (h:Xx_ sg):∀(n f i:Nat) (ks:LI) (a:List PN),kb_ sg f (s.at_+i)=true->fnT sg (some s) f i=false->
  Qk_ sg (QF_ sg (Qi_ sg) ⟨#[41]⟩ n ks (some ⟨s.at_+i,a⟩)).2 ⟨#[41]⟩=none:=by
 intro n
 induction n with
 |zero=>
  intro f i ks a b c;unfold QF_;refine GT_ ?_
  cases l:isM sg (some ⟨s.at_+i,a⟩) ⟨#[41]⟩with
  |false=>rfl
  |true=>
   exfalso;unfold isM at l;simp only[Bool.and_eq_true]at l;have o:(Qu_ sg (some s) i).1=4:=eq_of_beq l.1;have d:Kd_ sg (some s) i=false:=(by unfold Kd_;rw[o];rfl);have m:¬(s.at_+i+1 < sg.length/\((sg[s.at_+i]?).getD sgZero).1=1):=fun e=>by rw[xv_]at o;omega
   cases f with
   |zero=>unfold kb_ at b;rw[VM_ h]at b;exact absurd (c.symm.trans b) (by decide)
   |succ f=>
    unfold kb_ at b;rw[if_neg m,VM_ h]at b;unfold fnT fnF at c;rw[d,if_neg (by decide)]at c;exact absurd (c.symm.trans b) (by decide)
 |succ n ih=>
  intro f i ks a b c;unfold QF_;rw[if_neg (show ¬(some (⟨s.at_+i,a⟩:PS)).isNone=true by simp)]
  cases f with
  |zero=>unfold kb_ at b;rw[VM_ h]at b;exact absurd (c.symm.trans b) (by decide)
  |succ f=>
   unfold kb_ at b;unfold fnT fnF at c;have hq:Qu_ sg (some ⟨s.at_+i,a⟩) 0=(sg[s.at_+i]?).getD sgZero:=rfl;by_cases m:s.at_+i+1 < sg.length/\((sg[s.at_+i]?).getD sgZero).1=1
   ·rw[if_pos m]at b;have l:isM sg (some ⟨s.at_+i,a⟩) ⟨#[41]⟩=false:=(by unfold isM;rw[hq,m.2];rfl);rw[l,if_neg (by decide)]
    cases d:Kd_ sg (some s) i with
    |false=>
     have j:Qi_ sg (some ⟨s.at_+i,a⟩)=(0,none):=by
      unfold Qi_;rw[show Kd_ sg (some ⟨s.at_+i,a⟩) 0=Kd_ sg (some s) i from rfl,d];rfl
     rw[j];simp only[kN_,Bool.false_eq_true,if_false];exact ZF_
    |true=>
     rw[d,if_pos rfl]at c;have j:Qi_ sg (some ⟨s.at_+i,a⟩)=YD_ sg 1 (some ⟨s.at_+i,a⟩):=by
      unfold Qi_;rw[show Kd_ sg (some ⟨s.at_+i,a⟩) 0=Kd_ sg (some s) i from rfl,d];rfl
     rw[j]
     cases hl:(YD_ sg 1 (some ⟨s.at_+i,a⟩)).2 with
     |none=>
      simp only[kN_,Bool.false_eq_true,if_false];exact ZF_
     |some t=>
      obtain⟨a',r⟩:=t;have q:a'=s.at_+i+1:=k3_ (sg:=sg) 1 (s:=⟨s.at_+i,a⟩) rfl _ hl;subst q
      cases k:(((sg[s.at_+i+1]?).getD sgZero).2.1.toList==[44])with
      |true=>
       rw[k,if_pos rfl]at b;have g:((Qu_ sg (some s) (i+1)).2.1.toList==[44])=true:=k;rw[g,if_pos rfl]at c;have p:isM sg (some ⟨s.at_+i+1,r⟩) ⟨#[44]⟩=true:=by
        unfold isM;rw[show Qu_ sg (some ⟨s.at_+i+1,r⟩) 0=(sg[s.at_+i+1]?).getD sgZero from rfl,Gt_ h (.inr (.inr k)),show(⟨#[44]⟩:BA).toList=[44]by rw[ByteArray.toList_eq],k]
        rfl
       rw[if_pos p];exact ih f (i+2) _ r b c
      |false=>
       exfalso;rw[k,if_neg (by decide),VM_ h]at b;have g:((Qu_ sg (some s) (i+1)).2.1.toList==[44])=false:=k;rw[g,if_neg (by decide)]at c;exact absurd (c.symm.trans b) (by decide)
   ·exfalso;rw[if_neg m,VM_ h]at b
    cases d:Kd_ sg (some s) i with
    |false=>
     rw[d,if_neg (by decide)]at c;exact absurd (c.symm.trans b) (by decide)
    |true=>
     have h1:((sg[s.at_+i]?).getD sgZero).1=1:=by
      unfold Kd_ at d;simp only[Bool.and_eq_true]at d;exact eq_of_beq d.1
     have o:=Gt_ h (i:=s.at_+i) (.inl (by simp only[Bool.and_eq_true]at b;exact b.1));omega
end
section
variable {sg:List SgP} {E:Md->Nat->RdSt->PR} {N f:Nat}
theorem vX_ (g:Xx_ sg) (d:Nat) (st:RdSt) (a:xU_ sg st=true) (hf:fnB sg st=false):fnS sg (Qd_ sg N f) N d st=(0,none)/\parS sg (Qd_ sg N f) d st=(0,none):=by
 unfold xU_ at a;simp only[Bool.and_eq_true]at a;obtain⟨k,a⟩:=a
 cases st with
 |none=>cases a
 |some s=>
  simp only at a;have c:fnT sg (some s) (sg.length+1) 1=false:=hf;constructor
  ·unfold fnS;simp only;rw[Zk_ k];have:=QdP_ g N (sg.length+1) 1 [] s.nodes a c;rw[show Qe_ (some s)=some ⟨s.at_+1,s.nodes⟩from rfl,this,ZF_,Xt_]
   rfl
  ·unfold parS;simp only;have n:Qk_ sg (Qd_ sg N f .value d (Qe_ (some s))).2 ⟨#[41]⟩=none:=by
    rw[show Qe_ (some s)=some ⟨s.at_+1,s.nodes⟩from rfl];unfold kb_ at a;unfold fnT fnF at c;by_cases j:s.at_+1+1 < sg.length/\((sg[s.at_+1]?).getD sgZero).1=1
    ·rw[if_pos j]at a
     cases b:Kd_ sg (some s) 1 with
     |false=>
      rw[Qds_ (s:=⟨s.at_+1,s.nodes⟩) j.2 b f .value d rfl];exact ZF_
     |true=>
      rw[b,if_pos rfl]at c
      cases h:(((sg[s.at_+1+1]?).getD sgZero).2.1.toList==[44])with
      |true=>
       have e:=j.1;have hs:xO_ sg (s.at_+1+1):=by
        refine⟨sg[s.at_+1+1],List.getElem?_eq_getElem e,?_,?_⟩
        ·have:=Gt_ g (i:=s.at_+1+1) (.inr (.inr h));rwa[List.getElem?_eq_getElem e]at this
        ·rwa[List.getElem?_eq_getElem e]at h
       exact GT_ (Yq_ hs (j0_ (s:=⟨s.at_+1,s.nodes⟩) hs b f .value d rfl) (YQ_ (l:=[41]) (by decide)))
      |false=>
       exfalso;rw[h,if_neg (by decide),VM_ g]at a;have m:((Qu_ sg (some s) (1+1)).2.1.toList==[44])=false:=h;rw[m,if_neg (by decide)]at c;exact absurd (c.symm.trans a) (by decide)
    ·exfalso;rw[if_neg j,VM_ g]at a
     cases b:Kd_ sg (some s) 1 with
     |false=>
      rw[b,if_neg (by decide)]at c;exact absurd (c.symm.trans a) (by decide)
     |true=>
      have h1:((sg[s.at_+1]?).getD sgZero).1=1:=by
       unfold Kd_ at b;simp only[Bool.and_eq_true]at b;exact eq_of_beq b.1
      have h4:=Gt_ g (i:=s.at_+1) (.inl (by simp only[Bool.and_eq_true]at a;exact a.1));omega
   rw[n]
   rfl
theorem QdQ_ (hm:Xx_ sg) (st:RdSt) (a:isM sg st ⟨#[40]⟩=true) (hf:fnB sg st=true):xU_ sg st=true:=by
 unfold xU_;rw[a,Bool.true_and]
 cases st with
 |none=>exact absurd a (by rw[ZK_];decide)
 |some s=>exact QgN_ hm _ 1 hf
end
structure RC where
 imp:Bool
 T:Nat
 A:OA
 n:Nat
 c:Nat
 sz:Int
 M:Value
 sg:List SgP
 w0:World
 U:Nat->Prop
def RC.ty (R:RC):TypeId:=if R.imp=true then 105 else 62
def RC.cells (R:RC) (a d:Nat) (b:Bool) (v:Value):Array Value:=
 if R.imp=true then #[.slice R.A R.n R.c,.int .i64 R.sz,.int .i64 a,.int .i64 d,.bool b,v,R.M]else #[.slice R.A R.n R.c,.int .i64 a,.bool b,.int .i64 d,v]
structure RC.Ok (R:RC):Prop where
 len:R.sg.length=R.n
 most:R.n<=3000
 rd:Rd R.w0 4 R.A R.n (R.sg.flatMap Q1_)
 low:R.w0.heap.size<=R.T
theorem RC.ty_node (R:RC):R.ty≠36:=by unfold RC.ty;cases R.imp<;>decide
theorem RC.ty_int (R:RC):R.ty≠3:=by unfold RC.ty;cases R.imp<;>decide
def RdC (R:RC) (a d:Nat) (b:Bool) (AN:OA) (cN:Nat) (l:List Nd) (w:World):Prop:=
 Blk w R.T R.ty (R.cells a d b (.slice AN l.length cN))/\Mine w R.w0.heap.size 36 4 AN l.length cN (l.flatMap Qq_)/\((∀x∈l,KidsIn w R.w0.heap.size R.U x)/\∀g,R.U g->g < w.heap.size)/\l.length<=300/\a<=R.n/\Below R.w0.heap.size R.w0 w/\R.Ok
def StOk:RdSt->Bool->Nat->List Nd->Prop
 |none,b,_,_=>b=true
 |some s,b,a,l=>b=false/\s.at_=a/\s.nodes=l.map Nd.pn
def RdI (R:RC) (d:Nat) (st:RdSt) (row:ON) (w:World):Prop:=
 ∃a b AN cN l,RdC R a d b AN cN l w/\StOk st b a l/\row=AN.map (·.block)
def Kr (T:Nat) (row:ON) (w:World) (row':ON) (w':World):Prop:=
 w.heap.size<=w'.heap.size/\(row'=row\/∃g,row'=some g/\w.heap.size<=g)/\∀g,g < w.heap.size->g≠T->some g≠row->w'.heap[g]? =w.heap[g]?
section
variable {T:Nat} {row row' row2:ON} {w w' w2:World}
theorem Kr.refl (T:Nat) (row:ON) (w:World):Kr T row w row w:=⟨Nat.le_refl _,.inl rfl,fun _ _ _ _=>rfl⟩
theorem Kr.trans (h:Kr T row w row' w') (k:Kr T row' w' row2 w2):Kr T row w row2 w2:=by
 obtain⟨h1,h2,h3⟩:=h;obtain⟨k1,k2,k3⟩:=k;refine⟨Nat.le_trans h1 k1,?_,fun g a ht hr=>?_⟩
 ·rcases k2 with rfl|⟨g,rfl,a⟩
  ·exact h2
  ·exact .inr ⟨g,rfl,Nat.le_trans h1 a⟩
 ·refine(k3 g oo ht ?_).trans (h3 g a ht hr);rcases h2 with rfl|⟨g2,rfl,b⟩
  ·exact hr
  ·intro e;injection e with e;omega
theorem Kr.below (h:Kr T row w row' w') (hb:Below w'.heap.size w' w2):Kr T row w row' w2:=
 h.trans ⟨hb.size,.inl rfl,fun g hg _ _=>hb.block g hg⟩
theorem Kr.of_below (hb:Below w.heap.size w w2):Kr T row w row w2:=(Kr.refl T row w).below hb
theorem Kr.size (h:Kr T row w row' w'):w.heap.size<=w'.heap.size:=h.1
theorem Blk.kr {g:Nat} {t:TypeId} {cs:Array Value} (h:Blk w g t cs) (k:Kr T row w row' w') (h1:g≠T) (h2:some g≠row):Blk w' g t cs:=(k.2.2 g h.lt h1 h2).trans h
theorem Kr.fresh (k:Kr T row w row' w') {g:Nat} (h:some g≠row) (hg:g < w.heap.size):some g≠row':=by
 rcases k.2.1 with rfl|⟨g2,rfl,h2⟩
 ·exact h
 ·intro e;injection e with e;omega
end
theorem XY_ {w:World} {A:OA} {n k:Nat} {l:List SgP} {d:SgP} (h:Rd w 4 A n (l.flatMap Q1_)) (hk:k < n) (hd:l[k]? =some d):
  ∃b off,A=some ⟨b,off,none⟩/\b < w.heap.size/\w.cell? ⟨b,off+k * 4,none⟩=some (.int .i64 d.1)/\w.cell? ⟨b,off+k * 4+1,none⟩=some (.string d.2.1)/\w.cell? ⟨b,off+k * 4+2,none⟩=some (.int .i64 d.2.2.1)/\w.cell? ⟨b,off+k * 4+3,none⟩=some (.bool d.2.2.2):=by
 obtain⟨b,off,rfl,hb,hc⟩:=h.at_ oo;have g:=fun(j:Nat) (v:Value) (hj:(Q1_ d)[j]? =some v)=>hc (k * 4+j) v (ZJ_ Q1_ WC_ hd hj)
 exact⟨b,off,rfl,hb,g 0 _ rfl,g 1 _ rfl,g 2 _ rfl,g 3 _ rfl⟩
section
variable {R:RC} {a d:Nat} {b:Bool} {AN:OA} {cN:Nat} {l:List Nd} {st:RdSt} {row row':ON} {w w':World}
theorem RdC.next (h:RdC R a d b AN cN l w) (c:Below w.heap.size w w'):RdC R a d b AN cN l w':=by
 obtain⟨h1,h2,h3,h4,h5,h6,h7⟩:=h;exact⟨h1.next c,h2.next c,⟨fun x hx=>(h3.1 x hx).next c,fun g hg=>Nat.lt_of_lt_of_le (h3.2 g hg) c.size⟩,h4,h5,Qb_ h6 c,h7⟩
theorem RdI.next (h:RdI R d st row w) (hb:Below w.heap.size w w'):RdI R d st row w':=by
 obtain⟨a,b,AN,cN,l,h1,h2⟩:=h;exact⟨a,b,AN,cN,l,h1.next hb,h2⟩
theorem RdI.alloc (h:RdI R d st row w) (o:Obj):RdI R d st row (w.alloc o):=h.next (br.alloc (Nat.le_refl _) o)
theorem RdI.drew (h:RdI R d st row w):RdI R d st row w.drew:=h.next br.drew
theorem RdI.lt (h:RdI R d st row w):R.T < w.heap.size:=by obtain⟨a,b,AN,cN,l,h1,h2⟩:=h;exact h1.1.lt
theorem RdI.ok (h:RdI R d st row w):R.Ok:=by obtain⟨a,b,AN,cN,l,⟨_,_,_,_,_,_,h1⟩,h2⟩:=h;exact h1
theorem RdI.old (h:RdI R d st row w):Below R.w0.heap.size R.w0 w:=by obtain⟨a,b,AN,cN,l,⟨_,_,_,_,_,h1,_⟩,h2⟩:=h;exact h1
theorem RdI.le (h:RdI R d st row w) {s:PS} (e:st=some s):s.at_<=R.n/\s.nodes.length<=300:=by
 subst e;obtain⟨a,b,AN,cN,l,⟨_,_,_,h4,h5,_,_⟩,⟨_,rfl,h2⟩,_⟩:=h;exact⟨h5,by rw[h2,List.length_map];exact h4⟩
theorem RdC.rowB (h:RdC R a d b AN cN l w) {g:Nat} (hg:some g=AN.map (·.block)):∃cs,Blk w g 36 cs:=QP_ h.2.1 hg.symm
theorem RdI.rowB (h:RdI R d st row w) {g:Nat} (hg:some g=row):∃cs,Blk w g 36 cs:=by
 obtain⟨a,b,AN,cN,l,h1,h2,rfl⟩:=h;exact h1.rowB hg
theorem RdI.row_lt (h:RdI R d st row w) {g:Nat} (hg:some g=row):g < w.heap.size:=by
 obtain⟨cs,hk⟩:=h.rowB hg;exact hk.lt
theorem RdI.keep (h:RdI R d st row w) (k:Kr R.T row w row' w') {g:Nat} {t:TypeId} {cs:Array Value} (c:Blk w g t cs) (h1:t≠R.ty) (h2:t≠36):Blk w' g t cs:=by
 obtain⟨a,b,AN,cN,l,hc,_,hr⟩:=id h;refine c.kr k (KM_ c hc.1 h1) (fun e=>?_);obtain⟨i,f⟩:=h.rowB e;exact KM_ c f h2 rfl
theorem RdI.keepM (h:RdI R d st row w) (k:Kr R.T row w row' w') {B:Nat} {t:TypeId} {s:Nat} {A:OA} {n c:Nat} {xs:List Value} (hm:Mine w B t s A n c xs) (h1:t≠R.ty) (h2:t≠36):Mine w' B t s A n c xs:=by
 have hl:=hm.len;rcases hm.own with⟨rfl,rfl,rfl⟩|⟨g,rfl,hB,hn,hc,rest,hb,hs⟩
 ·exact⟨hl,.inl ⟨rfl,rfl⟩⟩
 ·exact Mine.mk_own ⟨rest,h.keep k hb h1 h2,hs⟩ hl hB hn hc
theorem RdI.keepI (h:RdI R d st row w) (k:Kr R.T row w row' w') {B:Nat} {A:OA} {n c:Nat} {xs:List Value} (hm:Mine w B 3 1 A n c xs):Mine w' B 3 1 A n c xs:=h.keepM k hm (Ne.symm R.ty_int) (by decide)
theorem RdC.set (h:RdC R a d b AN cN l w) {i:Nat} {u:Value} {a' d':Nat} {b':Bool} (he:(R.cells a d b (.slice AN l.length cN)).setIfInBounds i u=R.cells a' d' b' (.slice AN l.length cN)) (ha:a'<=R.n):
  RdC R a' d' b' AN cN l (w.setCell ⟨R.T,i,none⟩ u)/\Kr R.T (AN.map (·.block)) w (AN.map (·.block)) (w.setCell ⟨R.T,i,none⟩ u):=by
 obtain⟨h1,h2,c,h4,h5,h6,h7⟩:=h;refine⟨⟨?_,Kx_ h2 h1 (Ne.symm R.ty_node) _ _,⟨fun x hx=>⟨(c.1 x hx).1,Kx_ (c.1 x hx).2 h1 (Ne.symm R.ty_int) _ _⟩,fun g hg=>by simpa[World.setCell]using c.2 g hg⟩,h4,ha,h6.setCell h7.low _,h7⟩,?_⟩
 ·have:=h1.set_ i u;rw[he]at this;exact this
 ·exact⟨by simp[World.setCell],.inl rfl,fun g hg ht _=>Below.heap_setCell w ⟨R.T,i,none⟩ u g ht⟩
theorem RdC.push (h:RdC R a d b AN cN l w) (x:Nd) (hx:KidsIn w R.w0.heap.size R.U x) (hl:l.length < 300) {w1:World} (c:Below w.heap.size w w1) {i:Nat} {v':Value} {w3:World}
  (B:w3.ownsRow R.w0.heap.size 36 4 v' (l.length+1) (l.flatMap Qq_++Qq_ x)) (k:w1.grownBy w3 (Value.slice AN l.length cN).ownBlock) (m:v'.ownBlock=(Value.slice AN l.length cN).ownBlock\/v'.ownBlock=some w1.heap.size)
  (he:(R.cells a d b (.slice AN l.length cN)).setIfInBounds i v'=R.cells a d b v'):
  ∃n o,v'=.slice n (l.length+1) o/\RdC R a d b n o (l++[x]) (w3.setCell ⟨R.T,i,none⟩ v')/\Kr R.T (AN.map (·.block)) w (n.map (·.block)) (w3.setCell ⟨R.T,i,none⟩ v'):=by
 have h0:=h;have hC:=h.next c;obtain⟨h1,h2,h3,h4,h5,h6,h7⟩:=hC;rw[Qw_]at k m;have A:∀g t cs,Blk w1 g t cs->t≠36->some g≠AN.map (·.block):=fun g t cs hk I e=>by
  obtain⟨J,H⟩:=QP_ h2 e.symm;exact KM_ hk H I rfl
 have j:Blk w3 R.T R.ty (R.cells a d b (.slice AN l.length cN)):=h1.grown k (A _ _ _ h1 R.ty_node);have s:∀(y:Nd),KidsIn w1 R.w0.heap.size R.U y->KidsIn w3 R.w0.heap.size R.U y:=fun y f=>by
  refine⟨f.1,?_⟩;have v:=f.2.len;rcases f.2.own with⟨D,e2,e3⟩|⟨g',D,hB,hn,hc,rest,p,hs⟩
  ·rw[D,e2,e3];exact⟨by rw[v,e2],.inl ⟨rfl,rfl⟩⟩
  ·rw[D];exact Mine.mk_own ⟨rest,p.grown k (A _ _ _ p (by decide)),hs⟩ v hB hn hc
 obtain⟨n,o,rfl,m3⟩:=Mine.of B;rw[Qw_]at m;have z:(l++[x]).length=l.length+1:=by simp
 have E:(l++[x]).flatMap Qq_=l.flatMap Qq_++Qq_ x:=by simp
 have q:Below R.w0.heap.size R.w0 w3:=h6.grown k h6.size (fun g G=>(Mine.blk h2 G).1);refine⟨n,o,rfl,⟨?_,?_,?_,oo,h5,q.setCell h7.low _,h7⟩,?_⟩
 ·have:=j.set_ i (.slice n (l.length+1) o);rw[he]at this;rw[z];exact this
 ·rw[z,E];exact Kx_ m3 j (Ne.symm R.ty_node) _ _
 ·refine⟨fun y f=>?_,fun g F=>by have:=h3.2 g F;have:=k.size;simp only[World.setCell,Array.size_modify];omega⟩;have C:KidsIn w3 R.w0.heap.size R.U y:=by
   rcases List.mem_append.1 f with f|f
   ·exact s y (h3.1 y f)
   ·obtain rfl:=List.mem_singleton.1 f;exact s y (hx.next c)
  exact⟨C.1,Kx_ C.2 j (Ne.symm R.ty_int) _ _⟩
 ·refine⟨Nat.le_trans c.size (Nat.le_trans k.size (by simp[World.setCell])),?_,fun g r I hr=>?_⟩
  ·rcases m with e|e
   ·exact .inl e
   ·exact .inr ⟨_,e,c.size⟩
  ·rw[Below.heap_setCell w3 ⟨R.T,i,none⟩ _ g I,k.block g (Nat.lt_of_lt_of_le r c.size) hr,c.block g r]
end
def RC.Lo (R:RC) (B:Nat):Prop:=R.w0.heap.size<=B/\∀g,R.U g->g < B
theorem RdI.lo {R:RC} {d:Nat} {st:RdSt} {row:ON} {w:World} (h:RdI R d st row w):R.Lo w.heap.size:=by
 obtain⟨a,b,AN,cN,l,⟨_,_,h3,_,_,h6,_⟩,_⟩:=h;exact⟨h6.size,h3.2⟩
theorem RC.Lo.more {R:RC} {B B':Nat} (h:R.Lo B) (hb:B<=B'):R.Lo B':=⟨Nat.le_trans h.1 hb,fun g hg=>Nat.lt_of_lt_of_le (h.2 g hg) hb⟩
abbrev RC.res (R:RC) (A:OA):RC:={ R with U:=fun x=>R.U x\/A.map (·.block)=some x }
theorem RdC.kids_lt {R:RC} {a d:Nat} {b:Bool} {AN:OA} {cN:Nat} {l:List Nd} {w:World} (h:RdC R a d b AN cN l w) {x:Nd} (hx:x∈l) {g:Nat} (hg:x.adr.map (·.block)=some g):g < w.heap.size:=(Mine.blk (h.2.2.1.1 x hx).2 hg).2
theorem RdI.res_new {R:RC} {d:Nat} {st:RdSt} {row:ON} {w w':World} (h:RdI R d st row w) (hb:Below w.heap.size w w') {A:OA} (hA:∀g,A.map (·.block)=some g->w.heap.size<=g/\g < w'.heap.size):RdI (R.res A) d st row w':=by
 obtain⟨a,b,AN,cN,l,hc,h2⟩:=h;have hk:∀x∈l,∀g,x.adr.map (·.block)=some g->g < w.heap.size:=fun x e g c=>hc.kids_lt e c
 obtain⟨c1,c2,i,c4,c5,c6,j⟩:=hc.next hb;refine⟨a,b,AN,cN,l,⟨c1,c2,⟨fun x e=>⟨⟨(i.1 x e).1.1,fun g c f=>?_⟩,(i.1 x e).2⟩,fun g c=>?_⟩,c4,c5,c6,⟨j.len,j.most,j.rd,j.low⟩⟩,h2⟩
 ·rcases f with f|f
  ·exact(i.1 x e).1.2 g c f
  ·have:=hk x e g c;have:=(hA g f).1;omega
 ·rcases c with c|c
  ·exact i.2 g c
  ·exact(hA g c).2
theorem RdI.unres {R:RC} {d:Nat} {st:RdSt} {row:ON} {w:World} {A:OA} (h:RdI (R.res A) d st row w):RdI R d st row w:=by
 obtain⟨a,b,AN,cN,l,⟨c1,c2,c,c4,c5,c6,e⟩,h2⟩:=h;exact⟨a,b,AN,cN,l,⟨c1,c2,⟨fun x i=>⟨⟨(c.1 x i).1.1,fun g f hu=>(c.1 x i).1.2 g f (.inl hu)⟩,(c.1 x i).2⟩,fun g f=>c.2 g (.inl f)⟩,c4,c5,c6,⟨e.len,e.most,e.rd,e.low⟩⟩,h2⟩
theorem Kr.grown {T:Nat} {row row' r:ON} {w w' w3:World} (h:Kr T row w row' w') (hg:w'.grownBy w3 r) (hr:∀g,r=some g->w.heap.size<=g):Kr T row w row' w3:=
 ⟨Nat.le_trans h.1 hg.size,h.2.1,fun g a ht b=>(hg.block g (Nat.lt_of_lt_of_le a h.1) (fun e=>by have:=hr g e.symm;omega)).trans (h.2.2 g a ht b)⟩
theorem RdI.appended {R:RC} {d:Nat} {st:RdSt} {row:ON} {w w1 w3:World} {A:OA} {B n n' c:Nat} {xs ys:List Value} {v':Value} (h:RdI (R.res A) d st row w) (hm:Mine w B 3 1 A n c xs) (hB:R.w0.heap.size<=B) (r:Below w.heap.size w w1)
  (F:w3.ownsRow B 3 1 v' n' ys) (f:w1.grownBy w3 (Value.slice A n c).ownBlock) (s:v'.ownBlock=(Value.slice A n c).ownBlock\/v'.ownBlock=some w1.heap.size):
  ∃A' c',v'=.slice A' n' c'/\RdI (R.res A') d st row w3/\Mine w3 B 3 1 A' n' c' ys:=by
 obtain⟨A',c',rfl,m3⟩:=Mine.of F;rw[Qw_]at f s;rw[Qw_]at s;obtain⟨a,b,AN,cN,l,hc,h2⟩:=h;have I:∀x∈l,∀g,x.adr.map (·.block)=some g->g < w.heap.size:=fun x v g f=>hc.kids_lt v f
 have K:=hm.next r;obtain⟨c1,c2,z,c4,c5,c6,G⟩:=hc.next r;have E:∀g t cs,Blk w1 g t cs->t≠3->some g≠A.map (·.block):=fun g t cs I ht e=>by
  obtain⟨N,J⟩:=QP_ K e.symm;exact KM_ I J ht rfl
 have D:∀g,A.map (·.block)=some g->B<=g:=fun g q=>(Mine.blk hm q).1
 refine⟨A',c',rfl,⟨a,b,AN,cN,l,⟨c1.grown f (E _ _ _ c1 R.ty_int),?_,⟨fun x v=>⟨⟨(z.1 x v).1.1,fun g f y=>?_⟩,?_⟩,fun g i=>?_⟩,c4,c5,?_,⟨G.len,G.most,G.rd,G.low⟩⟩,h2⟩,m3⟩
 ·have j:=c2.len;rcases c2.own with⟨m,C,H⟩|⟨g',m,o,L,p,rest,k,hs⟩
  ·rw[m,C,H];exact⟨by rw[j,C],.inl ⟨rfl,rfl⟩⟩
  ·rw[m];exact Mine.mk_own ⟨rest,k.grown f (E _ _ _ k (by decide)),hs⟩ j o L p
 ·rcases y with y|y
  ·exact(z.1 x v).1.2 g f (.inl y)
  ·rcases s with e|e
   ·exact(z.1 x v).1.2 g f (.inr (by rw[<-e];exact y))
   ·have:=I x v g f;rw[y]at e;injection e with e;have:=r.size;omega
 ·have M:=(z.1 x v);have j:=M.2.len;rcases M.2.own with⟨m,C,H⟩|⟨g',m,o,L,p,rest,k,hs⟩
  ·rw[m,C,H];exact⟨by rw[j,C],.inl ⟨rfl,rfl⟩⟩
  ·rw[m];refine Mine.mk_own ⟨rest,k.grown f (fun e=>?_),hs⟩ j o L p;exact M.1.2 g' (by rw[m];rfl) (.inr e.symm)
 ·rcases i with i|i
  ·have:=z.2 g (.inl i);have:=f.size;omega
  ·exact(Mine.blk m3 i).2
 ·exact c6.grown f c6.size (fun g q=>Nat.le_trans hB (D g q))
def Does (R:RC) (d:Nat) (row:ON) (w:World) (v:Value) (st':RdSt) (e:Ending) (w':World):Prop:=e=.returned v/\∃row',RdI R d st' row' w'/\Kr R.T row w row' w'
theorem Does.frame {R:RC} {d:Nat} {row a:ON} {w w1:World} {v:Value} {st':RdSt} {e:Ending} {w':World} (hk:Kr R.T row w a w1) (h:Does R d a w1 v st' e w'):Does R d row w v st' e w':=by
 obtain⟨h1,row',h2,h3⟩:=h;exact⟨h1,row',h2,hk.trans h3⟩
section
variable {R:RC} {a d:Nat} {b:Bool} {AN:OA} {cN:Nat} {l:List Nd} {st:RdSt} {s:PS} {row:ON} {w:World}
theorem RdC.ci (hi:R.imp=true) (h:RdC R a d b AN cN l w):
  w.cell? ⟨R.T,0,none⟩=some (.slice R.A R.n R.c)/\w.cell? ⟨R.T,2,none⟩=some (.int .i64 a)/\w.cell? ⟨R.T,3,none⟩=some (.int .i64 d)/\w.cell? ⟨R.T,4,none⟩=some (.bool b)/\w.cell? ⟨R.T,5,none⟩=some (.slice AN l.length cN)/\(∀i,w.frozen? ⟨R.T,i,none⟩=false)/\R.T < w.heap.size:=by
 have c:=h.1;unfold RC.cells at c;rw[if_pos hi]at c;exact⟨c.cell 0,c.cell 2,c.cell 3,c.cell 4,c.cell 5,c.frozen,c.lt⟩
theorem RdI.at1 (hi:R.imp=true) (hc:RdC R a d b AN cN l w) (hs:StOk (some s) b a l) (hr:row=AN.map (·.block)) (c:s.at_ < R.n):
  RdI R d (Qe_ (some s)) row (w.setCell ⟨R.T,2,none⟩ (.int .i64 ((a:Int)+1)))/\Kr R.T row w row (w.setCell ⟨R.T,2,none⟩ (.int .i64 ((a:Int)+1))):=by
 obtain⟨h1,h2,h3⟩:=hs;have:=hc.set (i:=2) (u:=.int .i64 ((a:Int)+1)) (a':=a+1) (d':=d) (b':=b) (by unfold RC.cells;rw[if_pos hi,if_pos hi];simp) oo;rw[hr];exact⟨⟨a+1,b,AN,cN,l,this.1,⟨h1,(show s.at_+1=a+1 by rw[h2]),h3⟩,rfl⟩,this.2⟩
theorem RdI.bad1 (hi:R.imp=true) (hc:RdC R a d b AN cN l w) (hr:row=AN.map (·.block)):
  RdI R d none row (w.setCell ⟨R.T,4,none⟩ (.bool true))/\Kr R.T row w row (w.setCell ⟨R.T,4,none⟩ (.bool true)):=by
 have:=hc.set (i:=4) (u:=.bool true) (a':=a) (d':=d) (b':=true) (by unfold RC.cells;rw[if_pos hi,if_pos hi];simp) hc.2.2.2.2.1;rw[hr];exact⟨⟨a,true,AN,cN,l,this.1,rfl,rfl⟩,this.2⟩
theorem RdI.nest1 (hi:R.imp=true) (hc:RdC R a d b AN cN l w) (hs:StOk st b a l) (hr:row=AN.map (·.block)) {u:Int} {d':Nat} (hu:u=(d':Int)):
  RdI R d' st row (w.setCell ⟨R.T,3,none⟩ (.int .i64 u))/\Kr R.T row w row (w.setCell ⟨R.T,3,none⟩ (.int .i64 u)):=by
 subst hu;have:=hc.set (i:=3) (u:=.int .i64 (d':Int)) (a':=a) (d':=d') (b':=b) (by unfold RC.cells;rw[if_pos hi,if_pos hi];simp) hc.2.2.2.2.1;rw[hr];exact⟨⟨a,b,AN,cN,l,this.1,hs,rfl⟩,this.2⟩
theorem GL_ {sg:List SgP} {i:Nat} {x:SgP} (h:sg[s.at_+i]? =some x):Qu_ sg (some s) i=x:=by unfold Qu_;simp only;rw[h];rfl
theorem ZM_ {sg:List SgP} {i:Nat} (h:sg.length<=s.at_+i):Qu_ sg (some s) i=sgZero:=by unfold Qu_;simp only;rw[List.getElem?_eq_none h];rfl
theorem Xb_ {sg:List SgP} {m:BA} (h:isM sg st m=true):∃s,st=some s/\s.at_ < sg.length:=by
 cases st with
 |none=>exact absurd h (by rw[ZK_];decide)
 |some s=>
  refine⟨s,rfl,?_⟩;rcases Nat.lt_or_ge s.at_ sg.length with a|a
  ·exact a
  ·unfold isM at h;rw[ZM_ (i:=0) a,show(sgZero.1==4)=false from rfl,Bool.false_and]at h;exact absurd h (by decide)
theorem Z4_ {sg:List SgP} {i:Nat} (h:Kd_ sg st i=true):∃s,st=some s/\s.at_+i < sg.length:=by
 cases st with
 |none=>exact absurd h (by rw[zF_];decide)
 |some s=>
  refine⟨s,rfl,?_⟩;rcases Nat.lt_or_ge (s.at_+i) sg.length with a|a
  ·exact a
  ·unfold Kd_ at h;rw[ZM_ a,show(sgZero.1==1)=false from rfl,Bool.false_and]at h;exact absurd h (by decide)
end
theorem q4_ (k:Int) (t:BA) (p:Int) (z:Bool) (w:World):(Instr.field 68 (.agg #[.int .i64 k,.string t,.int .i64 p,.bool z]) 0).run prog w=.ok (.int .i64 k) w:=by simp[Instr.field,asAgg,go_sem]
theorem kx_ (k:Int) (t:BA) (p:Int) (z:Bool) (w:World):(Instr.field 68 (.agg #[.int .i64 k,.string t,.int .i64 p,.bool z]) 1).run prog w=.ok (.string t) w:=by simp[Instr.field,asAgg,go_sem]
theorem fld3 (k:Int) (t:BA) (p:Int) (z:Bool) (w:World):(Instr.field 68 (.agg #[.int .i64 k,.string t,.int .i64 p,.bool z]) 3).run prog w=.ok (.bool z) w:=by simp[Instr.field,asAgg,go_sem]
theorem YF_ (R:RC) (hi:R.imp=true) (d:Nat) (st:RdSt) (row:ON) (i:Nat) (w:World) (hI:RdI R d st row w) (hn:i<=100000):
  Calls prog 182 #[.pointer (some ⟨R.T,0,none⟩),.int .i64 i] w fun e w'=>e=.returned (.agg #[.int .i64 (Qu_ R.sg st i).1,.string (Qu_ R.sg st i).2.1,.int .i64 (Qu_ R.sg st i).2.2.1,.bool (Qu_ R.sg st i).2.2.2])/\Below w.heap.size w w':=by
 obtain⟨a,b,AN,cN,l,m,q,p⟩:=hI;obtain⟨A,c2,c3,c4,c5,cf,B⟩:=m.ci hi;obtain⟨L,I,o,M⟩:=m.2.2.2.2.2.2;have j:=m.2.2.2.2.2.1;have N:=m.2.2.2.2.1;have g:=o.below j;clear m o j c3 c5 p;have G:Below w.heap.size w (w.alloc (.cells #[.int .i64 0,.string ⟨#[]⟩,.int .i64 0,.bool false] 68)):=grow_;have K:=Blk.new w 68 #[.int .i64 0,.string ⟨#[]⟩,.int .i64 0,.bool false];have r:=K.q0;have t:=K.q1;have v:=K.q2;have y:=K.q3
 cases st with
 |none=>
  obtain rfl:b=true:=q;rw[WB_];go_enter func182,ntmps182;go_wp2;go_quiet (fail);go_wp2;refine bodyPost_ret (by simp[results,Tryz.results182,go_sem,r,t,v,y];try rfl) rfl ?_;exact⟨rfl,grow_⟩
 |some s=>
  obtain⟨rfl,z,n⟩:=q;have O:IntKind.i64.wrap ((a:Int)+(i:Int))=a+i:=IntWalk.i64_in _ oo;by_cases H:a+i < R.n
  ·obtain⟨x,J⟩:∃x,R.sg[a+i]? =some x:=⟨_,gE oo⟩;have h:Qu_ R.sg (some s) i=x:=GL_ (by rw[z];exact J);rw[h];obtain⟨b1,off,hA,f,C,D,E,F⟩:=XY_ g H J;rw[hA]at A;have g1:(a:Int)+i < R.n:=oo;have g2:¬(R.n:Int)<=(a:Int)+i:=oo;have g3:(0:Int)<=(a:Int)+i:=oo;clear J h g hA n z;go_enter func182,ntmps182;go_wp2;go_quiet (fail);go_upto_region 3 with fail
   have c:Below w.heap.size w ((w.alloc (.cells #[.int .i64 0,.string ⟨#[]⟩,.int .i64 0,.bool false] 68)).drewN nq):=below_drewN G nq;have k:=K.drewN nq;clear r t v y K;generalize (w.alloc (.cells #[.int .i64 0,.string ⟨#[]⟩,.int .i64 0,.bool false] 68)).drewN nq=W at c k |-
   replace A:=((QE_ c).1 _ _ B).trans A;replace c2:=((QE_ c).1 _ _ B).trans c2;replace C:=((QE_ c).1 _ _ f).trans C;replace D:=((QE_ c).1 _ _ f).trans D;replace E:=((QE_ c).1 _ _ f).trans E;replace F:=((QE_ c).1 _ _ f).trans F;rw[show a+i=((a:Int)+(i:Int)).toNat from oo]at C D E F;have r:=k.q0;have t:=k.q1;have v:=k.q2;have y:=k.q3;have kz:=k.lt;have kf:=k.frozen;clear cf B c4;go_still_tail 12,(by kernel_rfl);go_wp2;refine bodyPost_ret (by simp[results,Tryz.results182,go_sem,r,t,v,y];try rfl) rfl ?_;exact⟨rfl,grow_⟩
  ·have h:Qu_ R.sg (some s) i=sgZero:=ZM_ (by rw[z];omega);rw[h];have g2:(R.n:Int)<=(a:Int)+i:=oo;clear h g n z;go_enter func182,ntmps182;go_wp2;go_quiet (fail);go_wp2;refine bodyPost_ret (by simp[results,Tryz.results182,go_sem,r,t,v,y];try rfl) rfl ?_;exact⟨rfl,grow_⟩
theorem Q8_ (R:RC) (hi:R.imp=true) (d:Nat) (st:RdSt) (row:ON) (w:World) (hI:RdI R d st row w):
  Calls prog 138 #[.pointer (some ⟨R.T,0,none⟩)] w fun e w'=>e=.returned (.agg #[.int .i64 (Qu_ R.sg st 0).1,.string (Qu_ R.sg st 0).2.1,.int .i64 (Qu_ R.sg st 0).2.2.1,.bool (Qu_ R.sg st 0).2.2.2])/\Below w.heap.size w w':=by
 have b:=hid (fun W (hW:Below w.heap.size w W)=>YF_ R hi d st row 0 W (hI.next hW) oo);generalize Qu_ R.sg st 0=x at b |-
 obtain⟨k,t,p,z⟩:=x;dsimp only at b |-
 have K0:=Blk.new w 68 #[.int .i64 0,.string ⟨#[]⟩,.int .i64 0,.bool false];have a:Below w.heap.size w (w.alloc (.cells #[.int .i64 0,.string ⟨#[]⟩,.int .i64 0,.bool false] 68)):=grow_;clear hI;go_enter func138,ntmps138;go_wp2_with fail
 refine(b.o _ a).mono ?_;rintro e w1 ⟨rfl,h1⟩;have K:=K0.next h1;have c:=Qb_ a h1;have k0:=K.q0;have k1:=K.q1;have k2:=K.q2;have k3:=K.q3;have kz:=K.lt;have kf:=K.frozen;clear K K0 h1 a;go_wp2;refine bodyPost_ret (by simp[results,Tryz.results138,go_sem,k0,k1,k2,k3];try rfl) rfl ?_;exact⟨rfl,grow_⟩
theorem Y5_ (R:RC) (hi:R.imp=true) (d:Nat) (st:RdSt) (row:ON) (m:BA) (w:World) (hI:RdI R d st row w):
  Calls prog 218 #[.pointer (some ⟨R.T,0,none⟩),.string m] w fun e w'=>e=.returned (.bool (isM R.sg st m))/\Below w.heap.size w w':=by
 unfold isM;have b:=hid (fun W (hW:Below w.heap.size w W)=>Q8_ R hi d st row W (hI.next hW));generalize Qu_ R.sg st 0=x at b |-
 obtain⟨k,t,p,z⟩:=x;dsimp only at b |-
 clear hI
 cases h1:(k==4)with
 |false=>
  rw[Bool.false_and];have c:=q4_;have f:=kx_;go_enter func218,ntmps218;go_wp2_with fail
  refine(b.o _ br).mono ?_;rintro e w1 ⟨rfl,a⟩;go_wp2;go_ret;exact⟨rfl,a⟩
 |true=>
  obtain rfl:k=4:=eq_of_beq h1;rw[Bool.true_and];clear h1;have c:=q4_;have f:=kx_;go_enter func218,ntmps218;go_wp2_with fail
  refine(b.o _ br).mono ?_;rintro e w1 ⟨rfl,a⟩;go_wp2_with fail
  refine(b.o _ a).mono ?_;rintro e w2 ⟨rfl,g2⟩;replace a:=Qb_ a g2;clear g2;go_wp2;go_ret;exact⟨rfl,a⟩
theorem Qr_ (R:RC) (hi:R.imp=true) (d:Nat) (st:RdSt) (row:ON) (m:BA) (w:World) (hI:RdI R d st row w):
  Calls prog 174 #[.pointer (some ⟨R.T,0,none⟩),.string m] w fun e w'=>e=.returned (.bool (isW R.sg st m))/\Below w.heap.size w w':=by
 unfold isW;have b:=hid (fun W (hW:Below w.heap.size w W)=>Q8_ R hi d st row W (hI.next hW));generalize Qu_ R.sg st 0=x at b |-
 obtain⟨k,t,p,z⟩:=x;dsimp only at b |-
 clear hI
 cases h1:(k==1)with
 |false=>
  rw[Bool.false_and];have c:=q4_;have f:=kx_;go_enter func174,ntmps174;go_wp2_with fail
  refine(b.o _ br).mono ?_;rintro e w1 ⟨rfl,a⟩;go_wp2;go_ret;exact⟨rfl,a⟩
 |true=>
  obtain rfl:k=1:=eq_of_beq h1;rw[Bool.true_and];clear h1;have c:=q4_;have f:=kx_;go_enter func174,ntmps174;go_wp2_with fail
  refine(b.o _ br).mono ?_;rintro e w1 ⟨rfl,a⟩;go_wp2_with fail
  refine(b.o _ a).mono ?_;rintro e w2 ⟨rfl,g2⟩;replace a:=Qb_ a g2;clear g2;go_wp2;go_ret;exact⟨rfl,a⟩
theorem Ky_ (R:RC) (hi:R.imp=true) (d:Nat) (st:RdSt) (row:ON) (i:Nat) (w:World) (hI:RdI R d st row w) (hn:i<=100000):
  Calls prog 219 #[.pointer (some ⟨R.T,0,none⟩),.int .i64 i] w fun e w'=>e=.returned (.bool (Kd_ R.sg st i))/\Below w.heap.size w w':=by
 unfold Kd_;have a:=hid (fun W (hW:Below w.heap.size w W)=>YF_ R hi d st row i W (hI.next hW) hn);generalize Qu_ R.sg st i=x at a |-
 obtain⟨k,t,p,z⟩:=x;dsimp only at a |-
 clear hI;have HK:=hid (U2_ t)
 cases h1:(k==1)with
 |false=>
  rw[Bool.false_and];go_enter func219,ntmps219;go_wp2_with fail
  refine(a.o _ br).mono ?_;rintro e w1 ⟨rfl,b⟩;have gz:=b.size;go_wp2;go_ret;exact⟨rfl,grow_⟩
 |true=>
  obtain rfl:k=1:=eq_of_beq h1;rw[Bool.true_and];clear h1;generalize X3_ t=kb at HK |-
  go_enter func219,ntmps219;go_wp2_with fail
  refine(a.o _ br).mono ?_;rintro e w1 ⟨rfl,b⟩;have gz:=b.size;go_wp2_with fail
  refine(HK.o _).mono ?_;rintro e w2 ⟨rfl,rfl⟩;go_wp2;go_ret;exact⟨rfl,grow_⟩
def zN_ (sg:List SgP) (st:RdSt) (m:BA):RdSt:=if isM sg st m=true then Qe_ st else st
theorem Qv_ {sg:List SgP} {st:RdSt} {m:BA} (h:isM sg st m=true):zN_ sg st m=Qe_ st:=if_pos h
theorem QC_ {sg:List SgP} {st:RdSt} {m:BA} (h:isM sg st m=false):zN_ sg st m=st:=if_neg (by rw[h];decide)
theorem YG_ (R:RC) (hi:R.imp=true) (d:Nat) (st:RdSt) (row:ON) (m:BA) (w:World) (k:RdI R d st row w):
  Calls prog 215 #[.pointer (some ⟨R.T,0,none⟩),.string m] w (Does R d row w (.bool (isM R.sg st m)) (zN_ R.sg st m)):=by
 have j:=hid (Y5_ R hi d st row m w k);have HI:=hid k;unfold Does;clear k
 cases f:isM R.sg st m with
 |false=>
  rw[QC_ f];rw[f]at j;clear f;go_enter func215,ntmps215;go_wp2_with fail
  refine j.o.mono ?_;rintro e w1 ⟨rfl,h⟩;go_wp2;go_ret;exact⟨rfl,row,HI.o.next h,Kr.of_below h⟩
 |true=>
  rw[Qv_ f];rw[f]at j;obtain⟨s,rfl,n⟩:=Xb_ f;clear f;go_enter func215,ntmps215;go_wp2_with fail
  refine j.o.mono ?_;rintro e w1 ⟨rfl,h⟩;obtain⟨a,b,AN,cN,l,g,i,c⟩:=HI.o.next h;obtain⟨c0,c2,c3,c4,c5,cf,cz⟩:=g.ci hi;have HF:=hid (RdI.at1 hi g i c (by rw[<-g.2.2.2.2.2.2.len];exact n));have o:=g.2.2.2.2.1;have p:=g.2.2.2.2.2.2.most;clear g i c c0 c3 c4 c5;go_wp2;go_ret;exact⟨rfl,row,HF.o.1,(Kr.of_below h).trans HF.o.2⟩
theorem ZP_ (R:RC) (hi:R.imp=true) (d:Nat) (st:RdSt) (row:ON) (m:BA) (w:World) (hI:RdI R d st row w):
  Calls prog 178 #[.pointer (some ⟨R.T,0,none⟩),.string m] w (Does R d row w (.tuple #[]) (Qk_ R.sg st m)):=by
 have i:=hid (YG_ R hi d st row m w hI);unfold Does at i |-
 clear hI
 cases f:isM R.sg st m with
 |false=>
  rw[GT_ f];rw[f,QC_ f]at i;clear f;go_enter func178,ntmps178;go_wp2_with fail
  refine i.o.mono ?_;rintro e w1 ⟨rfl,c,h,n⟩;obtain⟨a,b,AN,cN,l,j,k,g⟩:=h;obtain⟨c0,c2,c3,c4,c5,cf,cz⟩:=j.ci hi;have HF:=hid (RdI.bad1 hi j g);clear j k g c0 c2 c3 c5;go_wp2;go_end0;exact⟨rfl,c,HF.o.1,n.trans HF.o.2⟩
 |true=>
  rw[Zk_ f];rw[f,Qv_ f]at i;clear f;go_enter func178,ntmps178;go_wp2_with fail
  refine i.o.mono ?_;rintro e w1 ⟨rfl,c,h,n⟩;go_wp2;go_end0;exact⟨rfl,c,h,n⟩
theorem KY_ {P:Program} {j:Array Oper} {o:Oper} {a:Act} {w:World} {K:Act→World→Prop} {Q:Exit→Act→World→Prop} {E:Prop} (m:o.guard=none) (f:FuncId) {k:Func} (hf:P.funcs[f]? =some k) (g:(k.name== "runtime.NumGoroutine")=false) (hb:k.body.isSome=true) (xs:Array Operand) (ts:Array TypeId)
  (ho:o.op=.call { callee:=.value (.func f),args:=xs,argTypes:=ts }) (b:Array Value) (d:xs.map a.eval=b) {R:Ending→World→Prop} (hc:Calls P f b w R)
  (h:∀e w',R e w'→∃v,e=.returned v∧K (a.put o.dst v) w'):
  if Region.wanted o (yielded j a.tmps)=true then Oper.wp P o a w K Q else E:=by
 have hw:Region.wanted o (yielded j a.tmps)=true:=by simp[Region.wanted,m]
 rw[if_pos hw]
 have i:(execOp a.eval o).run P w=.ok (.enter f b) w:=by
  obtain⟨c,l⟩:=Option.isSome_iff_exists.1 hb
  have h1:k.name≠ "runtime.NumGoroutine" :=by simpa using g
  have h2:(callFunc f b).run P w=.ok (.enter f b) w:=by simp[callFunc,hf,h1,l]
  have h3:execOp a.eval o=callFunc f b:=by
   cases o
   simp only at ho
   subst ho
   rw[execOp_call_go,d]
   simp
  rw[h3,h2]
 unfold Oper.wp
 rw[i,Oper.upon_enter]
 exact hc.mono fun e w' hR=>by
  obtain⟨v,rfl,hk⟩:=h e w' hR
  exact hk
theorem JV_ (R:RC) (hi:R.imp=true) (d:Nat) (st:RdSt) (row:ON) (w:World) (B:RdI R d st row w):
  Calls prog 177 #[.pointer (some ⟨R.T,0,none⟩)] w (Does R d row w (.string (nmT R.sg st)) (nmS R.sg st)):=by
 have q:=hid (Ky_ R hi d st row 0 w B oo);have HI:=hid B;unfold Does nmT nmS;clear B
 cases n:Kd_ R.sg st 0 with
 |false=>
  rw[if_neg (by decide),if_neg (by decide)];rw[n]at q;clear n;go_enter func177,ntmps177;go_wp2_with fail
  refine q.o.mono ?_;rintro e w1 ⟨rfl,k⟩;obtain⟨a,b,AN,cN,l,h,f,c⟩:=HI.o.next k;obtain⟨r,c2,y,c4,z,cf,cz⟩:=h.ci hi;have m:=hid (RdI.bad1 hi h c);clear h f c r c2 y z;go_wp2;go_ret;exact⟨rfl,row,m.o.1,(Kr.of_below k).trans m.o.2⟩
 |true=>
  rw[if_pos rfl,if_pos rfl];rw[n]at q;obtain⟨s,rfl,p⟩:=Z4_ n;rw[Nat.add_zero]at p;obtain⟨x,t⟩:∃x,R.sg[s.at_]? =some x:=⟨_,List.getElem?_eq_getElem p⟩;rw[show Qu_ R.sg (some s) 0=x from GL_ t];clear n;go_enter func177,ntmps177;go_wp2_with fail
  refine q.o.mono ?_;rintro e w1 ⟨rfl,k⟩;have j:=HI.o.next k;have i:=j.old;have g:=j.ok;obtain⟨a,b,AN,cN,l,h,f,c⟩:=j;obtain⟨r,c2,y,c4,z,cf,cz⟩:=h.ci hi;have o:=g.len;rw[f.2.1]at t;obtain⟨v,off,hA,C,e0,e1,e2,e3⟩:=XY_ (g.rd.below i) (show a < R.n by have:=f.2.1;omega) t;rw[hA]at r;have A:=RdI.at1 hi h f c (by have:=f.2.1;omega);have F:=h.2.2.2.2.1;have J:=g.most;have D:=g.low;have G:a < R.n:=by have:=f.2.1;omega
  have I:v≠R.T:=by
   obtain⟨b2,E,e,H,_⟩:=g.rd.at_ (show 0 < R.n from oo);rw[hA]at e;injection e with e;injection e with e _;omega
  clear h f c t o g i e0 e2 e3;have K:IntKind.i64.wrap ((a:Int)+1)=(a:Int)+1:=IntWalk.i64_in _ oo;have HK:=hid ((Kr.of_below k).trans A.2);have m:=hid A.1;clear A k;go_upto_region 5 with fail
  have q0:(w1.setCell ⟨R.T,2,none⟩ (.int .i64 ((a:Int)+1))).cell? ⟨R.T,0,none⟩=some (.slice (some ⟨v,off,none⟩) R.n R.c):=by go_simp
  have q2:(w1.setCell ⟨R.T,2,none⟩ (.int .i64 ((a:Int)+1))).cell? ⟨R.T,2,none⟩=some (.int .i64 ((a:Int)+1)):=by go_simp
  have q1:(w1.setCell ⟨R.T,2,none⟩ (.int .i64 ((a:Int)+1))).cell? ⟨v,off+a * 4+1,none⟩=some (.string x.2.1):=by go_simp
  have L:IntKind.i64.wrap (a:Int)=(a:Int):=IntWalk.i64_in _ oo;clear e1 r c2 y c4 z cf;generalize w1.setCell ⟨R.T,2,none⟩ (.int .i64 ((a:Int)+1))=W at q0 q1 q2 HK m |-
  go_quiet (fail);go_wp2;go_ret;exact⟨rfl,row,m.o.next (below_drewN br _),HK.o.below (below_drewN br _)⟩
theorem Zi_ (R:RC) (hi:R.imp=true) (d:Nat) (st:RdSt) (row:ON) (w:World) (g:RdI R d st row w) (h:∀s,st=some s->s.at_ < R.n):
  Calls prog 214 #[.pointer (some ⟨R.T,0,none⟩)] w (Does R d row w (.tuple #[]) (Qe_ st)):=by
 obtain⟨a,b,AN,cN,l,e,c,f⟩:=id g;obtain⟨c0,c2,c3,c4,c5,cf,cz⟩:=e.ci hi;have HI:=hid g;have i:=e.2.2.2.2.1;have j:=e.2.2.2.2.2.2.most;clear c0 c3 c5 g;unfold Does
 cases st with
 |none=>
  obtain rfl:b=true:=c;rw[zO_];clear e;go_enter func214,ntmps214;go_wp2;go_end0;exact⟨rfl,row,HI.o,Kr.refl _ _ _⟩
 |some s=>
  have HF:=hid (RdI.at1 hi e c f (h s rfl));obtain⟨rfl,_,_⟩:=c;clear e;go_enter func214,ntmps214;go_wp2;go_end0;exact⟨rfl,row,HF.o.1,HF.o.2⟩
theorem US_ (R:RC) (hi:R.imp=true) (d:Nat) (st:RdSt) (row:ON) (w:World) (hI:RdI R d st row w) (hd:d<=100000):
  Calls prog 221 #[.pointer (some ⟨R.T,0,none⟩)] w (Does R (d+1) row w (.tuple #[]) (Ks_ d st)):=by
 obtain⟨a,b,AN,cN,l,j,g,c⟩:=id hI;obtain⟨c0,c2,c3,c4,c5,cf,cz⟩:=j.ci hi;unfold Does Ks_;clear c0 c2 c5 hI;by_cases i:d=20
 ·subst i;rw[if_pos rfl];have m:=RdI.bad1 hi j c;obtain⟨a',b',p,q,l',k,e,f⟩:=m.1;have n:=RdI.nest1 hi k e f (u:=21) (d':=21) (by rfl);have h:=hid (And.intro n.1 (m.2.trans n.2));clear j g m n k e;go_enter func221,ntmps221;go_wp2;go_end0;exact⟨rfl,row,h.o.1,h.o.2⟩
 ·rw[if_neg i];have o:((d:Int)==20)=false:=by rw[beq_eq_false_iff_ne];omega
  have h:=hid (RdI.nest1 hi j g c (u:=(d:Int)+1) (d':=d+1) oo);clear j g;go_enter func221,ntmps221;go_wp2;go_end0;exact⟨rfl,row,h.o.1,h.o.2⟩
theorem RdC.blk3 {R:RC} {a d:Nat} {b:Bool} {AN:OA} {cN:Nat} {l:List Nd} {w w1 w3:World} (hi:R.imp=true) (h:RdC R a d b AN cN l w) (k:Below w.heap.size w w1) (hg:w1.grownBy w3 (Value.slice AN l.length cN).ownBlock):
  (∃v,w3.cell? ⟨R.T,5,none⟩=some v)/\(∀i,w3.frozen? ⟨R.T,i,none⟩=false)/\R.T < w3.heap.size:=by
 have g:=h.next k;rw[Qw_]at hg;have c:Blk w3 R.T R.ty (R.cells a d b (.slice AN l.length cN)):=g.1.grown hg (fun e=>by
  obtain⟨m,j⟩:=QP_ g.2.1 e.symm;exact KM_ g.1 j R.ty_node rfl)
 have f:=c;unfold RC.cells at c;rw[if_pos hi]at c;exact⟨⟨_,c.cell 5⟩,f.frozen,f.lt⟩
theorem RC.cells_nodes {R:RC} (hi:R.imp=true) (a d:Nat) (b:Bool) (u v:Value):(R.cells a d b u).setIfInBounds 5 v=R.cells a d b v:=by
 unfold RC.cells;rw[if_pos hi,if_pos hi];simp
theorem j5_ {s:PS} {x:PN} (h:s.nodes.length≠300):KC_ (some s) x=((s.nodes.length:Int),some ⟨s.at_,s.nodes++[x]⟩):=if_neg h
theorem j4_ {s:PS} {x:PN} (h:s.nodes.length=300):KC_ (some s) x=(0,none):=if_pos h
theorem Qfc_ (R:RC) (hi:R.imp=true) (d:Nat) (st:RdSt) (row:ON) (x:Nd) (w:World) (hI:RdI R d st row w) (H:KidsIn w R.w0.heap.size R.U x):
    Calls prog 139 #[.pointer (some ⟨R.T,0,none⟩),.agg #[.int .i64 x.kind,.string x.text,.slice x.adr x.cnt x.cap,.bool x.blank]] w (Does R d row w (.int .i64 (KC_ st x.pn).1) (KC_ st x.pn).2):=by
  have f:Below w.heap.size w (w.alloc (.cells #[.int .i64 x.kind,.string x.text,.slice x.adr x.cnt x.cap,.bool x.blank] 36)):=grow_;obtain⟨a,b,AN,cN,l,g,G,m⟩:=id hI;obtain⟨c0,c2,c3,c4,c5,cf,cz⟩:=g.ci hi;have p:=g.next f;clear c0 c2 c3 hI;unfold Does
  cases st with
  |none=>
    obtain rfl:b=true:=G;rw[Z6_];have z:=hid (RdI.bad1 hi g m);clear p g f H;go_enter func139,ntmps139;go_wp2;go_ret;exact⟨rfl,row,z.o.1.alloc _,z.o.2.below bra⟩
  |some s=>
    obtain⟨rfl,ha,r⟩:=G;have y:s.nodes.length=l.length:=(by rw[r,List.length_map]);by_cases j:l.length=300
    · rw[j4_ (y.trans j)]
      have z:=hid (RdI.bad1 hi g m);rw[j]at c5;clear p g f H j y r;go_enter func139,ntmps139;go_wp2;go_ret;exact⟨rfl,row,z.o.1.alloc _,z.o.2.below bra⟩
    · rw[j5_ oo,y]
      have ab:=p.2.2.2.1;have T:l.length < 300:=oo;obtain⟨i0,F,I,J,L⟩:=info_parts Qe0_;have M:=hid (And.intro F (And.intro I (And.intro J L)));have ac:((l.length:Int)==300)=false:=(by rw[beq_eq_false_iff_ne];omega);obtain⟨d0,d2,d3,d4,d5,df,dz⟩:=p.ci hi;have K:=Blk.new w 36 #[.int .i64 x.kind,.string x.text,.slice x.adr x.cnt x.cap,.bool x.blank];have k0:=K.q0;have k1:=K.q1;have k2:=K.q2;have k3:=K.q3;have kz:=K.lt;have kf:=K.frozen;have HX:=hid (H.next f);have HC:=hid p;have HB:=hid f;have HP:=hid (fun(v':Value) (w3:World) h1 h2 h3=>p.push x (H.next f) T (w1:=(w.alloc (.cells #[.int .i64 x.kind,.string x.text,.slice x.adr x.cnt x.cap,.bool x.blank] 36)).alloc (.cells #[.int .i64 x.kind,.string x.text,.slice x.adr x.cnt x.cap,.bool x.blank] 36)) bra (i:=5) (v':=v') (w3:=w3) h1 h2 h3 (RC.cells_nodes hi _ _ _ _ _));have H3:=hid (fun(w3:World) h=>p.blk3 hi (w1:=(w.alloc (.cells #[.int .i64 x.kind,.string x.text,.slice x.adr x.cnt x.cap,.bool x.blank] 36)).alloc (.cells #[.int .i64 x.kind,.string x.text,.slice x.adr x.cnt x.cap,.bool x.blank] 36)) (w3:=w3) bra h);have v:=Qe5_ (w.alloc (.cells #[.int .i64 x.kind,.string x.text,.slice x.adr x.cnt x.cap,.bool x.blank] 36)) x 36;rw[World.size_alloc]at v;have P:=hid v;have HM:=hid (Mine.alloc p.2.1 (.cells #[.int .i64 x.kind,.string x.text,.slice x.adr x.cnt x.cap,.bool x.blank] 36));have E:R.w0.heap.size<=((w.alloc (.cells #[.int .i64 x.kind,.string x.text,.slice x.adr x.cnt x.cap,.bool x.blank] 36)).alloc (.cells #[.int .i64 x.kind,.string x.text,.slice x.adr x.cnt x.cap,.bool x.blank] 36)).heap.size:=by
        have:=g.2.2.2.2.2.1.size;simp only[World.size_alloc];omega
      have N:=hid E;have S:=hid (show Kr R.T row w row (w.alloc (.cells #[.int .i64 x.kind,.string x.text,.slice x.adr x.cnt x.cap,.bool x.blank] 36))from Kr.of_below f);have D:s.at_=a/\s.nodes=l.map Nd.pn:=⟨ha,r⟩;have HH:=hid D;have HR:=hid m;have b5:∀o,((w.alloc (.cells #[.int .i64 x.kind,.string x.text,.slice x.adr x.cnt x.cap,.bool x.blank] 36)).alloc o).cell? ⟨R.T,5,none⟩=some (.slice AN l.length cN):=fun o=>((p.next (br.alloc (Nat.le_refl _) o)).ci hi).2.2.2.2.1
      have X:∀o,((w.alloc (.cells #[.int .i64 x.kind,.string x.text,.slice x.adr x.cnt x.cap,.bool x.blank] 36)).alloc o).cell? ⟨w.heap.size,0,none⟩=some (.int .i64 x.kind):=fun o=>(K.alloc o).cell 0
      have Y:∀o,((w.alloc (.cells #[.int .i64 x.kind,.string x.text,.slice x.adr x.cnt x.cap,.bool x.blank] 36)).alloc o).cell? ⟨w.heap.size,1,none⟩=some (.string x.text):=fun o=>(K.alloc o).cell 1
      have Z:∀o,((w.alloc (.cells #[.int .i64 x.kind,.string x.text,.slice x.adr x.cnt x.cap,.bool x.blank] 36)).alloc o).cell? ⟨w.heap.size,2,none⟩=some (.slice x.adr x.cnt x.cap):=fun o=>(K.alloc o).cell 2
      have aa:∀o,((w.alloc (.cells #[.int .i64 x.kind,.string x.text,.slice x.adr x.cnt x.cap,.bool x.blank] 36)).alloc o).cell? ⟨w.heap.size,3,none⟩=some (.bool x.blank):=fun o=>(K.alloc o).cell 3
      have U:((w.alloc (.cells #[.int .i64 x.kind,.string x.text,.slice x.adr x.cnt x.cap,.bool x.blank] 36)).alloc (.cells #[.int .i64 x.kind,.string x.text,.slice x.adr x.cnt x.cap,.bool x.blank] 36)).heap[w.heap.size+1]? =some (.cells #[.int .i64 x.kind,.string x.text,.slice x.adr x.cnt x.cap,.bool x.blank] 36 (0,0)):=by
        have:=heap_alloc_new (w.alloc (.cells #[.int .i64 x.kind,.string x.text,.slice x.adr x.cnt x.cap,.bool x.blank] 36)) (.cells #[.int .i64 x.kind,.string x.text,.slice x.adr x.cnt x.cap,.bool x.blank] 36);rwa[World.size_alloc]at this
      clear F I J L p g f H c4 c5 cf cz K d0 d2 d3 v E D ha r m HC P;go_enter func139,ntmps139;go_upto_region 4 with fail
      go_region_law
        (refine step_append_lies _ rfl (.tmp 24) (.tmp 26) 31 rfl R.w0.heap.size 36 i0 (.agg #[.int .i64 0,.string ⟨#[]⟩,.slice none 0 0,.bool false]) 4 56 underlying31 M.o.1 M.o.2.1 M.o.2.2.1 M.o.2.2.2 rfl (by decide) (.slice AN l.length cN) l.length (l.flatMap Qq_) (by first|(simp[Act.eval];done)|(simp[Act.eval,Act.put];done)|rfl) (by first|exact HM.o.drew|exact HM.o) ⟨w.heap.size+1,0,none⟩ 1 1 (Qq_ x) (by first|(simp[Act.eval];done)|(simp[Act.eval,Act.put];done)|rfl) (by rfl) (World.news_of_block (cs:=#[.int .i64 x.kind,.string x.text,.slice x.adr x.cnt x.cap,.bool x.blank]) (t:=36) (fr:=(0,0)) U) (Qe6_ _) (by decide) (by unfold maxLen;omega) oo (by first|exact N.o) (w.heap.size+1+1) (by simp) ?_
         intro q cap w6 n k C V;have c:((w.alloc (.cells #[.int .i64 x.kind,.string x.text,.slice x.adr x.cnt x.cap,.bool x.blank] 36)).alloc (.cells #[.int .i64 x.kind,.string x.text,.slice x.adr x.cnt x.cap,.bool x.blank] 36)).grownBy w6 (Value.slice AN l.length cN).ownBlock:=(by first|exact k|exact Kw_ k);obtain⟨⟨v5,j5⟩,jf,jz⟩:=H3.o _ c;have HW:=hid (HP.o _ _ n c (C.elim (fun e=>.inl e.symm) (fun e=>.inr (by rw[e];simp[Value.ownBlock]))));clear n k C c)
      all_goals
        obtain⟨A3,c3,ev,A,B⟩:=HW.o;injection ev with ev1 ev2 ev3;subst ev1;subst ev3;have O:=hid A;have Q:=hid B;clear A B HW ev2;go_wp2;go_ret;refine⟨rfl,_,⟨a,false,_,_,_,O.o,⟨rfl,HH.o.1,?_⟩,rfl⟩,?_⟩
        · rw[HH.o.2,List.map_append];rfl
        · exact S.o.trans (by rw[HR.o];exact Q.o)
end Go.Proofs.YtgbikafalcbibaaGreatDoor

/-
  Put together by program.
-/
import Derived.Test.YtbiijipkgfpgoaaGreatDoorMfC
set_option maxRecDepth 100000
set_option linter.all false
set_option maxHeartbeats 25600000
open Go.Proofs.Tryz
open Go.Value renaming int→I_,slice→S_,string→T_,bool→B_,pointer→P_,agg→A_,tuple→U_
open Go.IntKind renaming i64→j_
open Go.Obj renaming cells→C_
open Go.Ending renaming returned→R_
namespace Go.Proofs.YtbiijipkgfpgoaaGreatDoor
open Go.RowKit
structure PS where
 at_:Nat
 nodes:List PN
abbrev RdSt:=Option PS
abbrev PR:=Int × RdSt
abbrev sgZero:SgP:=(0,⟨#[]⟩,0,false)
abbrev noT:BA:=⟨#[]⟩
section
variable (sg:List SgP)
def Qx_ (st:RdSt) (i:Nat):SgP:=match st with|none=>sgZero|some s=>(sg[s.at_+i]?).getD sgZero
def isM (st:RdSt) (m:BA):Bool:=((Qx_ sg st 0).1==4)&&((Qx_ sg st 0).2.1.toList==m.toList)
def isW (st:RdSt) (m:BA):Bool:=((Qx_ sg st 0).1==1)&&((Qx_ sg st 0).2.1.toList==m.toList)
def Kp_ (st:RdSt) (i:Nat):Bool:=((Qx_ sg st i).1==1)&&!X5_ (Qx_ sg st i).2.1
def Qf_ (st:RdSt):RdSt:=st.map (fun s=>⟨s.at_+1,s.nodes⟩)
def Qn_ (st:RdSt) (m:BA):RdSt:=if isM sg st m=true then Qf_ st else none
def KP_ (st:RdSt) (x:PN):PR:=match st with|none=>(0,none)|some s=>if s.nodes.length=300 then (0,none)else ((s.nodes.length:Int),some ⟨s.at_,s.nodes++[x]⟩)
def YG_ (k:Int) (st:RdSt):PR:=((KP_ st ⟨k,(Qx_ sg st 0).2.1,[],false⟩).1,Qf_ (KP_ st ⟨k,(Qx_ sg st 0).2.1,[],false⟩).2)
def Qj_ (st:RdSt):PR:=if Kp_ sg st 0=true then YG_ sg 1 st else (0,none)
def nmS (st:RdSt):RdSt:=if Kp_ sg st 0=true then Qf_ st else none
def nmT (st:RdSt):BA:=if Kp_ sg st 0=true then (Qx_ sg st 0).2.1 else noT
def QG_ (one:RdSt->PR) (m:BA):Nat->LI->RdSt->LI × RdSt
 |0,ks,st=>(ks,st)
 |n+1,ks,st=>
  if st.isNone=true then (ks,st)
  else if isM sg st m=true then (ks,st)
  else if isM sg (one st).2 ⟨#[44]⟩=true then QG_ one m n (ks++[(one st).1]) (Qf_ (one st).2)
  else (ks++[(one st).1],(one st).2)
def Yg_ (one:RdSt->PR) (N:Nat) (k:Int) (st:RdSt):PR:=
 KP_ (Qn_ sg (QG_ sg one ⟨#[41]⟩ N [] (Qn_ sg st ⟨#[40]⟩)).2 ⟨#[41]⟩) ⟨5,noT,k::(QG_ sg one ⟨#[41]⟩ N [] (Qn_ sg st ⟨#[40]⟩)).1,false⟩
def Y2_ (one:RdSt->PR) (N:Nat):Nat->LI->RdSt->LI × RdSt
 |0,ks,st=>(ks,st)
 |n+1,ks,st=>
  if isM sg st ⟨#[46,46]⟩=true then Y2_ one N n (ks++[(Yg_ sg one N (Qj_ sg (Qf_ st)).1 (Qj_ sg (Qf_ st)).2).1]) (Yg_ sg one N (Qj_ sg (Qf_ st)).1 (Qj_ sg (Qf_ st)).2).2
  else (ks,st)
def GD_ (one:RdSt->PR) (m:BA):Nat->LI->RdSt->LI × RdSt
 |0,ks,st=>(ks,st)
 |n+1,ks,st=>if isM sg st m=true then GD_ one m n (ks++[(one (Qf_ st)).1]) (one (Qf_ st)).2 else (ks,st)
def Zg_ (l:Nat):List BA:=
 if l=0 then [⟨#[124,124]⟩]else if l=1 then [⟨#[38,38]⟩]else if l=2 then [⟨#[61,61]⟩]else if l=3 then [⟨#[60]⟩]else if l=4 then [⟨#[43]⟩,⟨#[45]⟩]else [⟨#[42]⟩]
def Zz_ (st:RdSt):List BA->BA
 |[]=>noT
 |m::r=>if isM sg st m=true then m else Zz_ st r
def KY_ (st:RdSt) (l:Nat):BA:=Zz_ sg st (Zg_ l)
def Zw_ (one:RdSt->PR) (l N:Nat):Nat->Int->RdSt->PR
 |0,k,st=>(k,st)
 |n+1,k,st=>
  if (KY_ sg st l).toList==[]then (k,st)
  else Zw_ one l N n (KP_ (GD_ sg one (KY_ sg st l) N [k] st).2 ⟨7,KY_ sg st l,(GD_ sg one (KY_ sg st l) N [k] st).1,false⟩).1 (KP_ (GD_ sg one (KY_ sg st l) N [k] st).2 ⟨7,KY_ sg st l,(GD_ sg one (KY_ sg st l) N [k] st).1,false⟩).2
def W0_ (one:RdSt->PR) (N:Nat):Nat->Int->RdSt->PR
 |0,k,st=>(k,st)
 |n+1,k,st=>
  if st.isNone=true then (k,st)
  else if isM sg st ⟨#[40]⟩=true then W0_ one N n (Yg_ sg one N k st).1 (Yg_ sg one N k st).2
  else if isM sg st ⟨#[46]⟩=true then
   (if Kp_ sg (Qf_ st) 0=true then W0_ one N n (KP_ (Qf_ st) ⟨6,(Qx_ sg (Qf_ st) 0).2.1,[k],false⟩).1 (Qf_ (KP_ (Qf_ st) ⟨6,(Qx_ sg (Qf_ st) 0).2.1,[k],false⟩).2)else (0,none))
  else (k,st)
def fnF (st:RdSt):Nat->Nat->Nat
 |0,i=>i
 |f+1,i=>if Kp_ sg st i=true then (if (Qx_ sg st (i+1)).2.1.toList==[44]then fnF st f (i+2)else i+1)else i
def fnB (st:RdSt):Bool:=((Qx_ sg st (fnF sg st (sg.length+1) 1)).2.1.toList==[41])&&((Qx_ sg st (fnF sg st (sg.length+1) 1+1)).2.1.toList==[61,62])
inductive Md
 |value|pick|chain (l:Nat)|end_|base|stmt (b:Bool)|block
variable (E:Md->Nat->RdSt->PR) (N:Nat)
def Xi_ (d:Nat) (st:RdSt):PR:=
 if isM sg (E .pick d st).2 ⟨#[46,46]⟩=true then KP_ (Y2_ sg (E .value d) N N [(E .pick d st).1] (E .pick d st).2).2 ⟨10,noT,(Y2_ sg (E .value d) N N [(E .pick d st).1] (E .pick d st).2).1,false⟩
 else E .pick d st
def KI_ (d:Nat) (st:RdSt):RdSt:=if d=20 then none else st
def Vq_ (d:Nat) (st:RdSt):PR:=
 let r:=E (.chain 0) (d+1) (KI_ d st)
 if isM sg r.2 ⟨#[63]⟩=true then
  let a:=E .pick (d+1) (Qf_ r.2)
  let b:=E .pick (d+1) (Qn_ sg a.2 ⟨#[58]⟩)
  KP_ b.2 ⟨8,noT,[r.1,a.1,b.1],false⟩
 else r
def Xc_ (l d:Nat) (st:RdSt):PR:=
 if l=6 then E .end_ d st else Zw_ sg (E (.chain (l+1)) d) l N N (E (.chain (l+1)) d st).1 (E (.chain (l+1)) d st).2
def endS (d:Nat) (st:RdSt):PR:=W0_ sg (E .value d) N N (E .base d st).1 (E .base d st).2
def fnS (d:Nat) (st:RdSt):PR:=
 let q:=QG_ sg (Qj_ sg) ⟨#[41]⟩ N [] (Qn_ sg st ⟨#[40]⟩)
 let r:=E .pick d (Qn_ sg (Qn_ sg q.2 ⟨#[41]⟩) ⟨#[61,62]⟩)
 KP_ r.2 ⟨9,noT,q.1++[r.1],false⟩
def Qdq_ (d:Nat) (st:RdSt):PR:=
 let q:=QG_ sg (E .value d) ⟨#[93]⟩ N [] (Qf_ st)
 KP_ (Qn_ sg q.2 ⟨#[93]⟩) ⟨4,noT,q.1,false⟩
def parS (d:Nat) (st:RdSt):PR:=
 let r:=E .value d (Qf_ st)
 KP_ (Qn_ sg r.2 ⟨#[41]⟩) ⟨11,noT,[r.1],false⟩
def YB_ (d:Nat) (st:RdSt):PR:=
 if (Qx_ sg st 0).1=1 then Qj_ sg st
 else if (Qx_ sg st 0).1=2 then YG_ sg 2 st
 else if (Qx_ sg st 0).1=3 then YG_ sg 3 st
 else if isM sg st ⟨#[91]⟩=true then Qdq_ sg E N d st
 else if isM sg st ⟨#[40]⟩=true then (if fnB sg st=true then fnS sg E N d st else parS sg E d st)
 else (0,none)
def Xm_ (b:Bool) (st:RdSt):PR:=((KP_ st ⟨19,(Qx_ sg st 0).2.1,[],b⟩).1,Qf_ (KP_ st ⟨19,(Qx_ sg st 0).2.1,[],b⟩).2)
def Jx_ (d:Nat) (b:Bool) (st:RdSt):PR:=
 if isM sg (nmS sg st) ⟨#[61]⟩=true then
  let r:=E .value d (Qf_ (nmS sg st))
  KP_ (Qn_ sg r.2 ⟨#[59]⟩) ⟨12,nmT sg st,[r.1],b⟩
 else KP_ (Qn_ sg (nmS sg st) ⟨#[59]⟩) ⟨12,nmT sg st,[],b⟩
def Yp_ (d:Nat) (b:Bool) (st:RdSt):PR:=
 if isM sg st ⟨#[59]⟩=true then KP_ (Qn_ sg st ⟨#[59]⟩) ⟨15,noT,[],b⟩
 else
  let r:=E .value d st
  KP_ (Qn_ sg r.2 ⟨#[59]⟩) ⟨15,noT,[r.1],b⟩
def JJ_ (d:Nat) (st:RdSt):PR:=((E .value d (Qn_ sg st ⟨#[40]⟩)).1,Qn_ sg (E .value d (Qn_ sg st ⟨#[40]⟩)).2 ⟨#[41]⟩)
def ifS (d:Nat) (b:Bool) (st:RdSt):PR:=
 let c:=JJ_ sg E d st
 let t:=E .block d c.2
 if isW sg t.2 ⟨#[101,108,115,101]⟩=true then
  let o:=E .block d (Qf_ t.2)
  KP_ o.2 ⟨16,noT,[c.1,t.1,o.1],b⟩
 else KP_ t.2 ⟨16,noT,[c.1,t.1],b⟩
def z6_ (d:Nat) (b:Bool) (st:RdSt):PR:=
 let c:=JJ_ sg E d st
 let t:=E .block d c.2
 KP_ t.2 ⟨17,noT,[c.1,t.1],b⟩
def setS (d:Nat) (b:Bool) (st:RdSt):PR:=
 let r:=E .value d (Qf_ (Qf_ st))
 KP_ (Qn_ sg r.2 ⟨#[59]⟩) ⟨13,nmT sg st,[r.1],b⟩
def doS (d:Nat) (b:Bool) (st:RdSt):PR:=
 let r:=E .value d st
 KP_ (Qn_ sg r.2 ⟨#[59]⟩) ⟨14,noT,[r.1],b⟩
def setB (st:RdSt):Bool:=Kp_ sg st 0&&(((Qx_ sg st 1).2.1.toList==[61])&&((Qx_ sg st 1).1==4))
def ZJ_ (d:Nat) (b:Bool) (st:RdSt):PR:=
 if (Qx_ sg st 0).1=5 then Xm_ sg b st
 else if isW sg st ⟨#[118,97,114]⟩=true then Jx_ sg E d b (Qf_ st)
 else if isW sg st ⟨#[114,101,116,117,114,110]⟩=true then Yp_ sg E d b (Qf_ st)
 else if isW sg st ⟨#[105,102]⟩=true then ifS sg E d b (Qf_ st)
 else if isW sg st ⟨#[119,104,105,108,101]⟩=true then z6_ sg E d b (Qf_ st)
 else if setB sg st=true then setS sg E d b st
 else doS sg E d b st
def XI_ (st:RdSt) (ks:LI):Bool:=(Qx_ sg st 0).2.2.2&&decide (0 < ks.length)
def Zv_ (one:Bool->RdSt->PR):Nat->LI->RdSt->LI × RdSt
 |0,ks,st=>(ks,st)
 |n+1,ks,st=>
  if st.isNone=true then (ks,st)
  else if isM sg st ⟨#[125]⟩=true then (ks,st)
  else Zv_ one n (ks++[(one (XI_ sg st ks) st).1]) (one (XI_ sg st ks) st).2
def Ye_ (d:Nat) (st:RdSt):PR:=
 let q:=Zv_ sg (fun b=>E (.stmt b) (d+1)) N [] (Qn_ sg (KI_ d st) ⟨#[123]⟩)
 KP_ (Qn_ sg q.2 ⟨#[125]⟩) ⟨18,noT,q.1,false⟩
def Qb8_:Md->Nat->RdSt->PR
 |.value=>Xi_ sg E N
 |.pick=>Vq_ sg E
 |.chain l=>Xc_ sg E N l
 |.end_=>endS sg E N
 |.base=>YB_ sg E N
 |.stmt b=>fun d st=>ZJ_ sg E d b st
 |.block=>Ye_ sg E N
def Qd_:Nat->Md->Nat->RdSt->PR
 |0=>fun _ _ _=>(0,none)
 |f+1=>Qb8_ sg (Qd_ f) N
def VU_ (b:Bool) (st:RdSt):PR:=
 let q:=QG_ sg (Qj_ sg) ⟨#[41]⟩ N [] (Qn_ sg (nmS sg st) ⟨#[40]⟩)
 let r:=E .block 0 (Qn_ sg q.2 ⟨#[41]⟩)
 KP_ r.2 ⟨20,nmT sg st,q.1++[r.1],b⟩
def V6_ (b:Bool) (st:RdSt):PR:=
 if (Qx_ sg st 0).1=5 then Xm_ sg b st
 else if isW sg st ⟨#[118,97,114]⟩=true then Jx_ sg E 0 b (Qf_ st)
 else VU_ sg E N b st
def Vd_ (b:Bool) (st:RdSt):PR:=
 let q:=Zv_ sg (V6_ sg E N) N [] (Qn_ sg (nmS sg st) ⟨#[123]⟩)
 KP_ (Qn_ sg q.2 ⟨#[125]⟩) ⟨21,nmT sg st,q.1,b⟩
def Y9_ (b:Bool) (st:RdSt):PR:=
 if (Qx_ sg st 0).1=5 then Xm_ sg b st
 else if isW sg st ⟨#[118,97,114]⟩=true then Jx_ sg E 0 b (Qf_ st)
 else if isW sg st ⟨#[99,108,97,115,115]⟩=true then Vd_ sg E N b (Qf_ st)
 else VU_ sg E N b st
def jN_ (st:RdSt):Bool:=match st with|none=>false|some s=>decide (s.at_ < sg.length)
def XL_:Nat->LI->RdSt->LI × RdSt
 |0,ks,st=>(ks,st)
 |n+1,ks,st=>if jN_ sg st=true then XL_ n (ks++[(Y9_ sg E N (XI_ sg st ks) st).1]) (Y9_ sg E N (XI_ sg st ks) st).2 else (ks,st)
def ji_ (st:RdSt):RdSt:=(KP_ (XL_ sg E N N [] st).2 ⟨22,noT,(XL_ sg E N N [] st).1,false⟩).2
end
def Xg_ (sg:List SgP):RdSt:=ji_ sg (Qd_ sg (sg.length+2) (14 * (sg.length+2))) (sg.length+2) (some ⟨0,[]⟩)
section
variable {sg:List SgP} {st st' st2:RdSt} {s:PS} {m:BA}
theorem WB_ (i:Nat):Qx_ sg none i=sgZero:=rfl
theorem ZM_:isM sg none m=false:=rfl
theorem vS_:isW sg none m=false:=rfl
theorem zH_ (i:Nat):Kp_ sg none i=false:=rfl
theorem zY_:Qf_ none=none:=rfl
theorem ZH_:Qn_ sg none m=none:=by unfold Qn_;rw[ZM_];rfl
theorem Z8_ (x:PN):KP_ none x=(0,none):=rfl
theorem VF_ (one:RdSt->PR) (n:Nat) (ks:LI):QG_ sg one m n ks none=(ks,none):=by
 cases n with
 |zero=>rfl
 |succ n=>unfold QG_;exact ip_ rfl
theorem Qd4_ (one:RdSt->PR) (n:Nat) (ks:LI):GD_ sg one m n ks none=(ks,none):=by
 cases n with
 |zero=>rfl
 |succ n=>unfold GD_;rw[ZM_,in_ dc_]
theorem X8_:(noT.toList==[])=true:=by rw[ByteArray.toList_eq];rfl
theorem Qbp_ (l:List BA):Zz_ sg none l=noT:=by
 induction l with
 |nil=>rfl
 |cons a l ih=>unfold Zz_;rw[ZM_,in_ dc_];exact ih
theorem zD_ (l:Nat):KY_ sg none l=noT:=Qbp_ _
theorem ZX_ (one:RdSt->PR) (l N n:Nat) (k:Int):Zw_ sg one l N n k none=(k,none):=by
 cases n with
 |zero=>rfl
 |succ n=>unfold Zw_;rw[zD_,ip_ X8_]
theorem Ve_ (one:RdSt->PR) (N n:Nat) (k:Int):W0_ sg one N n k none=(k,none):=by
 cases n with
 |zero=>rfl
 |succ n=>unfold W0_;exact ip_ rfl
theorem Xx_ (one:Bool->RdSt->PR) (n:Nat) (ks:LI):Zv_ sg one n ks none=(ks,none):=by
 cases n with
 |zero=>rfl
 |succ n=>unfold Zv_;exact ip_ rfl
theorem Gz_ (d:Nat):KI_ d none=none:=by unfold KI_;split<;>rfl
end
section
variable {sg:List SgP} {E:Md->Nat->RdSt->PR} {N:Nat}
theorem GI_ (hE:∀m d,E m d none=(0,none)):∀m d,Qb8_ sg E N m d none=(0,none):=by
 intro m d;have hs:∀b,ZJ_ sg E d b none=(0,none):=fun b=>by
  unfold ZJ_ doS;simp only[WB_,vS_,hE,ZH_,Z8_,setB,zH_]
  rfl
 cases m with
 |value=>show Xi_ sg E N d none=_;unfold Xi_;rw[hE,in_ (by rw[ZM_];decide)]
 |pick=>show Vq_ sg E d none=_;unfold Vq_;rw[Gz_,hE];simp only[ZM_];rfl
 |chain l=>show Xc_ sg E N l d none=_;unfold Xc_;rw[hE,hE];simp only[ZX_];split<;>rfl
 |end_=>show endS sg E N d none=_;unfold endS;rw[hE];exact Ve_ _ _ _ _
 |base=>show YB_ sg E N d none=_;unfold YB_;simp only[WB_,ZM_];rfl
 |stmt b=>exact hs b
 |block=>show Ye_ sg E N d none=_;unfold Ye_;rw[Gz_,ZH_,Xx_];simp only[ZH_];rfl
theorem Xy_:∀(f:Nat) (m:Md) (d:Nat),Qd_ sg N f m d none=(0,none):=by
 intro f
 induction f with
 |zero=>intro m d;rfl
 |succ f ih=>exact GI_ ih
end
def Adv (i j:Nat) (st st':RdSt):Prop:=∀t,st'=some t->∃s,st=some s/\s.at_+i<=t.at_/\s.nodes.length+j<=t.nodes.length
section
variable {sg:List SgP} {st st' st2:RdSt} {i j i' j':Nat}
theorem Adv.trans (h:Adv i j st st') (k:Adv i' j' st' st2):Adv (i+i') (j+j') st st2:=fun t e=>by
 obtain⟨s',e',h1,h2⟩:=k t e;obtain⟨s,e2,h3,h4⟩:=h s' e';exact⟨s,e2,oo,oo⟩
theorem Adv.weak (h:Adv i j st st') (h1:i'<=i) (h2:j'<=j):Adv i' j' st st':=fun t e=>by
 obtain⟨s,e2,h3,h4⟩:=h t e;exact⟨s,e2,oo,oo⟩
theorem Adv.refl (st:RdSt):Adv 0 0 st st:=fun t e=>⟨t,e,lr_ _,lr_ _⟩
theorem Adv.bad (i j:Nat) (st:RdSt):Adv i j st none:=fun t e=>by cases e
theorem Qh_ (st:RdSt):Adv 1 0 st (Qf_ st):=fun t e=>by
 cases st with
 |none=>cases e
 |some s=>obtain rfl:=oi_ e;exact⟨s,rfl,lr_ _,lr_ _⟩
theorem Qq_ (st:RdSt) (m:BA):Adv 1 0 st (Qn_ sg st m):=by
 unfold Qn_;split
 ·exact Qh_ st
 ·exact Adv.bad _ _ _
theorem Jy_ (st:RdSt):Adv 1 0 st (nmS sg st):=by
 unfold nmS;split
 ·exact Qh_ st
 ·exact Adv.bad _ _ _
theorem Xq_ (d:Nat) (st:RdSt):Adv 0 0 st (KI_ d st):=by
 unfold KI_;split
 ·exact Adv.bad _ _ _
 ·exact Adv.refl _
theorem Kg_ (st:RdSt) (x:PN):Adv 0 1 st (KP_ st x).2:=fun t e=>by
 unfold KP_ at e
 cases st with
 |none=>cases e
 |some s=>
  simp only at e;split at e
  ·cases e
  ·obtain rfl:=oi_ e;exact⟨s,rfl,by simp,by simp⟩
theorem z8_ (k:Int) (st:RdSt):Adv 1 1 st (YG_ sg k st).2:=((Kg_ st _).trans (Qh_ _)).weak oo oo
theorem QT_ (st:RdSt):Adv 1 1 st (Qj_ sg st).2:=by
 unfold Qj_;split
 ·exact z8_ 1 st
 ·exact Adv.bad _ _ _
theorem qa_ (b:Bool) (st:RdSt):Adv 1 1 st (Xm_ sg b st).2:=((Kg_ st _).trans (Qh_ _)).weak oo oo
theorem Yz_ {one:RdSt->PR} (h1:∀st,Adv 1 1 st (one st).2) (m:BA):∀(n:Nat) (ks:LI) (st:RdSt),ks.length<=(QG_ sg one m n ks st).1.length/\Adv 0 ((QG_ sg one m n ks st).1.length - ks.length) st (QG_ sg one m n ks st).2:=by
 intro n
 induction n with
 |zero=>intro ks st;exact⟨lr_ _,by simpa[QG_]using Adv.refl st⟩
 |succ n ih=>
  intro ks st;unfold QG_;split
  ·exact⟨lr_ _,by simpa using Adv.refl st⟩
  ·split
   ·exact⟨lr_ _,by simpa using Adv.refl st⟩
   ·split
    ·obtain⟨g1,g2⟩:=ih (ks++[(one st).1]) (Qf_ (one st).2);simp only[lA,List.length_singleton]at g1 g2;refine⟨oo,(((h1 st).trans (Qh_ _)).trans g2).weak oo oo⟩
    ·simp only[lA,List.length_singleton];exact⟨oo,(h1 st).weak oo oo⟩
theorem VB_ {one:RdSt->PR} (h1:∀st,Adv 1 1 st (one st).2) (N:Nat) (k:Int) (st:RdSt):Adv 1 1 st (Yg_ sg one N k st).2:=by
 unfold Yg_;exact((((Qq_ st _).trans (Yz_ h1 _ _ _ _).2).trans (Qq_ _ _)).trans (Kg_ _ _)).weak oo oo
theorem vp_ {one:RdSt->PR} (h1:∀st,Adv 1 1 st (one st).2) (N:Nat):∀(n:Nat) (ks:LI) (st:RdSt),ks.length<=(Y2_ sg one N n ks st).1.length/\Adv 0 ((Y2_ sg one N n ks st).1.length - ks.length) st (Y2_ sg one N n ks st).2:=by
 intro n
 induction n with
 |zero=>intro ks st;exact⟨lr_ _,by simpa[Y2_]using Adv.refl st⟩
 |succ n ih=>
  intro ks st;unfold Y2_;split
  ·obtain⟨g1,g2⟩:=ih (ks++[(Yg_ sg one N (Qj_ sg (Qf_ st)).1 (Qj_ sg (Qf_ st)).2).1]) (Yg_ sg one N (Qj_ sg (Qf_ st)).1 (Qj_ sg (Qf_ st)).2).2;simp only[lA,List.length_singleton]at g1 g2;exact⟨oo,((((Qh_ st).trans (QT_ _)).trans (VB_ h1 N _ _)).trans g2).weak oo oo⟩
  ·exact⟨lr_ _,by simpa using Adv.refl st⟩
theorem x1_ {one:RdSt->PR} (h1:∀st,Adv 1 1 st (one st).2) (m:BA):∀(n:Nat) (ks:LI) (st:RdSt),ks.length<=(GD_ sg one m n ks st).1.length/\Adv 0 ((GD_ sg one m n ks st).1.length - ks.length) st (GD_ sg one m n ks st).2:=by
 intro n
 induction n with
 |zero=>intro ks st;exact⟨lr_ _,by simpa[GD_]using Adv.refl st⟩
 |succ n ih=>
  intro ks st;unfold GD_;split
  ·obtain⟨g1,g2⟩:=ih (ks++[(one (Qf_ st)).1]) (one (Qf_ st)).2;simp only[lA,List.length_singleton]at g1 g2;exact⟨oo,(((Qh_ st).trans (h1 _)).trans g2).weak oo oo⟩
  ·exact⟨lr_ _,by simpa using Adv.refl st⟩
theorem Qcl_ {one:RdSt->PR} (h1:∀st,Adv 1 1 st (one st).2) (l N:Nat):∀(n:Nat) (k:Int) (st:RdSt),Adv 0 0 st (Zw_ sg one l N n k st).2:=by
 intro n
 induction n with
 |zero=>intro k st;exact Adv.refl st
 |succ n ih=>
  intro k st;unfold Zw_;split
  ·exact Adv.refl st
  ·exact(((x1_ h1 _ N [k] st).2.trans (Kg_ _ _)).trans (ih _ _)).weak oo oo
theorem QgH_ {one:RdSt->PR} (h1:∀st,Adv 1 1 st (one st).2) (N:Nat):∀(n:Nat) (k:Int) (st:RdSt),Adv 0 0 st (W0_ sg one N n k st).2:=by
 intro n
 induction n with
 |zero=>intro k st;exact Adv.refl st
 |succ n ih=>
  intro k st;unfold W0_;split
  ·exact Adv.refl st
  ·split
   ·exact((VB_ h1 N k st).trans (ih _ _)).weak oo oo
   ·split
    ·split
     ·exact((((Qh_ st).trans (Kg_ _ _)).trans (Qh_ _)).trans (ih _ _)).weak oo oo
     ·exact Adv.bad _ _ _
    ·exact Adv.refl st
theorem z7_ {one:Bool->RdSt->PR} (h1:∀b st,Adv 1 1 st (one b st).2):∀(n:Nat) (ks:LI) (st:RdSt),ks.length<=(Zv_ sg one n ks st).1.length/\Adv 0 ((Zv_ sg one n ks st).1.length - ks.length) st (Zv_ sg one n ks st).2:=by
 intro n
 induction n with
 |zero=>intro ks st;exact⟨lr_ _,by simpa[Zv_]using Adv.refl st⟩
 |succ n ih=>
  intro ks st;unfold Zv_;split
  ·exact⟨lr_ _,by simpa using Adv.refl st⟩
  ·split
   ·exact⟨lr_ _,by simpa using Adv.refl st⟩
   ·obtain⟨g1,g2⟩:=ih (ks++[(one (XI_ sg st ks) st).1]) (one (XI_ sg st ks) st).2;simp only[lA,List.length_singleton]at g1 g2;exact⟨oo,((h1 _ st).trans g2).weak oo oo⟩
end
section
variable {sg:List SgP} {E:Md->Nat->RdSt->PR} {N:Nat} (hE:∀m d st,Adv 1 1 st (E m d st).2)
include hE
theorem Qcm_ (d:Nat) (st:RdSt):Adv 1 1 st (Xi_ sg E N d st).2:=by
 unfold Xi_;split
 ·exact(((hE .pick d st).trans (vp_ (hE .value d) N N _ _).2).trans (Kg_ _ _)).weak oo oo
 ·exact hE _ _ _
theorem QeZ_ (d:Nat) (st:RdSt):Adv 1 1 st (Vq_ sg E d st).2:=by
 unfold Vq_;simp only;split
 ·exact(((((((Xq_ d st).trans (hE (.chain 0) (d+1) _)).trans (Qh_ _)).trans (hE .pick (d+1) _)).trans (Qq_ _ _)).trans (hE .pick (d+1) _)).trans (Kg_ _ _)).weak oo oo
 ·exact((Xq_ d st).trans (hE (.chain 0) (d+1) _)).weak oo oo
theorem Qh5_ (d:Nat) (st:RdSt):Adv 1 1 st (fnS sg E N d st).2:=by
 unfold fnS;exact((((((Qq_ st _).trans (Yz_ QT_ _ _ _ _).2).trans (Qq_ _ _)).trans (Qq_ _ _)).trans (hE .pick d _)).trans (Kg_ _ _)).weak oo oo
theorem QeX_ (d:Nat) (st:RdSt):Adv 1 1 st (YB_ sg E N d st).2:=by
 unfold YB_;split
 ·exact QT_ st
 ·split
  ·exact z8_ _ st
  ·split
   ·exact z8_ _ st
   ·split
    ·exact((((Qh_ st).trans (Yz_ (hE .value d) _ _ _ _).2).trans (Qq_ _ _)).trans (Kg_ _ _)).weak oo oo
    ·split
     ·split
      ·exact Qh5_ hE d st
      ·exact((((Qh_ st).trans (hE .value d _)).trans (Qq_ _ _)).trans (Kg_ _ _)).weak oo oo
     ·exact Adv.bad _ _ _
theorem x3_ (d:Nat) (b:Bool) (st:RdSt):Adv 1 1 st (Jx_ sg E d b st).2:=by
 unfold Jx_;split
 ·exact(((((Jy_ st).trans (Qh_ _)).trans (hE .value d _)).trans (Qq_ _ _)).trans (Kg_ _ _)).weak oo oo
 ·exact(((Jy_ st).trans (Qq_ _ _)).trans (Kg_ _ _)).weak oo oo
theorem Yy_ (d:Nat) (st:RdSt):Adv 1 1 st (JJ_ sg E d st).2:=(((Qq_ st _).trans (hE .value d _)).trans (Qq_ _ _)).weak oo oo
theorem Qe1_ (d:Nat) (b:Bool) (st:RdSt):Adv 1 1 st (ZJ_ sg E d b st).2:=by
 unfold ZJ_;split
 ·exact qa_ b st
 ·split
  ·exact((Qh_ st).trans (x3_ hE d b _)).weak oo oo
  ·split
   ·unfold Yp_;split
    ·exact(((Qh_ st).trans (Qq_ _ _)).trans (Kg_ _ _)).weak oo oo
    ·exact((((Qh_ st).trans (hE .value d _)).trans (Qq_ _ _)).trans (Kg_ _ _)).weak oo oo
   ·split
    ·unfold ifS;simp only;split
     ·exact((((((Qh_ st).trans (Yy_ hE d _)).trans (hE .block d _)).trans (Qh_ _)).trans (hE .block d _)).trans (Kg_ _ _)).weak oo oo
     ·exact((((Qh_ st).trans (Yy_ hE d _)).trans (hE .block d _)).trans (Kg_ _ _)).weak oo oo
    ·split
     ·exact((((Qh_ st).trans (Yy_ hE d _)).trans (hE .block d _)).trans (Kg_ _ _)).weak oo oo
     ·split
      ·exact(((((Qh_ st).trans (Qh_ _)).trans (hE .value d _)).trans (Qq_ _ _)).trans (Kg_ _ _)).weak oo oo
      ·exact(((hE .value d st).trans (Qq_ _ _)).trans (Kg_ _ _)).weak oo oo
theorem Qck_ (d:Nat) (st:RdSt):Adv 1 1 st (Ye_ sg E N d st).2:=by
 unfold Ye_;exact(((((Xq_ d st).trans (Qq_ _ _)).trans (z7_ (fun b=>hE (.stmt b) (d+1)) _ _ _).2).trans (Qq_ _ _)).trans (Kg_ _ _)).weak oo oo
theorem Qe0_ (m:Md) (d:Nat) (st:RdSt):Adv 1 1 st (Qb8_ sg E N m d st).2:=by
 cases m with
 |value=>exact Qcm_ hE d st
 |pick=>exact QeZ_ hE d st
 |chain l=>
  show Adv 1 1 st (Xc_ sg E N l d st).2;unfold Xc_;split
  ·exact hE _ _ _
  ·exact((hE (.chain (l+1)) d st).trans (Qcl_ (hE (.chain (l+1)) d) l N N _ _)).weak oo oo
 |end_=>exact((hE .base d st).trans (QgH_ (hE .value d) N N _ _)).weak oo oo
 |base=>exact QeX_ hE d st
 |stmt b=>exact Qe1_ hE d b st
 |block=>exact Qck_ hE d st
theorem vq_ (b:Bool) (st:RdSt):Adv 1 1 st (VU_ sg E N b st).2:=by
 unfold VU_;exact((((((Jy_ st).trans (Qq_ _ _)).trans (Yz_ QT_ _ _ _ _).2).trans (Qq_ _ _)).trans (hE .block 0 _)).trans (Kg_ _ _)).weak oo oo
theorem z9_ (b:Bool) (st:RdSt):Adv 1 1 st (V6_ sg E N b st).2:=by
 unfold V6_;split
 ·exact qa_ b st
 ·split
  ·exact((Qh_ st).trans (x3_ hE 0 b _)).weak oo oo
  ·exact vq_ hE b st
theorem x2_ (b:Bool) (st:RdSt):Adv 1 1 st (Y9_ sg E N b st).2:=by
 unfold Y9_;split
 ·exact qa_ b st
 ·split
  ·exact((Qh_ st).trans (x3_ hE 0 b _)).weak oo oo
  ·split
   ·unfold Vd_;exact((((((Qh_ st).trans (Jy_ _)).trans (Qq_ _ _)).trans (z7_ (z9_ hE) _ _ _).2).trans (Qq_ _ _)).trans (Kg_ _ _)).weak oo oo
   ·exact vq_ hE b st
end
theorem QB_ {sg:List SgP} {N:Nat}:∀(f:Nat) (m:Md) (d:Nat) (st:RdSt),Adv 1 1 st (Qd_ sg N f m d st).2:=by
 intro f
 induction f with
 |zero=>intro m d st;exact Adv.bad _ _ _
 |succ f ih=>exact Qe0_ ih
section
variable {sg:List SgP} {st:RdSt} {m:BA}
theorem VA_ (st:RdSt) (x:PN):KP_ (Qf_ st) x=((KP_ st x).1,Qf_ (KP_ st x).2):=by
 cases st with
 |none=>rfl
 |some s=>
  unfold KP_ Qf_;simp only[Option.map_some];split<;>rfl
theorem Jo_ (st:RdSt):KP_ (nmS sg st) ⟨1,nmT sg st,[],false⟩=Qj_ sg st:=by
 unfold nmS nmT Qj_;split
 ·exact VA_ _ _
 ·rfl
theorem Qdj_ (k:Int) (st:RdSt):KP_ (Qf_ st) ⟨k,(Qx_ sg st 0).2.1,[],false⟩=YG_ sg k st:=VA_ _ _
theorem qI_ (st:RdSt):KP_ (Qf_ st) ⟨19,(Qx_ sg st 0).2.1,[],false⟩=Xm_ sg false st:=VA_ _ _
theorem Zr_ (h:isM sg st m=true):Qn_ sg st m=Qf_ st:=ip_ h
theorem GK_ (h:isM sg st m=false):Qn_ sg st m=none:=in_ (by rw[h];decide)
def Zs_ (k:Int) (b:Bool) (st:RdSt):RdSt:=st.map (fun s=>⟨s.at_,s.nodes.modify k.toNat (fun x=>⟨x.kind,x.text,x.kids,b⟩)⟩)
def Xa_ (b:Bool) (r:PR):PR:=(r.1,Zs_ r.1 b r.2)
theorem QdF_ {α:Type} (l:List α) (x:α) (f:α->α):(l++[x]).modify l.length f=l++[f x]:=by
 induction l with
 |nil=>rfl
 |cons a l ih=>simpa using ih
theorem KR_ (st:RdSt) (k:Int) (t:BA) (ks:LI) (b:Bool):KP_ st ⟨k,t,ks,b⟩=Xa_ b (KP_ st ⟨k,t,ks,false⟩):=by
 cases st with
 |none=>rfl
 |some s=>
  unfold KP_ Xa_ Zs_;simp only;split
  ·rfl
  ·simp only[Option.map_some,it_];rw[QdF_]
theorem QbY_ (k:Int) (b:Bool) (st:RdSt):Qf_ (Zs_ k b st)=Zs_ k b (Qf_ st):=by cases st<;>rfl
theorem GB_ (b:Bool) (st:RdSt):Xm_ sg b st=Xa_ b (Xm_ sg false st):=by
 unfold Xm_;rw[KR_ st 19 _ [] b];unfold Xa_;simp only[QbY_]
variable {E:Md->Nat->RdSt->PR} {N:Nat}
theorem WT_ (d:Nat) (b:Bool) (st:RdSt):Jx_ sg E d b st=Xa_ b (Jx_ sg E d false st):=by
 unfold Jx_;split
 ·exact KR_ _ _ _ _ _
 ·exact KR_ _ _ _ _ _
theorem Qb9_ (d:Nat) (b:Bool) (st:RdSt):ZJ_ sg E d b st=Xa_ b (ZJ_ sg E d false st):=by
 unfold ZJ_;split
 ·exact GB_ b st
 ·split
  ·exact WT_ d b _
  ·split
   ·unfold Yp_;split
    ·exact KR_ _ _ _ _ _
    ·exact KR_ _ _ _ _ _
   ·split
    ·unfold ifS;simp only;split
     ·exact KR_ _ _ _ _ _
     ·exact KR_ _ _ _ _ _
    ·split
     ·exact KR_ _ _ _ _ _
     ·split
      ·exact KR_ _ _ _ _ _
      ·exact KR_ _ _ _ _ _
theorem QdC_ (b:Bool) (st:RdSt):V6_ sg E N b st=Xa_ b (V6_ sg E N false st):=by
 unfold V6_;split
 ·exact GB_ b st
 ·split
  ·exact WT_ 0 b _
  ·exact KR_ _ _ _ _ _
theorem QeI_ (b:Bool) (st:RdSt):Y9_ sg E N b st=Xa_ b (Y9_ sg E N false st):=by
 unfold Y9_;split
 ·exact GB_ b st
 ·split
  ·exact WT_ 0 b _
  ·split
   ·exact KR_ _ _ _ _ _
   ·exact KR_ _ _ _ _ _
theorem QaS_ (f:Nat) (d:Nat) (b:Bool) (st:RdSt):Qd_ sg N f (.stmt b) d st=Xa_ b (Qd_ sg N f (.stmt false) d st):=by
 cases f with
 |zero=>rfl
 |succ f=>exact Qb9_ d b st
def XC_ (sg:List SgP):Prop:=∀d∈sg,((d.2.1.toList==[41])=true\/(d.2.1.toList==[61,62])=true\/(d.2.1.toList==[44])=true)->d.1=4
theorem Qec_ (hm:XC_ sg) {i:Nat} (h:((Qx_ sg st i).2.1.toList==[41])=true\/((Qx_ sg st i).2.1.toList==[61,62])=true\/((Qx_ sg st i).2.1.toList==[44])=true):(Qx_ sg st i).1=4:=by
 have a:∀c:List UInt8,c≠[]->¬(sgZero.2.1.toList==c)=true:=fun c hc e=>by
  have h1:sgZero.2.1.toList=[]:=by rw[ByteArray.toList_eq]
  rw[h1]at e;exact hc (eq_of_beq e).symm
 unfold Qx_ at h |-
 cases st with
 |none=>
  rcases h with h|h|h
  ·exact absurd h (a _ dc_)
  ·exact absurd h (a _ dc_)
  ·exact absurd h (a _ dc_)
 |some s=>
  simp only at h |-
  cases b:sg[s.at_+i]? with
  |none=>
   rw[b]at h;rcases h with h|h|h
   ·exact absurd h (a _ dc_)
   ·exact absurd h (a _ dc_)
   ·exact absurd h (a _ dc_)
  |some d=>
   rw[b]at h;exact hm d (lm_ b) h
end
def x0_ (sg:List SgP) (p:Nat):Prop:=∃d,sg[p]? =some d/\d.1=4/\(d.2.1.toList==[44])=true
def xZ_ (p:Nat) (st:RdSt):Prop:=∀s,st=some s->s.at_=p
section
variable {sg:List SgP} {p:Nat} {st:RdSt} {E:Md->Nat->RdSt->PR} {N:Nat}
theorem Qf7_ (hs:x0_ sg p) (hn:xZ_ p st) (h:st≠none):(Qx_ sg st 0).1=4/\(Qx_ sg st 0).2.1.toList=[44]:=by
 obtain⟨d,h1,h2,h3⟩:=hs
 cases st with
 |none=>exact absurd rfl h
 |some s=>
  have:=hn s rfl;subst this;unfold Qx_;simp only[Nat.add_zero];rw[h1];exact⟨h2,eq_of_beq h3⟩
theorem Yw_ (hs:x0_ sg p) (hn:xZ_ p st) {m:BA} (hm:m.toList≠[44]):isM sg st m=false:=by
 by_cases h:st=none
 ·subst h;rfl
 ·unfold isM;rw[(Qf7_ hs hn h).2];have:([44]==m.toList)=false:=by rw[bn_];exact fun e=>hm e.symm
  rw[this,Bool.and_false]
theorem Y1_ {l:List UInt8} (h:l≠[44]):(⟨l.toArray⟩:BA).toList≠[44]:=by rw[ByteArray.toList_eq];simpa using h
theorem xj_:xZ_ p none:=fun s e=>by cases e
theorem Qcb_ (hs:x0_ sg p) (hn:xZ_ p st):∀l:List BA,(∀m∈l,m.toList≠[44])->Zz_ sg st l=noT:=by
 intro l
 induction l with
 |nil=>intro _;rfl
 |cons a l ih=>
  intro h;unfold Zz_;rw[Yw_ hs hn (h a sm_),in_ dc_];exact ih (fun m hm=>h m (by simp[hm]))
theorem QfE_ (l:Nat):∀m∈Zg_ l,m.toList≠[44]:=by
 unfold Zg_;intro m a;split at a
 ·simp at a;subst a;exact Y1_ (l:=[124,124]) dc_
 ·split at a
  ·simp at a;subst a;exact Y1_ (l:=[38,38]) dc_
  ·split at a
   ·simp at a;subst a;exact Y1_ (l:=[61,61]) dc_
   ·split at a
    ·simp at a;subst a;exact Y1_ (l:=[60]) dc_
    ·split at a
     ·simp at a;rcases a with rfl|rfl
      ·exact Y1_ (l:=[43]) dc_
      ·exact Y1_ (l:=[45]) dc_
     ·simp at a;subst a;exact Y1_ (l:=[42]) dc_
theorem vc_ (hs:x0_ sg p) (hn:xZ_ p st) (one:RdSt->PR) (l n:Nat) (k:Int):Zw_ sg one l N n k st=(k,st):=by
 cases n with
 |zero=>rfl
 |succ n=>unfold Zw_;rw[show KY_ sg st l=noT from Qcb_ hs hn _ (QfE_ l)];exact ip_ X8_
theorem Qev_ (hs:x0_ sg p) (hn:xZ_ p st) (one:RdSt->PR) (n:Nat) (k:Int):W0_ sg one N n k st=(k,st):=by
 cases n with
 |zero=>rfl
 |succ n=>
  unfold W0_;split
  ·rfl
  ·rw[Yw_ hs hn (Y1_ (l:=[40]) dc_),in_ dc_,Yw_ hs hn (Y1_ (l:=[46]) dc_),in_ dc_]
def Md.val:Md->Bool
 |.stmt _=>false
 |.block=>false
 |_=>true
theorem k7_ (k:Int) {s:PS} (hp:s.at_+1=p):xZ_ p (YG_ sg k (some s)).2:=by
 intro t a;unfold YG_ KP_ at a;simp only at a;split at a
 ·cases a
 ·have:=oi_ a;rw[<-this];exact hp
theorem vj_ {s:PS} (hs:x0_ sg (s.at_+1)) (hn:Kp_ sg (some s) 0=true):∀(f:Nat) (m:Md) (d:Nat),m.val=true->xZ_ (s.at_+1) (Qd_ sg N f m d (some s)).2:=by
 intro f
 induction f with
 |zero=>intro m d _;exact xj_
 |succ f a=>
  intro m d hm;show xZ_ _ (Qb8_ sg (Qd_ sg N f) N m d (some s)).2
  cases m with
  |value=>
   show xZ_ _ (Xi_ sg (Qd_ sg N f) N d (some s)).2;unfold Xi_;rw[Yw_ hs (a .pick d rfl) (Y1_ (l:=[46,46]) dc_),in_ dc_];exact a .pick d rfl
  |pick=>
   show xZ_ _ (Vq_ sg (Qd_ sg N f) d (some s)).2;have hq:xZ_ (s.at_+1) (Qd_ sg N f (.chain 0) (d+1) (KI_ d (some s))).2:=by
    unfold KI_;split
    ·rw[Xy_];exact xj_
    ·exact a (.chain 0) (d+1) rfl
   unfold Vq_;simp only;rw[Yw_ hs hq (Y1_ (l:=[63]) dc_),in_ dc_];exact hq
  |chain l=>
   show xZ_ _ (Xc_ sg (Qd_ sg N f) N l d (some s)).2;unfold Xc_;split
   ·exact a .end_ d rfl
   ·rw[vc_ hs (a (.chain (l+1)) d rfl)];exact a (.chain (l+1)) d rfl
  |end_=>
   show xZ_ _ (endS sg (Qd_ sg N f) N d (some s)).2;unfold endS;rw[Qev_ hs (a .base d rfl)];exact a .base d rfl
  |base=>
   show xZ_ _ (YB_ sg (Qd_ sg N f) N d (some s)).2;have h1:(Qx_ sg (some s) 0).1=1:=by
    have:=hn;unfold Kp_ at this;simp only[Bool.and_eq_true]at this;exact eq_of_beq this.1
   unfold YB_;rw[ip_ h1];unfold Qj_;rw[ip_ hn];exact k7_ 1 rfl
  |stmt b=>cases hm
  |block=>cases hm
theorem QeL_ {s:PS} (h1:(Qx_ sg (some s) 0).1=1) (hn:Kp_ sg (some s) 0=false):∀(f:Nat) (m:Md) (d:Nat),m.val=true->(Qd_ sg N f m d (some s)).2=none:=by
 intro f
 induction f with
 |zero=>intro m d _;rfl
 |succ f a=>
  intro m d hm;show(Qb8_ sg (Qd_ sg N f) N m d (some s)).2=none
  cases m with
  |value=>
   show(Xi_ sg (Qd_ sg N f) N d (some s)).2=none;unfold Xi_;rw[a .pick d rfl,ZM_,in_ dc_];exact a .pick d rfl
  |pick=>
   show(Vq_ sg (Qd_ sg N f) d (some s)).2=none;have hq:(Qd_ sg N f (.chain 0) (d+1) (KI_ d (some s))).2=none:=by
    unfold KI_;split
    ·rw[Xy_]
    ·exact a (.chain 0) (d+1) rfl
   unfold Vq_;simp only;rw[hq,ZM_,in_ dc_];exact hq
  |chain l=>
   show(Xc_ sg (Qd_ sg N f) N l d (some s)).2=none;unfold Xc_;split
   ·exact a .end_ d rfl
   ·rw[a (.chain (l+1)) d rfl,ZX_]
  |end_=>
   show(endS sg (Qd_ sg N f) N d (some s)).2=none;unfold endS;rw[a .base d rfl,Ve_]
  |base=>
   show(YB_ sg (Qd_ sg N f) N d (some s)).2=none;unfold YB_;rw[ip_ h1];unfold Qj_;rw[hn]
   rfl
  |stmt b=>cases hm
  |block=>cases hm
end
def JC_ (sg:List SgP) (i:Nat):Bool:=
 decide (i+1 < sg.length)&&(((sg[i]?).getD sgZero).2.1.toList==[41])&&(((sg[i]?).getD sgZero).1==4)&&(((sg[i+1]?).getD sgZero).2.1.toList==[61,62])&&(((sg[i+1]?).getD sgZero).1==4)
def kg_ (sg:List SgP):Nat->Nat->Bool
 |0,i=>JC_ sg i
 |f+1,i=>if i+1 < sg.length/\((sg[i]?).getD sgZero).1=1 then (if ((sg[i+1]?).getD sgZero).2.1.toList==[44]then kg_ sg f (i+2)else JC_ sg (i+1))else JC_ sg i
def x7_ (sg:List SgP) (st:RdSt):Bool:=isM sg st ⟨#[40]⟩&&(match st with|none=>false|some s=>kg_ sg (sg.length+1) (s.at_+1))
section
variable {sg:List SgP} {s:PS}
theorem xu_ (i:Nat):Qx_ sg (some s) i=(sg[s.at_+i]?).getD sgZero:=rfl
theorem QeQ_ {c:List UInt8} (hc:c≠[]):¬(sgZero.2.1.toList==c)=true:=fun e=>by
 have h1:sgZero.2.1.toList=[]:=by rw[ByteArray.toList_eq]
 rw[h1]at e;exact hc (eq_of_beq e).symm
theorem vh_ {i:Nat} {c:List UInt8} (hc:c≠[]) (h:(((sg[i]?).getD sgZero).2.1.toList==c)=true):i < sg.length:=by
 rcases Nat.lt_or_ge i sg.length with hl|hl
 ·exact hl
 ·rw[List.getElem?_eq_none hl]at h;exact absurd h (QeQ_ hc)
theorem Gt_ (hm:XC_ sg) {i:Nat} (h:(((sg[i]?).getD sgZero).2.1.toList==[41])=true\/(((sg[i]?).getD sgZero).2.1.toList==[61,62])=true\/(((sg[i]?).getD sgZero).2.1.toList==[44])=true):((sg[i]?).getD sgZero).1=4:=by
 have:=Qec_ (sg:=sg) (st:=some ⟨i,[]⟩) hm (i:=0) (by simpa[Qx_]using h);simpa[Qx_]using this
def fnT (sg:List SgP) (st:RdSt) (f i:Nat):Bool:=((Qx_ sg st (fnF sg st f i)).2.1.toList==[41])&&((Qx_ sg st (fnF sg st f i+1)).2.1.toList==[61,62])
theorem V0_ (hm:XC_ sg) (i:Nat):JC_ sg i=((((sg[i]?).getD sgZero).2.1.toList==[41])&&(((sg[i+1]?).getD sgZero).2.1.toList==[61,62])):=by
 unfold JC_
 cases h1:(((sg[i]?).getD sgZero).2.1.toList==[41])with
 |false=>simp
 |true=>
  cases h2:(((sg[i+1]?).getD sgZero).2.1.toList==[61,62])with
  |false=>simp
  |true=>
   rw[Gt_ hm (.inl h1),Gt_ hm (.inr (.inl h2)),dt_ (vh_ dc_ h2)]
   rfl
theorem Qid_ (g:XC_ sg):∀(f i:Nat),fnT sg (some s) f i=true->kg_ sg f (s.at_+i)=true:=by
 intro f
 induction f with
 |zero=>
  intro i h;unfold kg_;rw[V0_ g];exact h
 |succ f ih=>
  intro i h;unfold fnT fnF at h;unfold kg_
  cases b:Kp_ sg (some s) i with
  |false=>
   rw[b,in_ dc_]at h;have hk:¬(s.at_+i+1 < sg.length/\((sg[s.at_+i]?).getD sgZero).1=1):=fun e=>by
    have h1:(Qx_ sg (some s) i).1=4:=Qec_ g (.inl (by simp only[Bool.and_eq_true]at h;exact h.1));rw[xu_]at h1;omega
   rw[in_ hk,V0_ g];exact h
  |true=>
   rw[b,ip_ rfl]at h;have h1:((sg[s.at_+i]?).getD sgZero).1=1:=by
    unfold Kp_ at b;simp only[Bool.and_eq_true]at b;exact eq_of_beq b.1
   cases d:((Qx_ sg (some s) (i+1)).2.1.toList==[44])with
   |true=>
    have a:(((sg[s.at_+i+1]?).getD sgZero).2.1.toList==[44])=true:=d;rw[d,ip_ rfl]at h;rw[ip_ ⟨vh_ dc_ a,h1⟩,a,ip_ rfl];exact ih (i+2) h
   |false=>
    have a:(((sg[s.at_+i+1]?).getD sgZero).2.1.toList==[44])=false:=d;rw[d,in_ dc_]at h;have hl:s.at_+i+1 < sg.length:=by
     simp only[Bool.and_eq_true]at h;exact vh_ (c:=[41]) dc_ h.1
    rw[ip_ ⟨hl,h1⟩,a,in_ dc_,V0_ g];exact h
theorem kM_ {m:BA}:isM sg none m=false:=rfl
theorem Qe7_ (h:XC_ sg):∀(n f i:Nat) (ks:LI) (a:List PN),kg_ sg f (s.at_+i)=true->fnT sg (some s) f i=false->
  Qn_ sg (QG_ sg (Qj_ sg) ⟨#[41]⟩ n ks (some ⟨s.at_+i,a⟩)).2 ⟨#[41]⟩=none:=by
 intro n
 induction n with
 |zero=>
  intro f i ks a b c;unfold QG_;refine GK_ ?_
  cases l:isM sg (some ⟨s.at_+i,a⟩) ⟨#[41]⟩with
  |false=>rfl
  |true=>
   exfalso;unfold isM at l;simp only[Bool.and_eq_true]at l;have o:(Qx_ sg (some s) i).1=4:=eq_of_beq l.1;have d:Kp_ sg (some s) i=false:=(by unfold Kp_;rw[o];rfl);have m:¬(s.at_+i+1 < sg.length/\((sg[s.at_+i]?).getD sgZero).1=1):=fun e=>by rw[xu_]at o;omega
   cases f with
   |zero=>unfold kg_ at b;rw[V0_ h]at b;exact absurd (c.symm.trans b) dc_
   |succ f=>
    unfold kg_ at b;rw[in_ m,V0_ h]at b;unfold fnT fnF at c;rw[d,in_ dc_]at c;exact absurd (c.symm.trans b) dc_
 |succ n ih=>
  intro f i ks a b c;unfold QG_;rw[in_ (show ¬(some (⟨s.at_+i,a⟩:PS)).isNone=true by simp)]
  cases f with
  |zero=>unfold kg_ at b;rw[V0_ h]at b;exact absurd (c.symm.trans b) dc_
  |succ f=>
   unfold kg_ at b;unfold fnT fnF at c;have hq:Qx_ sg (some ⟨s.at_+i,a⟩) 0=(sg[s.at_+i]?).getD sgZero:=rfl;by_cases m:s.at_+i+1 < sg.length/\((sg[s.at_+i]?).getD sgZero).1=1
   ·rw[ip_ m]at b;have l:isM sg (some ⟨s.at_+i,a⟩) ⟨#[41]⟩=false:=(by unfold isM;rw[hq,m.2];rfl);rw[l,in_ dc_]
    cases d:Kp_ sg (some s) i with
    |false=>
     have j:Qj_ sg (some ⟨s.at_+i,a⟩)=(0,none):=by
      unfold Qj_;rw[show Kp_ sg (some ⟨s.at_+i,a⟩) 0=Kp_ sg (some s) i from rfl,d];rfl
     rw[j];simp only[kM_,Bool.false_eq_true,if_false];exact ZH_
    |true=>
     rw[d,ip_ rfl]at c;have j:Qj_ sg (some ⟨s.at_+i,a⟩)=YG_ sg 1 (some ⟨s.at_+i,a⟩):=by
      unfold Qj_;rw[show Kp_ sg (some ⟨s.at_+i,a⟩) 0=Kp_ sg (some s) i from rfl,d];rfl
     rw[j]
     cases hl:(YG_ sg 1 (some ⟨s.at_+i,a⟩)).2 with
     |none=>
      simp only[kM_,Bool.false_eq_true,if_false];exact ZH_
     |some t=>
      obtain⟨a',r⟩:=t;have q:a'=s.at_+i+1:=k7_ (sg:=sg) 1 (s:=⟨s.at_+i,a⟩) rfl _ hl;subst q
      cases k:(((sg[s.at_+i+1]?).getD sgZero).2.1.toList==[44])with
      |true=>
       rw[k,ip_ rfl]at b;have g:((Qx_ sg (some s) (i+1)).2.1.toList==[44])=true:=k;rw[g,ip_ rfl]at c;have p:isM sg (some ⟨s.at_+i+1,r⟩) ⟨#[44]⟩=true:=by
        unfold isM;rw[show Qx_ sg (some ⟨s.at_+i+1,r⟩) 0=(sg[s.at_+i+1]?).getD sgZero from rfl,Gt_ h (.inr (.inr k)),show(⟨#[44]⟩:BA).toList=[44]by rw[ByteArray.toList_eq],k]
        rfl
       rw[ip_ p];exact ih f (i+2) _ r b c
      |false=>
       exfalso;rw[k,in_ dc_,V0_ h]at b;have g:((Qx_ sg (some s) (i+1)).2.1.toList==[44])=false:=k;rw[g,in_ dc_]at c;exact absurd (c.symm.trans b) dc_
   ·exfalso;rw[in_ m,V0_ h]at b
    cases d:Kp_ sg (some s) i with
    |false=>
     rw[d,in_ dc_]at c;exact absurd (c.symm.trans b) dc_
    |true=>
     have h1:((sg[s.at_+i]?).getD sgZero).1=1:=by
      unfold Kp_ at d;simp only[Bool.and_eq_true]at d;exact eq_of_beq d.1
     have o:=Gt_ h (i:=s.at_+i) (.inl (by simp only[Bool.and_eq_true]at b;exact b.1));omega
end
section
variable {sg:List SgP} {E:Md->Nat->RdSt->PR} {N f:Nat}
theorem QaF_ (g:XC_ sg) (d:Nat) (st:RdSt) (a:x7_ sg st=true) (hf:fnB sg st=false):fnS sg (Qd_ sg N f) N d st=(0,none)/\parS sg (Qd_ sg N f) d st=(0,none):=by
 unfold x7_ at a;simp only[Bool.and_eq_true]at a;obtain⟨k,a⟩:=a
 cases st with
 |none=>cases a
 |some s=>
  simp only at a;have c:fnT sg (some s) (sg.length+1) 1=false:=hf;constructor
  ·unfold fnS;simp only;rw[Zr_ k];have:=Qe7_ g N (sg.length+1) 1 [] s.nodes a c;rw[show Qf_ (some s)=some ⟨s.at_+1,s.nodes⟩from rfl,this,ZH_,Xy_]
   rfl
  ·unfold parS;simp only;have n:Qn_ sg (Qd_ sg N f .value d (Qf_ (some s))).2 ⟨#[41]⟩=none:=by
    rw[show Qf_ (some s)=some ⟨s.at_+1,s.nodes⟩from rfl];unfold kg_ at a;unfold fnT fnF at c;by_cases j:s.at_+1+1 < sg.length/\((sg[s.at_+1]?).getD sgZero).1=1
    ·rw[ip_ j]at a
     cases b:Kp_ sg (some s) 1 with
     |false=>
      rw[QeL_ (s:=⟨s.at_+1,s.nodes⟩) j.2 b f .value d rfl];exact ZH_
     |true=>
      rw[b,ip_ rfl]at c
      cases h:(((sg[s.at_+1+1]?).getD sgZero).2.1.toList==[44])with
      |true=>
       have e:=j.1;have hs:x0_ sg (s.at_+1+1):=by
        refine⟨sg[s.at_+1+1],List.getElem?_eq_getElem e,?_,?_⟩
        ·have:=Gt_ g (i:=s.at_+1+1) (.inr (.inr h));rwa[List.getElem?_eq_getElem e]at this
        ·rwa[List.getElem?_eq_getElem e]at h
       exact GK_ (Yw_ hs (vj_ (s:=⟨s.at_+1,s.nodes⟩) hs b f .value d rfl) (Y1_ (l:=[41]) dc_))
      |false=>
       exfalso;rw[h,in_ dc_,V0_ g]at a;have m:((Qx_ sg (some s) (1+1)).2.1.toList==[44])=false:=h;rw[m,in_ dc_]at c;exact absurd (c.symm.trans a) dc_
    ·exfalso;rw[in_ j,V0_ g]at a
     cases b:Kp_ sg (some s) 1 with
     |false=>
      rw[b,in_ dc_]at c;exact absurd (c.symm.trans a) dc_
     |true=>
      have h1:((sg[s.at_+1]?).getD sgZero).1=1:=by
       unfold Kp_ at b;simp only[Bool.and_eq_true]at b;exact eq_of_beq b.1
      have h4:=Gt_ g (i:=s.at_+1) (.inl (by simp only[Bool.and_eq_true]at a;exact a.1));omega
   rw[n]
   rfl
theorem Qe8_ (hm:XC_ sg) (st:RdSt) (a:isM sg st ⟨#[40]⟩=true) (hf:fnB sg st=true):x7_ sg st=true:=by
 unfold x7_;rw[a,Bool.true_and]
 cases st with
 |none=>exact absurd a (by rw[ZM_];decide)
 |some s=>exact Qid_ hm _ 1 hf
end
structure RC where
 imp:Bool
 T:Nat
 A:OA
 n:Nat
 c:Nat
 sz:Int
 M:Value
 sg:List SgP
 w0:World
 U:Nat->Prop
def RC.ty (R:RC):TypeId:=if R.imp=true then 117 else 82
def RC.cells (R:RC) (a d:Nat) (b:Bool) (v:Value):Array Value:=
 if R.imp=true then #[S_ R.A R.n R.c,I_ j_ R.sz,I_ j_ a,I_ j_ d,B_ b,v,R.M]else #[S_ R.A R.n R.c,I_ j_ a,B_ b,I_ j_ d,v]
structure RC.Ok (R:RC):Prop where
 len:R.sg.length=R.n
 most:R.n<=3000
 rd:Rd R.w0 4 R.A R.n (R.sg.flatMap ZP_)
 low:R.w0.heap.size<=R.T
theorem RC.ty_node (R:RC):R.ty≠96:=by unfold RC.ty;cases R.imp<;>decide
theorem RC.ty_int (R:RC):R.ty≠3:=by unfold RC.ty;cases R.imp<;>decide
def RdC (R:RC) (a d:Nat) (b:Bool) (AN:OA) (cN:Nat) (l:List Nd) (w:World):Prop:=
 Blk w R.T R.ty (R.cells a d b (S_ AN l.length cN))/\Mine w R.w0.heap.size 96 4 AN l.length cN (l.flatMap Qv_)/\((∀x∈l,KidsIn w R.w0.heap.size R.U x)/\∀g,R.U g->g < w.heap.size)/\l.length<=300/\a<=R.n/\Below R.w0.heap.size R.w0 w/\R.Ok
def StOk:RdSt->Bool->Nat->List Nd->Prop
 |none,b,_,_=>b=true
 |some s,b,a,l=>b=false/\s.at_=a/\s.nodes=l.map Nd.pn
def RdI (R:RC) (d:Nat) (st:RdSt) (row:ON) (w:World):Prop:=
 ∃a b AN cN l,RdC R a d b AN cN l w/\StOk st b a l/\row=AN.map (·.block)
def Kr (T:Nat) (row:ON) (w:World) (row':ON) (w':World):Prop:=
 w.heap.size<=w'.heap.size/\(row'=row\/∃g,row'=some g/\w.heap.size<=g)/\∀g,g < w.heap.size->g≠T->some g≠row->w'.heap[g]? =w.heap[g]?
section
variable {T:Nat} {row row' row2:ON} {w w' w2:World}
theorem Kr.refl (T:Nat) (row:ON) (w:World):Kr T row w row w:=⟨lr_ _,.inl rfl,fun _ _ _ _=>rfl⟩
theorem Kr.trans (h:Kr T row w row' w') (k:Kr T row' w' row2 w2):Kr T row w row2 w2:=by
 obtain⟨h1,h2,h3⟩:=h;obtain⟨k1,k2,k3⟩:=k;refine⟨lt_ h1 k1,?_,fun g a ht hr=>?_⟩
 ·rcases k2 with rfl|⟨g,rfl,a⟩
  ·exact h2
  ·exact .inr ⟨g,rfl,lt_ h1 a⟩
 ·refine(k3 g oo ht ?_).trans (h3 g a ht hr);rcases h2 with rfl|⟨g2,rfl,b⟩
  ·exact hr
  ·intro e;injection e with e;omega
theorem Kr.below (h:Kr T row w row' w') (hb:Below w'.heap.size w' w2):Kr T row w row' w2:=
 h.trans ⟨hb.size,.inl rfl,fun g hg _ _=>hb.block g hg⟩
theorem Kr.of_below (hb:Below w.heap.size w w2):Kr T row w row w2:=(Kr.refl T row w).below hb
theorem Kr.size (h:Kr T row w row' w'):w.heap.size<=w'.heap.size:=h.1
theorem Blk.kr {g:Nat} {t:TypeId} {cs:Array Value} (h:Blk w g t cs) (k:Kr T row w row' w') (h1:g≠T) (h2:some g≠row):Blk w' g t cs:=(k.2.2 g h.lt h1 h2).trans h
theorem Kr.fresh (k:Kr T row w row' w') {g:Nat} (h:some g≠row) (hg:g < w.heap.size):some g≠row':=by
 rcases k.2.1 with rfl|⟨g2,rfl,h2⟩
 ·exact h
 ·intro e;injection e with e;omega
end
theorem Yv_ {w:World} {A:OA} {n k:Nat} {l:List SgP} {d:SgP} (h:Rd w 4 A n (l.flatMap ZP_)) (hk:k < n) (hd:l[k]? =some d):
  ∃b off,A=some ⟨b,off,none⟩/\b < w.heap.size/\w.cell? ⟨b,off+k * 4,none⟩=some (I_ j_ d.1)/\w.cell? ⟨b,off+k * 4+1,none⟩=some (T_ d.2.1)/\w.cell? ⟨b,off+k * 4+2,none⟩=some (I_ j_ d.2.2.1)/\w.cell? ⟨b,off+k * 4+3,none⟩=some (B_ d.2.2.2):=by
 obtain⟨b,off,rfl,hb,hc⟩:=h.at_ oo;have g:=fun(j:Nat) (v:Value) (hj:(ZP_ d)[j]? =some v)=>hc (k * 4+j) v (Kw_ ZP_ jU_ hd hj)
 exact⟨b,off,rfl,hb,g 0 _ rfl,g 1 _ rfl,g 2 _ rfl,g 3 _ rfl⟩
section
variable {R:RC} {a d:Nat} {b:Bool} {AN:OA} {cN:Nat} {l:List Nd} {st:RdSt} {row row':ON} {w w':World}
theorem RdC.next (h:RdC R a d b AN cN l w) (c:Below w.heap.size w w'):RdC R a d b AN cN l w':=by
 obtain⟨h1,h2,h3,h4,h5,h6,h7⟩:=h;exact⟨h1.next c,h2.next c,⟨fun x hx=>(h3.1 x hx).next c,fun g hg=>ll_ (h3.2 g hg) c.size⟩,h4,h5,Qb_ h6 c,h7⟩
theorem RdI.next (h:RdI R d st row w) (hb:Below w.heap.size w w'):RdI R d st row w':=by
 obtain⟨a,b,AN,cN,l,h1,h2⟩:=h;exact⟨a,b,AN,cN,l,h1.next hb,h2⟩
theorem RdI.alloc (h:RdI R d st row w) (o:Obj):RdI R d st row (w.alloc o):=h.next (br.alloc (lr_ _) o)
theorem RdI.lt (h:RdI R d st row w):R.T < w.heap.size:=by obtain⟨a,b,AN,cN,l,h1,h2⟩:=h;exact h1.1.lt
theorem RdI.ok (h:RdI R d st row w):R.Ok:=by obtain⟨a,b,AN,cN,l,⟨_,_,_,_,_,_,h1⟩,h2⟩:=h;exact h1
theorem RdI.old (h:RdI R d st row w):Below R.w0.heap.size R.w0 w:=by obtain⟨a,b,AN,cN,l,⟨_,_,_,_,_,h1,_⟩,h2⟩:=h;exact h1
theorem RdI.le (h:RdI R d st row w) {s:PS} (e:st=some s):s.at_<=R.n/\s.nodes.length<=300:=by
 subst e;obtain⟨a,b,AN,cN,l,⟨_,_,_,h4,h5,_,_⟩,⟨_,rfl,h2⟩,_⟩:=h;exact⟨h5,by rw[h2,List.length_map];exact h4⟩
theorem RdC.rowB (h:RdC R a d b AN cN l w) {g:Nat} (hg:some g=AN.map (·.block)):∃cs,Blk w g 96 cs:=Qw_ h.2.1 hg.symm
theorem RdI.rowB (h:RdI R d st row w) {g:Nat} (hg:some g=row):∃cs,Blk w g 96 cs:=by
 obtain⟨a,b,AN,cN,l,h1,h2,rfl⟩:=h;exact h1.rowB hg
theorem RdI.row_lt (h:RdI R d st row w) {g:Nat} (hg:some g=row):g < w.heap.size:=by
 obtain⟨cs,hk⟩:=h.rowB hg;exact hk.lt
theorem RdI.keep (h:RdI R d st row w) (k:Kr R.T row w row' w') {g:Nat} {t:TypeId} {cs:Array Value} (c:Blk w g t cs) (h1:t≠R.ty) (h2:t≠96):Blk w' g t cs:=by
 obtain⟨a,b,AN,cN,l,hc,_,hr⟩:=id h;refine c.kr k (Kj_ c hc.1 h1) (fun e=>?_);obtain⟨i,f⟩:=h.rowB e;exact Kj_ c f h2 rfl
theorem RdI.keepM (h:RdI R d st row w) (k:Kr R.T row w row' w') {B:Nat} {t:TypeId} {s:Nat} {A:OA} {n c:Nat} {xs:List Value} (hm:Mine w B t s A n c xs) (h1:t≠R.ty) (h2:t≠96):Mine w' B t s A n c xs:=by
 have hl:=hm.len;rcases hm.own with⟨rfl,rfl,rfl⟩|⟨g,rfl,hB,hn,hc,rest,hb,hs⟩
 ·exact⟨hl,.inl ⟨rfl,rfl⟩⟩
 ·exact Mine.mk_own ⟨rest,h.keep k hb h1 h2,hs⟩ hl hB hn hc
theorem RdI.keepI (h:RdI R d st row w) (k:Kr R.T row w row' w') {B:Nat} {A:OA} {n c:Nat} {xs:List Value} (hm:Mine w B 3 1 A n c xs):Mine w' B 3 1 A n c xs:=h.keepM k hm (Ne.symm R.ty_int) dc_
theorem RdC.set (h:RdC R a d b AN cN l w) {i:Nat} {u:Value} {a' d':Nat} {b':Bool} (he:(R.cells a d b (S_ AN l.length cN)).setIfInBounds i u=R.cells a' d' b' (S_ AN l.length cN)) (ha:a'<=R.n):
  RdC R a' d' b' AN cN l (w.setCell ⟨R.T,i,none⟩ u)/\Kr R.T (AN.map (·.block)) w (AN.map (·.block)) (w.setCell ⟨R.T,i,none⟩ u):=by
 obtain⟨h1,h2,c,h4,h5,h6,h7⟩:=h;refine⟨⟨?_,Qt_ h2 h1 (Ne.symm R.ty_node) _ _,⟨fun x hx=>⟨(c.1 x hx).1,Qt_ (c.1 x hx).2 h1 (Ne.symm R.ty_int) _ _⟩,fun g hg=>by simpa[World.setCell]using c.2 g hg⟩,h4,ha,h6.setCell h7.low _,h7⟩,?_⟩
 ·have:=h1.set_ i u;rw[he]at this;exact this
 ·exact⟨by simp[World.setCell],.inl rfl,fun g hg ht _=>Below.heap_setCell w ⟨R.T,i,none⟩ u g ht⟩
theorem RdC.push (h:RdC R a d b AN cN l w) (x:Nd) (hx:KidsIn w R.w0.heap.size R.U x) (hl:l.length < 300) {w1:World} (c:Below w.heap.size w w1) {i:Nat} {v':Value} {w3:World}
  (z:w3.ownsRow R.w0.heap.size 96 4 v' (l.length+1) (l.flatMap Qv_++Qv_ x)) (k:w1.grownBy w3 (S_ AN l.length cN).ownBlock) (m:v'.ownBlock=(S_ AN l.length cN).ownBlock\/v'.ownBlock=some w1.heap.size)
  (he:(R.cells a d b (S_ AN l.length cN)).setIfInBounds i v'=R.cells a d b v'):
  ∃A3 c3,v'=S_ A3 (l.length+1) c3/\RdC R a d b A3 c3 (l++[x]) (w3.setCell ⟨R.T,i,none⟩ v')/\Kr R.T (AN.map (·.block)) w (A3.map (·.block)) (w3.setCell ⟨R.T,i,none⟩ v'):=by
 have h0:=h;have hC:=h.next c;obtain⟨h1,h2,h3,h4,h5,h6,h7⟩:=hC;rw[Q3_]at k m;have v:∀g t cs,Blk w1 g t cs->t≠96->some g≠AN.map (·.block):=fun g t cs hk G e=>by
  obtain⟨H,F⟩:=Qw_ h2 e.symm;exact Kj_ hk F G rfl
 have j:Blk w3 R.T R.ty (R.cells a d b (S_ AN l.length cN)):=h1.grown k (v _ _ _ h1 R.ty_node);have q:∀(y:Nd),KidsIn w1 R.w0.heap.size R.U y->KidsIn w3 R.w0.heap.size R.U y:=fun y f=>by
  refine⟨f.1,?_⟩;have r:=f.2.len;rcases f.2.own with⟨B,e2,e3⟩|⟨g',B,hB,hn,hc,rest,n,hs⟩
  ·rw[B,e2,e3];exact⟨by rw[r,e2],.inl ⟨rfl,rfl⟩⟩
  ·rw[B];exact Mine.mk_own ⟨rest,n.grown k (v _ _ _ n dc_),hs⟩ r hB hn hc
 obtain⟨A3,c3,rfl,m3⟩:=Mine.of z;rw[Q3_]at m;have s:(l++[x]).length=l.length+1:=by simp
 have C:(l++[x]).flatMap Qv_=l.flatMap Qv_++Qv_ x:=by simp
 have o:Below R.w0.heap.size R.w0 w3:=h6.grown k h6.size (fun g E=>(Mine.blk h2 E).1);refine⟨A3,c3,rfl,⟨?_,?_,?_,oo,h5,o.setCell h7.low _,h7⟩,?_⟩
 ·have:=j.set_ i (S_ A3 (l.length+1) c3);rw[he]at this;rw[s];exact this
 ·rw[s,C];exact Qt_ m3 j (Ne.symm R.ty_node) _ _
 ·refine⟨fun y f=>?_,fun g D=>by have:=h3.2 g D;have:=k.size;simp only[World.setCell,Array.size_modify];omega⟩;have A:KidsIn w3 R.w0.heap.size R.U y:=by
   rcases List.mem_append.1 f with f|f
   ·exact q y (h3.1 y f)
   ·obtain rfl:=ms1_.1 f;exact q y (hx.next c)
  exact⟨A.1,Qt_ A.2 j (Ne.symm R.ty_int) _ _⟩
 ·refine⟨lt_ c.size (lt_ k.size (by simp[World.setCell])),?_,fun g p G hr=>?_⟩
  ·rcases m with e|e
   ·exact .inl e
   ·exact .inr ⟨_,e,c.size⟩
  ·rw[Below.heap_setCell w3 ⟨R.T,i,none⟩ _ g G,k.block g (ll_ p c.size) hr,c.block g p]
end
def RC.Lo (R:RC) (B:Nat):Prop:=R.w0.heap.size<=B/\∀g,R.U g->g < B
theorem RdI.lo {R:RC} {d:Nat} {st:RdSt} {row:ON} {w:World} (h:RdI R d st row w):R.Lo w.heap.size:=by
 obtain⟨a,b,AN,cN,l,⟨_,_,h3,_,_,h6,_⟩,_⟩:=h;exact⟨h6.size,h3.2⟩
abbrev RC.res (R:RC) (A:OA):RC:={ R with U:=fun x=>R.U x\/A.map (·.block)=some x }
theorem RdC.kids_lt {R:RC} {a d:Nat} {b:Bool} {AN:OA} {cN:Nat} {l:List Nd} {w:World} (h:RdC R a d b AN cN l w) {x:Nd} (hx:x∈l) {g:Nat} (hg:x.adr.map (·.block)=some g):g < w.heap.size:=(Mine.blk (h.2.2.1.1 x hx).2 hg).2
theorem RdI.res_new {R:RC} {d:Nat} {st:RdSt} {row:ON} {w w':World} (h:RdI R d st row w) (hb:Below w.heap.size w w') {A:OA} (hA:∀g,A.map (·.block)=some g->w.heap.size<=g/\g < w'.heap.size):RdI (R.res A) d st row w':=by
 obtain⟨a,b,AN,cN,l,hc,h2⟩:=h;have hk:∀x∈l,∀g,x.adr.map (·.block)=some g->g < w.heap.size:=fun x e g c=>hc.kids_lt e c
 obtain⟨c1,c2,c3,c4,c5,c6,i⟩:=hc.next hb;refine⟨a,b,AN,cN,l,⟨c1,c2,⟨fun x e=>⟨⟨(c3.1 x e).1.1,fun g c f=>?_⟩,(c3.1 x e).2⟩,fun g c=>?_⟩,c4,c5,c6,⟨i.len,i.most,i.rd,i.low⟩⟩,h2⟩
 ·rcases f with f|f
  ·exact(c3.1 x e).1.2 g c f
  ·have:=hk x e g c;have:=(hA g f).1;omega
 ·rcases c with c|c
  ·exact c3.2 g c
  ·exact(hA g c).2
theorem RdI.unres {R:RC} {d:Nat} {st:RdSt} {row:ON} {w:World} {A:OA} (h:RdI (R.res A) d st row w):RdI R d st row w:=by
 obtain⟨a,b,AN,cN,l,⟨c1,c2,c3,c4,c5,c6,c⟩,h2⟩:=h;exact⟨a,b,AN,cN,l,⟨c1,c2,⟨fun x f=>⟨⟨(c3.1 x f).1.1,fun g e hu=>(c3.1 x f).1.2 g e (.inl hu)⟩,(c3.1 x f).2⟩,fun g e=>c3.2 g (.inl e)⟩,c4,c5,c6,⟨c.len,c.most,c.rd,c.low⟩⟩,h2⟩
theorem Kr.grown {T:Nat} {row row' r:ON} {w w' w3:World} (h:Kr T row w row' w') (hg:w'.grownBy w3 r) (hr:∀g,r=some g->w.heap.size<=g):Kr T row w row' w3:=
 ⟨lt_ h.1 hg.size,h.2.1,fun g a ht b=>(hg.block g (ll_ a h.1) (fun e=>by have:=hr g e.symm;omega)).trans (h.2.2 g a ht b)⟩
theorem RdI.appended {R:RC} {d:Nat} {st:RdSt} {row:ON} {w w1 w3:World} {A:OA} {B n n' c:Nat} {xs ys:List Value} {v':Value} (h:RdI (R.res A) d st row w) (hm:Mine w B 3 1 A n c xs) (hB:R.w0.heap.size<=B) (r:Below w.heap.size w w1)
  (E:w3.ownsRow B 3 1 v' n' ys) (f:w1.grownBy w3 (S_ A n c).ownBlock) (s:v'.ownBlock=(S_ A n c).ownBlock\/v'.ownBlock=some w1.heap.size):
  ∃A' c',v'=S_ A' n' c'/\RdI (R.res A') d st row w3/\Mine w3 B 3 1 A' n' c' ys:=by
 obtain⟨A',c',rfl,m3⟩:=Mine.of E;rw[Q3_]at f s;rw[Q3_]at s;obtain⟨a,b,AN,cN,l,hc,h2⟩:=h;have H:∀x∈l,∀g,x.adr.map (·.block)=some g->g < w.heap.size:=fun x v g f=>hc.kids_lt v f
 have J:=hm.next r;obtain⟨c1,c2,c3,c4,c5,c6,F⟩:=hc.next r;have D:∀g t cs,Blk w1 g t cs->t≠3->some g≠A.map (·.block):=fun g t cs H ht e=>by
  obtain⟨M,I⟩:=Qw_ J e.symm;exact Kj_ H I ht rfl
 have C:∀g,A.map (·.block)=some g->B<=g:=fun g q=>(Mine.blk hm q).1
 refine⟨A',c',rfl,⟨a,b,AN,cN,l,⟨c1.grown f (D _ _ _ c1 R.ty_int),?_,⟨fun x v=>⟨⟨(c3.1 x v).1.1,fun g f y=>?_⟩,?_⟩,fun g i=>?_⟩,c4,c5,?_,⟨F.len,F.most,F.rd,F.low⟩⟩,h2⟩,m3⟩
 ·have j:=c2.len;rcases c2.own with⟨m,z,G⟩|⟨g',m,o,K,p,rest,k,hs⟩
  ·rw[m,z,G];exact⟨by rw[j,z],.inl ⟨rfl,rfl⟩⟩
  ·rw[m];exact Mine.mk_own ⟨rest,k.grown f (D _ _ _ k dc_),hs⟩ j o K p
 ·rcases y with y|y
  ·exact(c3.1 x v).1.2 g f (.inl y)
  ·rcases s with e|e
   ·exact(c3.1 x v).1.2 g f (.inr (by rw[<-e];exact y))
   ·have:=H x v g f;rw[y]at e;injection e with e;have:=r.size;omega
 ·have L:=(c3.1 x v);have j:=L.2.len;rcases L.2.own with⟨m,z,G⟩|⟨g',m,o,K,p,rest,k,hs⟩
  ·rw[m,z,G];exact⟨by rw[j,z],.inl ⟨rfl,rfl⟩⟩
  ·rw[m];refine Mine.mk_own ⟨rest,k.grown f (fun e=>?_),hs⟩ j o K p;exact L.1.2 g' (by rw[m];rfl) (.inr e.symm)
 ·rcases i with i|i
  ·have:=c3.2 g (.inl i);have:=f.size;omega
  ·exact(Mine.blk m3 i).2
 ·exact c6.grown f c6.size (fun g q=>lt_ hB (C g q))
def QA_ (R:RC) (d:Nat) (row:ON) (w:World) (v:Value) (st':RdSt) (e:Ending) (w':World):Prop:=e=R_ v/\∃row',RdI R d st' row' w'/\Kr R.T row w row' w'
section
variable {R:RC} {a d:Nat} {b:Bool} {AN:OA} {cN:Nat} {l:List Nd} {st:RdSt} {s:PS} {row:ON} {w:World}
theorem RdC.ci (hi:R.imp=true) (h:RdC R a d b AN cN l w):
  w.cell? ⟨R.T,0,none⟩=some (S_ R.A R.n R.c)/\w.cell? ⟨R.T,2,none⟩=some (I_ j_ a)/\w.cell? ⟨R.T,3,none⟩=some (I_ j_ d)/\w.cell? ⟨R.T,4,none⟩=some (B_ b)/\w.cell? ⟨R.T,5,none⟩=some (S_ AN l.length cN)/\(∀i,w.frozen? ⟨R.T,i,none⟩=false)/\R.T < w.heap.size:=by
 have c:=h.1;unfold RC.cells at c;rw[ip_ hi]at c;exact⟨c.cell 0,c.cell 2,c.cell 3,c.cell 4,c.cell 5,c.frozen,c.lt⟩
theorem RdI.at1 (hi:R.imp=true) (hc:RdC R a d b AN cN l w) (hs:StOk (some s) b a l) (hr:row=AN.map (·.block)) (c:s.at_ < R.n):
  RdI R d (Qf_ (some s)) row (w.setCell ⟨R.T,2,none⟩ (I_ j_ ((a:Int)+1)))/\Kr R.T row w row (w.setCell ⟨R.T,2,none⟩ (I_ j_ ((a:Int)+1))):=by
 obtain⟨h1,h2,h3⟩:=hs;have:=hc.set (i:=2) (u:=I_ j_ ((a:Int)+1)) (a':=a+1) (d':=d) (b':=b) (by unfold RC.cells;rw[ip_ hi,ip_ hi];simp) oo;rw[hr];exact⟨⟨a+1,b,AN,cN,l,this.1,⟨h1,(show s.at_+1=a+1 by rw[h2]),h3⟩,rfl⟩,this.2⟩
theorem RdI.bad1 (hi:R.imp=true) (hc:RdC R a d b AN cN l w) (hr:row=AN.map (·.block)):
  RdI R d none row (w.setCell ⟨R.T,4,none⟩ (B_ true))/\Kr R.T row w row (w.setCell ⟨R.T,4,none⟩ (B_ true)):=by
 have:=hc.set (i:=4) (u:=B_ true) (a':=a) (d':=d) (b':=true) (by unfold RC.cells;rw[ip_ hi,ip_ hi];simp) hc.2.2.2.2.1;rw[hr];exact⟨⟨a,true,AN,cN,l,this.1,rfl,rfl⟩,this.2⟩
theorem RdI.nest1 (hi:R.imp=true) (hc:RdC R a d b AN cN l w) (hs:StOk st b a l) (hr:row=AN.map (·.block)) {u:Int} {d':Nat} (hu:u=(d':Int)):
  RdI R d' st row (w.setCell ⟨R.T,3,none⟩ (I_ j_ u))/\Kr R.T row w row (w.setCell ⟨R.T,3,none⟩ (I_ j_ u)):=by
 subst hu;have:=hc.set (i:=3) (u:=I_ j_ (d':Int)) (a':=a) (d':=d') (b':=b) (by unfold RC.cells;rw[ip_ hi,ip_ hi];simp) hc.2.2.2.2.1;rw[hr];exact⟨⟨a,b,AN,cN,l,this.1,hs,rfl⟩,this.2⟩
theorem GE_ {sg:List SgP} {i:Nat} {x:SgP} (h:sg[s.at_+i]? =some x):Qx_ sg (some s) i=x:=by unfold Qx_;simp only;rw[h];rfl
theorem ZO_ {sg:List SgP} {i:Nat} (h:sg.length<=s.at_+i):Qx_ sg (some s) i=sgZero:=by unfold Qx_;simp only;rw[List.getElem?_eq_none h];rfl
theorem Xe_ {sg:List SgP} {m:BA} (h:isM sg st m=true):∃s,st=some s/\s.at_ < sg.length:=by
 cases st with
 |none=>exact absurd h (by rw[ZM_];decide)
 |some s=>
  refine⟨s,rfl,?_⟩;rcases Nat.lt_or_ge s.at_ sg.length with hl|hl
  ·exact hl
  ·unfold isM at h;rw[ZO_ (i:=0) hl,show(sgZero.1==4)=false from rfl,Bool.false_and]at h;exact absurd h dc_
theorem Z7_ {sg:List SgP} {i:Nat} (h:Kp_ sg st i=true):∃s,st=some s/\s.at_+i < sg.length:=by
 cases st with
 |none=>exact absurd h (by rw[zH_];decide)
 |some s=>
  refine⟨s,rfl,?_⟩;rcases Nat.lt_or_ge (s.at_+i) sg.length with hl|hl
  ·exact hl
  ·unfold Kp_ at h;rw[ZO_ hl,show(sgZero.1==1)=false from rfl,Bool.false_and]at h;exact absurd h dc_
end
theorem q9_ (k:Int) (t:BA) (p:Int) (z:Bool) (w:World):(Instr.field 89 (A_ #[I_ j_ k,T_ t,I_ j_ p,B_ z]) 0).run prog w=.ok (I_ j_ k) w:=by simp[Instr.field,asAgg,go_sem]
theorem ky_ (k:Int) (t:BA) (p:Int) (z:Bool) (w:World):(Instr.field 89 (A_ #[I_ j_ k,T_ t,I_ j_ p,B_ z]) 1).run prog w=.ok (T_ t) w:=by simp[Instr.field,asAgg,go_sem]
theorem fld3 (k:Int) (t:BA) (p:Int) (z:Bool) (w:World):(Instr.field 89 (A_ #[I_ j_ k,T_ t,I_ j_ p,B_ z]) 3).run prog w=.ok (B_ z) w:=by simp[Instr.field,asAgg,go_sem]
theorem YH_ (R:RC) (hi:R.imp=true) (d:Nat) (st:RdSt) (row:ON) (i:Nat) (w:World) (hI:RdI R d st row w) (hn:i<=100000):
  Calls prog 168 #[P_ (some ⟨R.T,0,none⟩),I_ j_ i] w (RB_ (A_ #[I_ j_ (Qx_ R.sg st i).1,T_ (Qx_ R.sg st i).2.1,I_ j_ (Qx_ R.sg st i).2.2.1,B_ (Qx_ R.sg st i).2.2.2]) w):=by
 obtain⟨a,b,AN,cN,l,m,q,p⟩:=hI;obtain⟨c0,c2,c3,c4,c5,cf,z⟩:=m.ci hi;obtain⟨I,G,o,J⟩:=m.2.2.2.2.2.2;have j:=m.2.2.2.2.2.1;have L:=m.2.2.2.2.1;have g:=o.below j;clear m o j c3 c5 p;have E:Below w.heap.size w (w.alloc (C_ #[I_ j_ 0,T_ ⟨#[]⟩,I_ j_ 0,B_ false] 89)):=grow_;have K:=Blk.new w 89 #[I_ j_ 0,T_ ⟨#[]⟩,I_ j_ 0,B_ false];have k0:=K.q0;have r:=K.q1;have t:=K.q2;have v:=K.q3
 cases st with
 |none=>
  obtain rfl:b=true:=q;rw[WB_];go_enter func168,ntmps168;go_wp2;go_quiet (fail);go_wp2;refine bodyPost_ret (by simp[results,Tryz.results168,go_sem,k0,r,t,v];try rfl) rfl ?_;exact⟨rfl,grow_⟩
 |some s=>
  obtain⟨rfl,y,n⟩:=q;have M:IntKind.i64.wrap ((a:Int)+(i:Int))=a+i:=IntWalk.i64_in _ oo;by_cases F:a+i < R.n
  ·obtain⟨x,H⟩:∃x,R.sg[a+i]? =some x:=⟨_,gE oo⟩;have h:Qx_ R.sg (some s) i=x:=GE_ (by rw[y];exact H);rw[h];obtain⟨b1,off,hA,f,A,B,C,D⟩:=Yv_ g F H;rw[hA]at c0;have g1:(a:Int)+i < R.n:=oo;have g2:¬(R.n:Int)<=(a:Int)+i:=oo;have g3:(0:Int)<=(a:Int)+i:=oo;clear H h g hA n y;go_enter func168,ntmps168;go_wp2;go_quiet (fail);go_upto_region 3 with fail
   have c:Below w.heap.size w ((w.alloc (C_ #[I_ j_ 0,T_ ⟨#[]⟩,I_ j_ 0,B_ false] 89)).drewN nq):=below_drewN E nq;have k:=K.drewN nq;clear k0 r t v K;generalize (w.alloc (C_ #[I_ j_ 0,T_ ⟨#[]⟩,I_ j_ 0,B_ false] 89)).drewN nq=W at c k |-
   replace c0:=((QW_ c).1 _ _ z).trans c0;replace c2:=((QW_ c).1 _ _ z).trans c2;replace A:=((QW_ c).1 _ _ f).trans A;replace B:=((QW_ c).1 _ _ f).trans B;replace C:=((QW_ c).1 _ _ f).trans C;replace D:=((QW_ c).1 _ _ f).trans D;rw[show a+i=((a:Int)+(i:Int)).toNat from oo]at A B C D;have k0:=k.q0;have r:=k.q1;have t:=k.q2;have v:=k.q3;have kz:=k.lt;have kf:=k.frozen;clear cf z c4;go_still_tail 12,nr_;go_wp2;refine bodyPost_ret (by simp[results,Tryz.results168,go_sem,k0,r,t,v];try rfl) rfl ?_;exact⟨rfl,grow_⟩
  ·have h:Qx_ R.sg (some s) i=sgZero:=ZO_ (by rw[y];omega);rw[h];have g2:(R.n:Int)<=(a:Int)+i:=oo;clear h g n y;go_enter func168,ntmps168;go_wp2;go_quiet (fail);go_wp2;refine bodyPost_ret (by simp[results,Tryz.results168,go_sem,k0,r,t,v];try rfl) rfl ?_;exact⟨rfl,grow_⟩
theorem Kl_ (R:RC) (hi:R.imp=true) (d:Nat) (st:RdSt) (row:ON) (w:World) (hI:RdI R d st row w):
  Calls prog 119 #[P_ (some ⟨R.T,0,none⟩)] w (RB_ (A_ #[I_ j_ (Qx_ R.sg st 0).1,T_ (Qx_ R.sg st 0).2.1,I_ j_ (Qx_ R.sg st 0).2.2.1,B_ (Qx_ R.sg st 0).2.2.2]) w):=by
 have b:=h_ (fun W (hW:Below w.heap.size w W)=>YH_ R hi d st row 0 W (hI.next hW) oo);generalize Qx_ R.sg st 0=x at b |-
 obtain⟨k,t,p,z⟩:=x;dsimp only at b |-
 have K0:=Blk.new w 89 #[I_ j_ 0,T_ ⟨#[]⟩,I_ j_ 0,B_ false];have a:Below w.heap.size w (w.alloc (C_ #[I_ j_ 0,T_ ⟨#[]⟩,I_ j_ 0,B_ false] 89)):=grow_;clear hI;go_enter func119,ntmps119;go_wp2_with fail
 refine(b.o _ a).mono ?_;rintro e w1 ⟨rfl,h1⟩;have K:=K0.next h1;have c:=Qb_ a h1;have k0:=K.q0;have k1:=K.q1;have k2:=K.q2;have k3:=K.q3;have kz:=K.lt;have kf:=K.frozen;clear K K0 h1 a;go_wp2;refine bodyPost_ret (by simp[results,Tryz.results119,go_sem,k0,k1,k2,k3];try rfl) rfl ?_;exact⟨rfl,grow_⟩
theorem Vj_ (R:RC) (hi:R.imp=true) (d:Nat) (st:RdSt) (row:ON) (m:BA) (w:World) (hI:RdI R d st row w):
  Calls prog 204 #[P_ (some ⟨R.T,0,none⟩),T_ m] w (RB_ (B_ (isM R.sg st m)) w):=by
 unfold isM;have b:=h_ (fun W (hW:Below w.heap.size w W)=>Kl_ R hi d st row W (hI.next hW));generalize Qx_ R.sg st 0=x at b |-
 obtain⟨k,t,p,z⟩:=x;dsimp only at b |-
 clear hI
 cases h1:(k==4)with
 |false=>
  rw[Bool.false_and];have c:=q9_;have f:=ky_;go_enter func204,ntmps204;go_wp2_with fail
  refine(b.o _ br).mono ?_;rintro e w1 ⟨rfl,a⟩;go_wp2;go_ret;exact⟨rfl,a⟩
 |true=>
  obtain rfl:k=4:=eq_of_beq h1;rw[Bool.true_and];clear h1;have c:=q9_;have f:=ky_;go_enter func204,ntmps204;go_wp2_with fail
  refine(b.o _ br).mono ?_;rintro e w1 ⟨rfl,a⟩;go_wp2_with fail
  refine(b.o _ a).mono ?_;rintro e w2 ⟨rfl,g2⟩;replace a:=Qb_ a g2;clear g2;go_wp2;go_ret;exact⟨rfl,a⟩
theorem Qs_ (R:RC) (hi:R.imp=true) (d:Nat) (st:RdSt) (row:ON) (m:BA) (w:World) (hI:RdI R d st row w):
  Calls prog 160 #[P_ (some ⟨R.T,0,none⟩),T_ m] w (RB_ (B_ (isW R.sg st m)) w):=by
 unfold isW;have b:=h_ (fun W (hW:Below w.heap.size w W)=>Kl_ R hi d st row W (hI.next hW));generalize Qx_ R.sg st 0=x at b |-
 obtain⟨k,t,p,z⟩:=x;dsimp only at b |-
 clear hI
 cases h1:(k==1)with
 |false=>
  rw[Bool.false_and];have c:=q9_;have f:=ky_;go_enter func160,ntmps160;go_wp2_with fail
  refine(b.o _ br).mono ?_;rintro e w1 ⟨rfl,a⟩;go_wp2;go_ret;exact⟨rfl,a⟩
 |true=>
  obtain rfl:k=1:=eq_of_beq h1;rw[Bool.true_and];clear h1;have c:=q9_;have f:=ky_;go_enter func160,ntmps160;go_wp2_with fail
  refine(b.o _ br).mono ?_;rintro e w1 ⟨rfl,a⟩;go_wp2_with fail
  refine(b.o _ a).mono ?_;rintro e w2 ⟨rfl,g2⟩;replace a:=Qb_ a g2;clear g2;go_wp2;go_ret;exact⟨rfl,a⟩
theorem KM_ (R:RC) (hi:R.imp=true) (d:Nat) (st:RdSt) (row:ON) (i:Nat) (w:World) (hI:RdI R d st row w) (hn:i<=100000):
  Calls prog 205 #[P_ (some ⟨R.T,0,none⟩),I_ j_ i] w (RB_ (B_ (Kp_ R.sg st i)) w):=by
 unfold Kp_;have a:=h_ (fun W (hW:Below w.heap.size w W)=>YH_ R hi d st row i W (hI.next hW) hn);generalize Qx_ R.sg st i=x at a |-
 obtain⟨k,t,p,z⟩:=x;dsimp only at a |-
 clear hI;have HK:=h_ (U1_ t)
 cases h1:(k==1)with
 |false=>
  rw[Bool.false_and];go_enter func205,ntmps205;go_wp2_with fail
  refine(a.o _ br).mono ?_;rintro e w1 ⟨rfl,b⟩;have gz:=b.size;go_wp2;go_ret;exact⟨rfl,grow_⟩
 |true=>
  obtain rfl:k=1:=eq_of_beq h1;rw[Bool.true_and];clear h1;generalize X5_ t=kb at HK |-
  go_enter func205,ntmps205;go_wp2_with fail
  refine(a.o _ br).mono ?_;rintro e w1 ⟨rfl,b⟩;have gz:=b.size;go_wp2_with fail
  refine(HK.o _).mono ?_;rintro e w2 ⟨rfl,rfl⟩;go_wp2;go_ret;exact⟨rfl,grow_⟩
def zX_ (sg:List SgP) (st:RdSt) (m:BA):RdSt:=if isM sg st m=true then Qf_ st else st
theorem Qy_ {sg:List SgP} {st:RdSt} {m:BA} (h:isM sg st m=true):zX_ sg st m=Qf_ st:=ip_ h
theorem QD_ {sg:List SgP} {st:RdSt} {m:BA} (h:isM sg st m=false):zX_ sg st m=st:=in_ (by rw[h];decide)
theorem YP_ (R:RC) (hi:R.imp=true) (d:Nat) (st:RdSt) (row:ON) (m:BA) (w:World) (k:RdI R d st row w):
  Calls prog 201 #[P_ (some ⟨R.T,0,none⟩),T_ m] w (QA_ R d row w (B_ (isM R.sg st m)) (zX_ R.sg st m)):=by
 have j:=h_ (Vj_ R hi d st row m w k);have HI:=h_ k;unfold QA_;clear k
 cases f:isM R.sg st m with
 |false=>
  rw[QD_ f];rw[f]at j;clear f;go_enter func201,ntmps201;go_wp2_with fail
  refine j.o.mono ?_;rintro e w1 ⟨rfl,h⟩;go_wp2;go_ret;exact⟨rfl,row,HI.o.next h,Kr.of_below h⟩
 |true=>
  rw[Qy_ f];rw[f]at j;obtain⟨s,rfl,n⟩:=Xe_ f;clear f;go_enter func201,ntmps201;go_wp2_with fail
  refine j.o.mono ?_;rintro e w1 ⟨rfl,h⟩;obtain⟨a,b,AN,cN,l,g,i,c⟩:=HI.o.next h;obtain⟨c0,c2,c3,c4,c5,cf,cz⟩:=g.ci hi;have HF:=h_ (RdI.at1 hi g i c (by rw[<-g.2.2.2.2.2.2.len];exact n));have o:=g.2.2.2.2.1;have p:=g.2.2.2.2.2.2.most;clear g i c c0 c3 c4 c5;go_wp2;go_ret;exact⟨rfl,row,HF.o.1,(Kr.of_below h).trans HF.o.2⟩
theorem ZQ_ (R:RC) (hi:R.imp=true) (d:Nat) (st:RdSt) (row:ON) (m:BA) (w:World) (hI:RdI R d st row w):
  Calls prog 164 #[P_ (some ⟨R.T,0,none⟩),T_ m] w (QA_ R d row w (U_ #[]) (Qn_ R.sg st m)):=by
 have i:=h_ (YP_ R hi d st row m w hI);unfold QA_ at i |-
 clear hI
 cases f:isM R.sg st m with
 |false=>
  rw[GK_ f];rw[f,QD_ f]at i;clear f;go_enter func164,ntmps164;go_wp2_with fail
  refine i.o.mono ?_;rintro e w1 ⟨rfl,c,h,n⟩;obtain⟨a,b,AN,cN,l,j,k,g⟩:=h;obtain⟨c0,c2,c3,c4,c5,cf,cz⟩:=j.ci hi;have HF:=h_ (RdI.bad1 hi j g);clear j k g c0 c2 c3 c5;go_wp2;go_end0;exact⟨rfl,c,HF.o.1,n.trans HF.o.2⟩
 |true=>
  rw[Zr_ f];rw[f,Qy_ f]at i;clear f;go_enter func164,ntmps164;go_wp2_with fail
  refine i.o.mono ?_;rintro e w1 ⟨rfl,c,h,n⟩;go_wp2;go_end0;exact⟨rfl,c,h,n⟩
theorem JW_ (R:RC) (hi:R.imp=true) (d:Nat) (st:RdSt) (row:ON) (w:World) (z:RdI R d st row w):
  Calls prog 163 #[P_ (some ⟨R.T,0,none⟩)] w (QA_ R d row w (T_ (nmT R.sg st)) (nmS R.sg st)):=by
 have q:=h_ (KM_ R hi d st row 0 w z oo);have HI:=h_ z;unfold QA_ nmT nmS;clear z
 cases n:Kp_ R.sg st 0 with
 |false=>
  rw[in_ dc_,in_ dc_];rw[n]at q;clear n;go_enter func163,ntmps163;go_wp2_with fail
  refine q.o.mono ?_;rintro e w1 ⟨rfl,k⟩;obtain⟨a,b,AN,cN,l,h,f,c⟩:=HI.o.next k;obtain⟨c0,c2,c3,c4,v,cf,cz⟩:=h.ci hi;have m:=h_ (RdI.bad1 hi h c);clear h f c c0 c2 c3 v;go_wp2;go_ret;exact⟨rfl,row,m.o.1,(Kr.of_below k).trans m.o.2⟩
 |true=>
  rw[ip_ rfl,ip_ rfl];rw[n]at q;obtain⟨s,rfl,p⟩:=Z7_ n;rw[Nat.add_zero]at p;obtain⟨x,r⟩:∃x,R.sg[s.at_]? =some x:=⟨_,List.getElem?_eq_getElem p⟩;rw[show Qx_ R.sg (some s) 0=x from GE_ r];clear n;go_enter func163,ntmps163;go_wp2_with fail
  refine q.o.mono ?_;rintro e w1 ⟨rfl,k⟩;have j:=HI.o.next k;have i:=j.old;have g:=j.ok;obtain⟨a,b,AN,cN,l,h,f,c⟩:=j;obtain⟨c0,c2,c3,c4,v,cf,cz⟩:=h.ci hi;have o:=g.len;rw[f.2.1]at r;obtain⟨t,off,hA,A,e0,e1,e2,e3⟩:=Yv_ (g.rd.below i) (show a < R.n by have:=f.2.1;omega) r;rw[hA]at c0;have y:=RdI.at1 hi h f c (by have:=f.2.1;omega);have D:=h.2.2.2.2.1;have H:=g.most;have B:=g.low;have E:a < R.n:=by have:=f.2.1;omega
  have G:t≠R.T:=by
   obtain⟨b2,C,e,F,_⟩:=g.rd.at_ (show 0 < R.n from oo);rw[hA]at e;injection e with e;injection e with e _;omega
  clear h f c r o g i e0 e2 e3;have I:IntKind.i64.wrap ((a:Int)+1)=(a:Int)+1:=IntWalk.i64_in _ oo;have HK:=h_ ((Kr.of_below k).trans y.2);have m:=h_ y.1;clear y k;go_upto_region 5 with fail
  have q0:(w1.setCell ⟨R.T,2,none⟩ (I_ j_ ((a:Int)+1))).cell? ⟨R.T,0,none⟩=some (S_ (some ⟨t,off,none⟩) R.n R.c):=by go_simp
  have q2:(w1.setCell ⟨R.T,2,none⟩ (I_ j_ ((a:Int)+1))).cell? ⟨R.T,2,none⟩=some (I_ j_ ((a:Int)+1)):=by go_simp
  have q1:(w1.setCell ⟨R.T,2,none⟩ (I_ j_ ((a:Int)+1))).cell? ⟨t,off+a * 4+1,none⟩=some (T_ x.2.1):=by go_simp
  have J:IntKind.i64.wrap (a:Int)=(a:Int):=IntWalk.i64_in _ oo;clear e1 c0 c2 c3 c4 v cf;generalize w1.setCell ⟨R.T,2,none⟩ (I_ j_ ((a:Int)+1))=W at q0 q1 q2 HK m |-
  go_quiet (fail);go_wp2;go_ret;exact⟨rfl,row,m.o.next (below_drewN br _),HK.o.below (below_drewN br _)⟩
theorem Zo_ (R:RC) (hi:R.imp=true) (d:Nat) (st:RdSt) (row:ON) (w:World) (g:RdI R d st row w) (h:∀s,st=some s->s.at_ < R.n):
  Calls prog 200 #[P_ (some ⟨R.T,0,none⟩)] w (QA_ R d row w (U_ #[]) (Qf_ st)):=by
 obtain⟨a,b,AN,cN,l,e,c,f⟩:=id g;obtain⟨c0,c2,c3,c4,c5,cf,cz⟩:=e.ci hi;have HI:=h_ g;have i:=e.2.2.2.2.1;have j:=e.2.2.2.2.2.2.most;clear c0 c3 c5 g;unfold QA_
 cases st with
 |none=>
  obtain rfl:b=true:=c;rw[zY_];clear e;go_enter func200,ntmps200;go_wp2;go_end0;exact⟨rfl,row,HI.o,Kr.refl _ _ _⟩
 |some s=>
  have HF:=h_ (RdI.at1 hi e c f (h s rfl));obtain⟨rfl,_,_⟩:=c;clear e;go_enter func200,ntmps200;go_wp2;go_end0;exact⟨rfl,row,HF.o.1,HF.o.2⟩
theorem UT_ (R:RC) (hi:R.imp=true) (d:Nat) (st:RdSt) (row:ON) (w:World) (hI:RdI R d st row w) (hd:d<=100000):
  Calls prog 207 #[P_ (some ⟨R.T,0,none⟩)] w (QA_ R (d+1) row w (U_ #[]) (KI_ d st)):=by
 obtain⟨a,b,AN,cN,l,j,g,c⟩:=id hI;obtain⟨c0,c2,c3,c4,c5,cf,cz⟩:=j.ci hi;unfold QA_ KI_;clear c0 c2 c5 hI;by_cases i:d=20
 ·subst i;rw[ip_ rfl];have m:=RdI.bad1 hi j c;obtain⟨a',b',p,q,l',k,e,f⟩:=m.1;have n:=RdI.nest1 hi k e f (u:=21) (d':=21) (by rfl);have h:=h_ (ai_ n.1 (m.2.trans n.2));clear j g m n k e;go_enter func207,ntmps207;go_wp2;go_end0;exact⟨rfl,row,h.o.1,h.o.2⟩
 ·rw[in_ i];have o:((d:Int)==20)=false:=by rw[bn_];omega
  have h:=h_ (RdI.nest1 hi j g c (u:=(d:Int)+1) (d':=d+1) oo);clear j g;go_enter func207,ntmps207;go_wp2;go_end0;exact⟨rfl,row,h.o.1,h.o.2⟩
theorem RdC.blk3 {R:RC} {a d:Nat} {b:Bool} {AN:OA} {cN:Nat} {l:List Nd} {w w1 w3:World} (hi:R.imp=true) (h:RdC R a d b AN cN l w) (k:Below w.heap.size w w1) (hg:w1.grownBy w3 (S_ AN l.length cN).ownBlock):
  (∃v,w3.cell? ⟨R.T,5,none⟩=some v)/\(∀i,w3.frozen? ⟨R.T,i,none⟩=false)/\R.T < w3.heap.size:=by
 have g:=h.next k;rw[Q3_]at hg;have c:Blk w3 R.T R.ty (R.cells a d b (S_ AN l.length cN)):=g.1.grown hg (fun e=>by
  obtain⟨m,j⟩:=Qw_ g.2.1 e.symm;exact Kj_ g.1 j R.ty_node rfl)
 have f:=c;unfold RC.cells at c;rw[ip_ hi]at c;exact⟨⟨_,c.cell 5⟩,f.frozen,f.lt⟩
theorem RC.cells_nodes {R:RC} (hi:R.imp=true) (a d:Nat) (b:Bool) (u v:Value):(R.cells a d b u).setIfInBounds 5 v=R.cells a d b v:=by
 unfold RC.cells;rw[ip_ hi,ip_ hi];simp
theorem vo_ {s:PS} {x:PN} (h:s.nodes.length≠300):KP_ (some s) x=((s.nodes.length:Int),some ⟨s.at_,s.nodes++[x]⟩):=in_ h
theorem vn_ {s:PS} {x:PN} (h:s.nodes.length=300):KP_ (some s) x=(0,none):=ip_ h
theorem QgG_ (R:RC) (hi:R.imp=true) (d:Nat) (st:RdSt) (row:ON) (x:Nd) (w:World) (hI:RdI R d st row w) (H:KidsIn w R.w0.heap.size R.U x):
    Calls prog 120 #[P_ (some ⟨R.T,0,none⟩),A_ #[I_ j_ x.kind,T_ x.text,S_ x.adr x.cnt x.cap,B_ x.blank]] w (QA_ R d row w (I_ j_ (KP_ st x.pn).1) (KP_ st x.pn).2):=by
  have f:Below w.heap.size w (w.alloc (C_ #[I_ j_ x.kind,T_ x.text,S_ x.adr x.cnt x.cap,B_ x.blank] 96)):=grow_;obtain⟨a,b,AN,cN,l,g,G,m⟩:=id hI;obtain⟨c0,c2,c3,c4,c5,cf,cz⟩:=g.ci hi;have p:=g.next f;clear c0 c2 c3 hI;unfold QA_
  cases st with
  |none=>
    obtain rfl:b=true:=G;rw[Z8_];have z:=h_ (RdI.bad1 hi g m);clear p g f H;go_enter func120,ntmps120;go_wp2;go_ret;exact⟨rfl,row,z.o.1.alloc _,z.o.2.below bra⟩
  |some s=>
    obtain⟨rfl,ha,r⟩:=G;have y:s.nodes.length=l.length:=(by rw[r,List.length_map]);by_cases j:l.length=300
    · rw[vn_ (y.trans j)]
      have z:=h_ (RdI.bad1 hi g m);rw[j]at c5;clear p g f H j y r;go_enter func120,ntmps120;go_wp2;go_ret;exact⟨rfl,row,z.o.1.alloc _,z.o.2.below bra⟩
    · rw[vo_ oo,y]
      have ab:=p.2.2.2.1;have T:l.length < 300:=oo;obtain⟨i0,F,I,J,L⟩:=info_parts Qgl_;have M:=h_ (ai_ F (ai_ I (ai_ J L)));have ac:((l.length:Int)==300)=false:=(by rw[bn_];omega);obtain⟨d0,d2,d3,d4,d5,df,dz⟩:=p.ci hi;have K:=Blk.new w 96 #[I_ j_ x.kind,T_ x.text,S_ x.adr x.cnt x.cap,B_ x.blank];have k0:=K.q0;have k1:=K.q1;have k2:=K.q2;have k3:=K.q3;have kz:=K.lt;have kf:=K.frozen;have HX:=h_ (H.next f);have HC:=h_ p;have HB:=h_ f;have HP:=h_ (fun(v':Value) (w3:World) h1 h2 h3=>p.push x (H.next f) T (w1:=(w.alloc (C_ #[I_ j_ x.kind,T_ x.text,S_ x.adr x.cnt x.cap,B_ x.blank] 96)).alloc (C_ #[I_ j_ x.kind,T_ x.text,S_ x.adr x.cnt x.cap,B_ x.blank] 96)) bra (i:=5) (v':=v') (w3:=w3) h1 h2 h3 (RC.cells_nodes hi _ _ _ _ _));have H3:=h_ (fun(w3:World) h=>p.blk3 hi (w1:=(w.alloc (C_ #[I_ j_ x.kind,T_ x.text,S_ x.adr x.cnt x.cap,B_ x.blank] 96)).alloc (C_ #[I_ j_ x.kind,T_ x.text,S_ x.adr x.cnt x.cap,B_ x.blank] 96)) (w3:=w3) bra h);have v:=Qgp_ (w.alloc (C_ #[I_ j_ x.kind,T_ x.text,S_ x.adr x.cnt x.cap,B_ x.blank] 96)) x 96;rw[ws_]at v;have P:=h_ v;have HM:=h_ (Mine.alloc p.2.1 (C_ #[I_ j_ x.kind,T_ x.text,S_ x.adr x.cnt x.cap,B_ x.blank] 96));have E:R.w0.heap.size<=((w.alloc (C_ #[I_ j_ x.kind,T_ x.text,S_ x.adr x.cnt x.cap,B_ x.blank] 96)).alloc (C_ #[I_ j_ x.kind,T_ x.text,S_ x.adr x.cnt x.cap,B_ x.blank] 96)).heap.size:=by
        have:=g.2.2.2.2.2.1.size;simp only[ws_];omega
      have N:=h_ E;have S:=h_ (show Kr R.T row w row (w.alloc (C_ #[I_ j_ x.kind,T_ x.text,S_ x.adr x.cnt x.cap,B_ x.blank] 96))from Kr.of_below f);have D:s.at_=a/\s.nodes=l.map Nd.pn:=⟨ha,r⟩;have HH:=h_ D;have HR:=h_ m;have b5:∀o,((w.alloc (C_ #[I_ j_ x.kind,T_ x.text,S_ x.adr x.cnt x.cap,B_ x.blank] 96)).alloc o).cell? ⟨R.T,5,none⟩=some (S_ AN l.length cN):=fun o=>((p.next (br.alloc (lr_ _) o)).ci hi).2.2.2.2.1
      have X:∀o,((w.alloc (C_ #[I_ j_ x.kind,T_ x.text,S_ x.adr x.cnt x.cap,B_ x.blank] 96)).alloc o).cell? ⟨w.heap.size,0,none⟩=some (I_ j_ x.kind):=fun o=>(K.alloc o).cell 0
      have Y:∀o,((w.alloc (C_ #[I_ j_ x.kind,T_ x.text,S_ x.adr x.cnt x.cap,B_ x.blank] 96)).alloc o).cell? ⟨w.heap.size,1,none⟩=some (T_ x.text):=fun o=>(K.alloc o).cell 1
      have Z:∀o,((w.alloc (C_ #[I_ j_ x.kind,T_ x.text,S_ x.adr x.cnt x.cap,B_ x.blank] 96)).alloc o).cell? ⟨w.heap.size,2,none⟩=some (S_ x.adr x.cnt x.cap):=fun o=>(K.alloc o).cell 2
      have aa:∀o,((w.alloc (C_ #[I_ j_ x.kind,T_ x.text,S_ x.adr x.cnt x.cap,B_ x.blank] 96)).alloc o).cell? ⟨w.heap.size,3,none⟩=some (B_ x.blank):=fun o=>(K.alloc o).cell 3
      have U:((w.alloc (C_ #[I_ j_ x.kind,T_ x.text,S_ x.adr x.cnt x.cap,B_ x.blank] 96)).alloc (C_ #[I_ j_ x.kind,T_ x.text,S_ x.adr x.cnt x.cap,B_ x.blank] 96)).heap[w.heap.size+1]? =some (C_ #[I_ j_ x.kind,T_ x.text,S_ x.adr x.cnt x.cap,B_ x.blank] 96 (0,0)):=by
        have:=heap_alloc_new (w.alloc (C_ #[I_ j_ x.kind,T_ x.text,S_ x.adr x.cnt x.cap,B_ x.blank] 96)) (C_ #[I_ j_ x.kind,T_ x.text,S_ x.adr x.cnt x.cap,B_ x.blank] 96);rwa[ws_]at this
      clear F I J L p g f H c4 c5 cf cz K d0 d2 d3 v E D ha r m HC P;go_enter func120,ntmps120;go_upto_region 4 with fail
      go_region_law
        (refine step_append_lies _ rfl (.tmp 24) (.tmp 26) 57 rfl R.w0.heap.size 96 i0 (A_ #[I_ j_ 0,T_ ⟨#[]⟩,S_ none 0 0,B_ false]) 4 56 underlying57 M.o.1 M.o.2.1 M.o.2.2.1 M.o.2.2.2 rfl dc_ (S_ AN l.length cN) l.length (l.flatMap Qv_) ev_ (by first|exact HM.o.drew|exact HM.o) ⟨w.heap.size+1,0,none⟩ 1 1 (Qv_ x) ev_ (by rfl) (World.news_of_block (cs:=#[I_ j_ x.kind,T_ x.text,S_ x.adr x.cnt x.cap,B_ x.blank]) (t:=96) (fr:=(0,0)) U) (Qgq_ _) dc_ mx_ oo (by first|exact N.o) (w.heap.size+1+1) sm_ ?_
         intro q cap w6 n k C V;have c:((w.alloc (C_ #[I_ j_ x.kind,T_ x.text,S_ x.adr x.cnt x.cap,B_ x.blank] 96)).alloc (C_ #[I_ j_ x.kind,T_ x.text,S_ x.adr x.cnt x.cap,B_ x.blank] 96)).grownBy w6 (S_ AN l.length cN).ownBlock:=(by first|exact k|exact Q9_ k);obtain⟨⟨v5,j5⟩,jf,jz⟩:=H3.o _ c;have HW:=h_ (HP.o _ _ n c (C.elim (fun e=>.inl e.symm) (fun e=>.inr (by rw[e];simp[Value.ownBlock]))));clear n k C c)
      all_goals
        obtain⟨A3,c3,ev,A,B⟩:=HW.o;injection ev with ev1 ev2 ev3;subst ev1;subst ev3;have O:=h_ A;have Q:=h_ B;clear A B HW ev2;go_wp2;go_ret;refine⟨rfl,_,⟨a,false,_,_,_,O.o,⟨rfl,HH.o.1,?_⟩,rfl⟩,?_⟩
        · rw[HH.o.2,List.map_append];rfl
        · exact S.o.trans (by rw[HR.o];exact Q.o)
theorem v2_ {w:World} {B:Nat} {e:TypeId} {s:Nat} {A:OA} {n c:Nat} {xs:List Value} (h:Mine w B e s A n c xs):n<=c:=by
 rcases h.own with⟨_,rfl,rfl⟩|⟨g,_,_,h,_⟩
 ·exact lr_ _
 ·exact h
theorem zk_ {st:RdSt} {x:PN} {s s':PS} (h:st=some s) (a:(KP_ st x).2=some s'):s'.at_=s.at_:=by
 subst h;unfold KP_ at a;simp only at a;split at a
 ·cases a
 ·rw[<-oi_ a]
section
variable (R:RC) (hi:R.imp=true) (d:Nat) (st:RdSt) (row:ON)
include hi
theorem addK (k:Int) (t:BA) (A:OA) (n c:Nat) (ks:LI) (b:Bool) (B:Nat) (w:World) (hI:RdI R d st row w) (a:Mine w B 3 1 A n c (Qa_ ks)) (hB:R.Lo B):
  Calls prog 120 #[P_ (some ⟨R.T,0,none⟩),A_ #[I_ j_ k,T_ t,S_ A n c,B_ b]] w (QA_ R d row w (I_ j_ (KP_ st ⟨k,t,ks,b⟩).1) (KP_ st ⟨k,t,ks,b⟩).2):=
 QgG_ R hi d st row ⟨k,t,A,n,c,ks,b⟩ w hI ⟨⟨v2_ a,fun g hg hu=>by have:=(Mine.blk a hg).1;have:=hB.2 g hu;omega⟩,a.more hB.1⟩
theorem add0 (k:Int) (t:BA) (b:Bool) (w:World) (hI:RdI R d st row w):
  Calls prog 120 #[P_ (some ⟨R.T,0,none⟩),A_ #[I_ j_ k,T_ t,S_ none 0 0,B_ b]] w (QA_ R d row w (I_ j_ (KP_ st ⟨k,t,[],b⟩).1) (KP_ st ⟨k,t,[],b⟩).2):=
 addK R hi d st row k t none 0 0 [] b w.heap.size w hI (Mine.mk_nil _ _ _ _) hI.lo
end
theorem RdI.lt_n {R:RC} {d:Nat} {st:RdSt} {row:ON} {w:World} (h:RdI R d st row w) {i:Nat} {s:PS} (hs:st=some s) (hl:s.at_+i < R.sg.length):s.at_+i < R.n:=by rw[<-h.ok.len];exact hl
theorem Jc_ (R:RC) (hi:R.imp=true) (d:Nat) (st:RdSt) (row:ON) (k:Int) (w:World) (l:RdI R d st row w) (b:∀s,st=some s->s.at_ < R.n):
  Calls prog 206 #[P_ (some ⟨R.T,0,none⟩),I_ j_ k] w (QA_ R d row w (I_ j_ (YG_ R.sg k st).1) (YG_ R.sg k st).2):=by
 unfold YG_;have j:=h_ (Kl_ R hi d st row w l);have HI:=h_ l;generalize Qx_ R.sg st 0=x at j |-
 obtain⟨q,t,p,z⟩:=x;dsimp only at j |-
 have HL:=h_ (fun(s':PS) (h:(KP_ st ⟨k,t,[],false⟩).2=some s')=>show s'.at_ < R.n by
  cases a:st with
  |none=>rw[a]at h;cases h
  |some s=>rw[zk_ a h];exact b s a)
 have m:=ky_;clear l b;unfold QA_;go_enter func206,ntmps206;go_wp2_with fail
 refine j.o.mono ?_;rintro e w1 ⟨rfl,h1⟩;have f:=h_ (HI.o.next h1);have g:=h_ (Kr.of_below (T:=R.T) (row:=row) h1);clear h1;go_wp2_with fail
 refine(add0 R hi d st row k t false _ f.o).mono ?_;rintro e w2 ⟨rfl,row2,h2,k2⟩;have i:=h_ (g.o.trans k2);clear k2;go_wp2_with fail
 refine(Zo_ R hi d _ row2 _ h2 HL.o).mono ?_;rintro e w3 ⟨rfl,c,h3,k3⟩;go_wp2;go_ret;exact⟨rfl,c,h3,i.o.trans k3⟩
theorem v8_ (R:RC) (hi:R.imp=true) (d:Nat) (st:RdSt) (row:ON) (b:Bool) (w:World) (l:RdI R d st row w) (c:∀s,st=some s->s.at_ < R.n):
  Calls prog 159 #[P_ (some ⟨R.T,0,none⟩),B_ b] w (QA_ R d row w (I_ j_ (Xm_ R.sg b st).1) (Xm_ R.sg b st).2):=by
 unfold Xm_;have k:=h_ (Kl_ R hi d st row w l);have HI:=h_ l;generalize Qx_ R.sg st 0=x at k |-
 obtain⟨q,t,p,z⟩:=x;dsimp only at k |-
 have HL:=h_ (fun(s':PS) (h:(KP_ st ⟨19,t,[],b⟩).2=some s')=>show s'.at_ < R.n by
  cases a:st with
  |none=>rw[a]at h;cases h
  |some s=>rw[zk_ a h];exact c s a)
 have m:=ky_;clear l c;unfold QA_;go_enter func159,ntmps159;go_wp2_with fail
 refine k.o.mono ?_;rintro e w1 ⟨rfl,h1⟩;have g:=h_ (HI.o.next h1);have i:=h_ (Kr.of_below (T:=R.T) (row:=row) h1);clear h1;go_wp2_with fail
 refine(add0 R hi d st row 19 t b _ g.o).mono ?_;rintro e w2 ⟨rfl,row2,h2,k2⟩;have j:=h_ (i.o.trans k2);clear k2;go_wp2_with fail
 refine(Zo_ R hi d _ row2 _ h2 HL.o).mono ?_;rintro e w3 ⟨rfl,f,h3,k3⟩;go_wp2;go_ret;exact⟨rfl,f,h3,j.o.trans k3⟩
theorem Vo_ (R:RC) (hi:R.imp=true) (d:Nat) (st:RdSt) (row:ON) (w:World) (n:RdI R d st row w):
  Calls prog 166 #[P_ (some ⟨R.T,0,none⟩)] w (QA_ R d row w (I_ j_ (Qj_ R.sg st).1) (Qj_ R.sg st).2):=by
 have h:=h_ (KM_ R hi d st row 0 w n oo);have j:=h_ n;unfold QA_ Qj_;clear n
 cases g:Kp_ R.sg st 0 with
 |false=>
  rw[in_ dc_];rw[g]at h;clear g;go_enter func166,ntmps166;go_wp2_with fail
  refine h.o.mono ?_;rintro e w1 ⟨rfl,f⟩;obtain⟨a,b,AN,cN,l,o,p,c⟩:=j.o.next f;obtain⟨c0,c2,c3,c4,c5,cf,cz⟩:=o.ci hi;have HF:=h_ (RdI.bad1 hi o c);clear o p c c0 c2 c3 c5;go_wp2;go_ret;exact⟨rfl,row,HF.o.1,(Kr.of_below f).trans HF.o.2⟩
 |true=>
  rw[ip_ rfl];rw[g]at h;have HL:=h_ (fun(s:PS) (hs:st=some s)=>show s.at_ < R.n by
   obtain⟨s',e,hl⟩:=Z7_ g;rw[hs]at e;obtain rfl:=oi_ e;exact j.o.lt_n (i:=0) hs hl)
  clear g;go_enter func166,ntmps166;go_wp2_with fail
  refine h.o.mono ?_;rintro e w1 ⟨rfl,f⟩;have k:=h_ (j.o.next f);have m:=h_ (Kr.of_below (T:=R.T) (row:=row) f);clear f;go_wp2_with fail
  refine(Jc_ R hi d st row 1 _ k.o HL.o).mono ?_;rintro e w2 ⟨rfl,row2,h2,k2⟩;go_wp2;go_ret;exact⟨rfl,row2,h2,m.o.trans k2⟩
theorem KK_ (R:RC) (hi:R.imp=true) (d:Nat) (st:RdSt) (row:ON) (m:BA) (k:Int) (t:BA) (A:OA) (n c:Nat) (ks:LI) (b:Bool) (B:Nat) (w:World) (y:RdI R d st row w) (H:Mine w B 3 1 A n c (Qa_ ks)) (hB:R.Lo B):
  Calls prog 203 #[P_ (some ⟨R.T,0,none⟩),T_ m,A_ #[I_ j_ k,T_ t,S_ A n c,B_ b]] w (QA_ R d row w (I_ j_ (KP_ (Qn_ R.sg st m) ⟨k,t,ks,b⟩).1) (KP_ (Qn_ R.sg st m) ⟨k,t,ks,b⟩).2):=by
 have f:Below w.heap.size w (w.alloc (C_ #[I_ j_ k,T_ t,S_ A n c,B_ b] 96)):=grow_;have x:=h_ (Vj_ R hi d st row m _ (y.next f));have z:=h_ (y.next f);have HM:=h_ (H.next f);have p:=h_ (Kr.of_below (T:=R.T) (row:=row) f);have K:=Blk.new w 96 #[I_ j_ k,T_ t,S_ A n c,B_ b];unfold QA_
 cases o:isM R.sg st m with
 |false=>
  rw[GK_ o,Z8_];rw[o]at x;clear o y H K;go_enter func203,ntmps203;go_wp2_with fail
  refine x.o.mono ?_;rintro e w1 ⟨rfl,g⟩;obtain⟨a,b,AN,cN,l,G,I,j⟩:=z.o.next g;obtain⟨c0,c2,c3,c4,c5,cf,cz⟩:=G.ci hi;have HF:=h_ (RdI.bad1 hi G j);clear G I j c0 c2 c3 c5;go_wp2;go_ret;exact⟨rfl,row,HF.o.1,(p.o.below g).trans HF.o.2⟩
 |true=>
  rw[Zr_ o,VA_];rw[o]at x;have HL:=h_ (fun(s':PS) (h:(KP_ st ⟨k,t,ks,b⟩).2=some s')=>show s'.at_ < R.n by
   obtain⟨s,e,hl⟩:=Xe_ o;rw[zk_ e h];exact z.o.lt_n (i:=0) e hl)
  clear o y H;go_enter func203,ntmps203;go_wp2_with fail
  refine x.o.mono ?_;rintro e w1 ⟨rfl,g⟩;have C:=h_ (z.o.next g);have F:=h_ (HM.o.next g);have D:=h_ (p.o.below g);have q:=K.next g;have k0:=q.q0;have k1:=q.q1;have k2:=q.q2;have J:=q.q3;clear g K q;go_wp2_with fail
  refine(addK R hi d st row k t A n c ks b B _ C.o F.o hB).mono ?_;rintro e w2 ⟨rfl,row2,h2,r⟩;have E:=h_ (D.o.trans r);clear r k0 k1 k2 J;go_wp2_with fail
  refine(Zo_ R hi d _ row2 _ h2 HL.o).mono ?_;rintro e w3 ⟨rfl,v,h3,J⟩;go_wp2;go_ret;exact⟨rfl,v,h3,E.o.trans J⟩
section
variable {R:RC} (U:Nat->Prop) (hi:R.imp=true) (d:Nat) (st:RdSt) (row:ON)
include hi
theorem RdC.cu {a:Nat} {b:Bool} {AN:OA} {cN:Nat} {l:List Nd} {w:World} (h:RdC { R with U:=U } a d b AN cN l w):
  w.cell? ⟨R.T,2,none⟩=some (I_ j_ a)/\w.cell? ⟨R.T,3,none⟩=some (I_ j_ d)/\w.cell? ⟨R.T,4,none⟩=some (B_ b)/\(∀i,w.frozen? ⟨R.T,i,none⟩=false)/\R.T < w.heap.size:=by
 obtain⟨c0,c2,c3,c4,c5,cf,cz⟩:=RdC.ci (R:={ R with U:=U }) hi h;exact⟨c2,c3,c4,cf,cz⟩
theorem is_u (m:BA) (w:World) (hI:RdI { R with U:=U } d st row w):
 Calls prog 204 #[P_ (some ⟨R.T,0,none⟩),T_ m] w (RB_ (B_ (isM R.sg st m)) w):=Vj_ { R with U:=U } hi d st row m w hI
theorem Qao_ (m:BA) (w:World) (hI:RdI { R with U:=U } d st row w):
 Calls prog 201 #[P_ (some ⟨R.T,0,none⟩),T_ m] w fun e w'=>e=R_ (B_ (isM R.sg st m))/\∃row',RdI { R with U:=U } d (zX_ R.sg st m) row' w'/\Kr R.T row w row' w':=YP_ { R with U:=U } hi d st row m w hI
theorem Qat_ (m:BA) (w:World) (hI:RdI { R with U:=U } d st row w):
 Calls prog 164 #[P_ (some ⟨R.T,0,none⟩),T_ m] w fun e w'=>e=R_ (U_ #[])/\∃row',RdI { R with U:=U } d (Qn_ R.sg st m) row' w'/\Kr R.T row w row' w':=ZQ_ { R with U:=U } hi d st row m w hI
theorem QbC_ (w:World) (hI:RdI { R with U:=U } d st row w):
 Calls prog 166 #[P_ (some ⟨R.T,0,none⟩)] w fun e w'=>e=R_ (I_ j_ (Qj_ R.sg st).1)/\∃row',RdI { R with U:=U } d (Qj_ R.sg st).2 row' w'/\Kr R.T row w row' w':=Vo_ { R with U:=U } hi d st row w hI
end
def OneC (R:RC) (F:FuncId) (d lo:Nat) (one:RdSt->PR):Prop:=
 ∀(U:Nat->Prop) (st:RdSt) (row:ON) (w:World),RdI { R with U:=U } d st row w->(∀s,st=some s->lo<=s.at_)->Calls prog F #[P_ (some ⟨R.T,0,none⟩)] w (QA_ { R with U:=U } d row w (I_ j_ (one st).1) (one st).2)
def LoB (lo:Nat) (st:RdSt):Prop:=∀s,st=some s->lo<=s.at_
def Enough (n N:Nat) (st:RdSt):Prop:=∀s,st=some s->n < N+s.at_
def KidB (ks:LI) (st:RdSt):Prop:=ks.length<=301/\∀s,st=some s->ks.length<=s.nodes.length
section
variable {lo n N i j:Nat} {st st':RdSt} {ks:LI}
theorem LoB.adv (h:LoB lo st) (k:Adv i j st st'):LoB lo st':=fun t e=>by
 obtain⟨s,e2,h1,_⟩:=k t e;have:=h s e2;omega
theorem Enough.adv (h:Enough n (N+1) st) (k:Adv (i+1) j st st'):Enough n N st':=fun t e=>by
 obtain⟨s,e2,h1,_⟩:=k t e;have:=h s e2;omega
end
theorem Enough.mono {n N i j:Nat} {st st':RdSt} (h:Enough n N st) (k:Adv i j st st'):Enough n N st':=fun t e=>by
 obtain⟨s,e2,h1,_⟩:=k t e;have:=h s e2;omega
theorem KidB.mono {i j:Nat} {st st':RdSt} {ks:LI} (h:KidB ks st) (k:Adv i j st st'):KidB ks st':=⟨h.1,fun t e=>by
 obtain⟨s,e2,_,h1⟩:=k t e;have:=h.2 s e2;omega⟩
def Z1_ (R:RC) (w:World):Nat:=match w.cell? ⟨R.T,4,none⟩,w.cell? ⟨R.T,2,none⟩with|some (B_ false),some (I_ _ a)=>R.n+1 - a.toNat|_,_=>0
section
variable {R:RC} {d:Nat} {st:RdSt} {s:PS} {row:ON} {w w':World}
theorem Yr_ (hi:R.imp=true) (h:RdI R d (some s) row w):Z1_ R w=R.n+1 - s.at_/\s.at_<=R.n:=by
 obtain⟨a,b,AN,cN,l,hc,⟨rfl,rfl,_⟩,_⟩:=h;obtain⟨c0,c2,c3,c4,c5,cf,cz⟩:=hc.ci hi;have:=hc.2.2.2.2.1;unfold Z1_;rw[c4,c2];exact⟨rfl,this⟩
theorem Wj_ (hi:R.imp=true) (h:RdI R d none row w):Z1_ R w=0:=by
 obtain⟨a,b,AN,cN,l,hc,hb,_⟩:=h;obtain rfl:b=true:=hb;obtain⟨c0,c2,c3,c4,c5,cf,cz⟩:=hc.ci hi;unfold Z1_;rw[c4]
theorem Wi_ (hi:R.imp=true) (h:RdI R d (some s) row w) {st':RdSt} {d':Nat} {row':ON} (h':RdI R d' st' row' w') {i j:Nat} (k:Adv (i+1) j (some s) st'):Z1_ R w' < Z1_ R w:=by
 obtain⟨e1,e2⟩:=Yr_ hi h
 cases st' with
 |none=>rw[Wj_ hi h'];omega
 |some t=>
  obtain⟨e3,e4⟩:=Yr_ hi h';obtain⟨s',e5,h1,_⟩:=k t rfl;obtain rfl:=oi_ e5;omega
end
theorem G2_ {R:RC} {U U':Nat->Prop} {d d':Nat} {s:PS} {row row':ON} {w w':World} (hi:R.imp=true) (h:RdI { R with U:=U } d (some s) row w) {st':RdSt} (h':RdI { R with U:=U' } d' st' row' w') {i j:Nat} (k:Adv (i+1) j (some s) st'):Z1_ R w' < Z1_ R w:=by
 have e1:=Yr_ (R:={ R with U:=U }) hi h;have e2:Z1_ { R with U:=U } w=Z1_ R w:=rfl;have e3:∀W,Z1_ { R with U:=U' } W=Z1_ R W:=fun _=>rfl
 have hn:({ R with U:=U }:RC).n=R.n:=rfl
 cases st' with
 |none=>have:=Wj_ (R:={ R with U:=U' }) hi h';rw[e3]at this;omega
 |some t=>
  have e4:=Yr_ (R:={ R with U:=U' }) hi h';obtain⟨s',e5,h1,_⟩:=k t rfl;obtain rfl:=oi_ e5;have e6:({ R with U:=U' }:RC).n=R.n:=rfl;rw[e3]at e4;omega
def Qci_ (R:RC) (d:Nat) (row:ON) (w:World) (q:LI × RdSt) (e:Ending) (w':World):Prop:=
 ∃(A:OA) (c:Nat),e=R_ (S_ A q.1.length c)/\Mine w' w.heap.size 3 1 A q.1.length c (Qa_ q.1)/\q.1.length<=301/\∃row',RdI (R.res A) d q.2 row' w'/\Kr R.T row w row' w'
theorem GZ_ (R:RC) (hi:R.imp=true) (d lo:Nat) (one:RdSt->PR) (HO:Hid (OneC R 202 d lo one)) (h1:∀st,Adv 1 1 st (one st).2) (m:BA) (N:Nat) (st:RdSt) (row:ON) (w:World) (hI:RdI R d st row w) (aa:LoB lo st) (hN:Enough R.n N st):
  Calls prog 165 #[P_ (some ⟨R.T,0,none⟩),T_ m,.func (.func 202) #[P_ (some ⟨R.T,0,none⟩)] #[]] w (Qci_ R d row w (QG_ R.sg one m N [] st)):=by
 obtain⟨i0,aj,al,am,ab⟩:=info_parts QY_;have E:=h_ (ai_ aj (ai_ al (ai_ am ab)));clear aj al am ab;have n:=h_ hI;have ak:=hI.lo.1;have q:=h_ aa;have HN:=h_ hN;have HA:=h_ h1;obtain⟨Q,hQ⟩:=ex_ (QG_ R.sg one m N [] st);rw[hQ];have i:=h_ hQ;clear hQ;clear hI aa hN h1;unfold Qci_;go_enter func165,ntmps165;go_wp2;go_loopw [7] (fun v wr=>∃(M:Nat) (ks:LI) (st':RdSt) (row':ON) (A:OA) (c:Nat),v=S_ A ks.length c/\Hid (QG_ R.sg one m M ks st'=Q)/\Hid (LoB lo st')/\Hid (Enough R.n M st')/\Hid (KidB ks st')/\Hid (Mine wr w.heap.size 3 1 A ks.length c (Qa_ ks))/\Hid (RdI (R.res A) d st' row' wr)/\Hid (Kr R.T row w row' wr)) (fun _ wr=>Z1_ R wr)
 case atStart=>exact⟨N,[],st,row,none,0,rfl,i,q,HN,⟨by simp,fun s _=>by simp⟩,Mine.mk_nil _ _ _ _,n.o.res_new br (fun g hg=>by cases hg),Kr.refl _ _ _⟩
 case round=>
  clear i q HN n;obtain⟨M,ks,st',row',A,c,rfl,i,q,HN,G,HM,n,HK⟩:=hrel;have aI:(R.res A).imp=true:=hi
  cases st' with
  |none=>
   obtain⟨a,b,AN,cN,l,hc,hb,y⟩:=n.o;obtain⟨c2,c3,c4,cf,cz⟩:=hc.cu _ hi;obtain rfl:b=true:=hb;have f:=i.o;rw[VF_]at f;subst f;clear hc c2 c3 y i;go_wp2;go_ret;exact⟨A,c,rfl,HM.o,G.o.1,row',n.o,HK.o⟩
  |some s=>
   obtain⟨M,rfl⟩:∃M',M=M'+1:=⟨M - 1,by
    have h1:=HN.o s rfl;have h2:=(n.o.le rfl).1;have:(R.res A).n=R.n:=rfl;omega⟩
   obtain⟨a,b,AN,cN,l,hc,hb,y⟩:=n.o;obtain⟨c2,c3,c4,cf,cz⟩:=hc.cu _ hi;obtain⟨rfl,_,_⟩:=hb;have p:=h_ (is_u _ hi d (some s) row' m wr n.o);have f:=i.o;unfold QG_ at f;rw[in_ (show ¬(some s).isNone=true by simp)]at f;clear hc c2 c3 y i
   cases h:isM R.sg (some s) m with
   |true=>
    rw[h,ip_ rfl]at f;subst f;rw[h]at p;clear h;go_wp2_with fail
    refine p.o.mono ?_;rintro e w2 ⟨rfl,J⟩;clear c4 cf cz;go_wp2;go_ret;exact⟨A,c,rfl,HM.o.next J,G.o.1,row',n.o.next J,HK.o.below J⟩
   |false=>
    rw[h,in_ dc_]at f;rw[h]at p;have i:=h_ f;clear h f;go_wp2_with fail
    refine p.o.mono ?_;rintro e w2 ⟨rfl,J⟩;have C:=h_ (n.o.next J);have ae:=h_ (HM.o.next J);have T:=h_ (HK.o.below J);have ab:=T.o.size;clear c4 cf cz J p HM HK;have HC:=h_ (HO.o _ (some s) row' w2 C.o q.o);unfold QA_ at HC;have aH:=G.o.2 s rfl;have aK:=(C.o.le rfl).2;have j:=HA.o (some s);have O:Hid (LoB lo (one (some s)).2):=q.o.adv j;have P:Hid (Enough R.n M (one (some s)).2):=HN.o.adv j;have B:Hid (KidB (ks++[(one (some s)).1]) (one (some s)).2):=(show KidB _ _ from⟨by rw[lA];simp;omega,fun t e=>by
     obtain⟨s',e2,_,h3⟩:=j t e;obtain rfl:=oi_ e2;rw[lA];simp;omega⟩)
    have L:=h_ j;generalize one (some s)=r at HC i O P B L;obtain⟨k,st2⟩:=r;dsimp only at HC i O P B L;go_wp2_with fail
    refine HC.o.mono ?_;rintro e w3 ⟨rfl,an,h3,k3⟩;have H:=h_ (C.o.keepI k3 ae.o);have S:=h_ h3;have U:=h_ (T.o.trans k3);have aL:=U.o.size;have aa:=S.o.lo.1;have Z:(ks++[k]).length=ks.length+1:=sm_;clear h3 k3 C ae T HC;have aJ:=G.o.1;have av:Hid (R.w0.heap.size<=w.heap.size):=(show R.w0.heap.size<=w.heap.size from ak);go_wp2_with (at_builtin;(refine Qi_ _ rfl (.tmp 22) (.tmp 24) _ rfl w.heap.size 3 i0 (I_ j_ 0) 1 8 underlying83 E.o.1 E.o.2.1 E.o.2.2.1 E.o.2.2.2 rfl dc_ (S_ A ks.length c) ks.length (Qa_ ks) rfl (Mine.alloc H.o _) ⟨w3.heap.size,0,none⟩ 1 1 [I_ j_ k] rfl rfl (K8_ _ k _) (K9_ _) mx_ oo so_ ?_);intro v' w4 x Y K)
    obtain⟨A4,ag,rfl,h4,m4⟩:=RdI.appended S.o H.o av.o bra x Y K;have F:=h_ ((U.o.below bra).grown Y (fun g hg=>by rw[Q3_]at hg;exact(Mine.blk H.o hg).1));rw[<-Ke_]at m4;have o:=h_ h4;have I:=h_ m4;clear x Y K h4 m4 S H U;have HS:=h_ (Qao_ _ hi d st2 an ⟨#[44]⟩ w4 o.o)
    cases h:isM R.sg st2 ⟨#[44]⟩with
    |true=>
     rw[h,Qy_ h]at HS;have f:=i.o;rw[h,ip_ rfl]at f;have ax:=h_ f;clear f i h;go_wp2_with fail
     refine HS.o.mono ?_;rintro e w5 ⟨rfl,z,h5,k5⟩;have X:=h_ (o.o.keepI k5 I.o);have D:=h_ h5;have V:=h_ (F.o.trans k5);clear h5 k5 o I F;go_wp2;go_roundw
     case rel=>exact⟨M,ks++[k],Qf_ st2,z,A4,ag,by rw[Z],ax,O.o.adv (Qh_ _),P.o.mono (Qh_ _),B.o.mono (Qh_ _),by rw[Z];exact X,D,V⟩
     case measure=>exact G2_ hi n.o D.o ((L.o.trans (Qh_ st2)).weak (i':=1) (j':=0) oo oo)
    |false=>
     rw[h,QD_ h]at HS;have f:=i.o;rw[h,in_ dc_]at f;subst f;clear i h;go_wp2_with fail
     refine HS.o.mono ?_;rintro e w5 ⟨rfl,z,h5,k5⟩;have X:=h_ (o.o.keepI k5 I.o);have D:=h_ h5;have V:=h_ (F.o.trans k5);clear h5 k5 o I F;go_wp2;go_ret;exact⟨A4,ag,rfl,X.o,(by have:=B.o.1;rw[Z]at this;omega),z,D.o,V.o⟩
theorem jF_ (R:RC) (hi:R.imp=true) (d lo:Nat) (one:RdSt->PR) (HO:Hid (OneC R 166 d lo one)) (h1:∀st,Adv 1 1 st (one st).2) (m:BA) (N:Nat) (st:RdSt) (row:ON) (w:World) (hI:RdI R d st row w) (aa:LoB lo st) (hN:Enough R.n N st):
  Calls prog 165 #[P_ (some ⟨R.T,0,none⟩),T_ m,.func (.func 166) #[P_ (some ⟨R.T,0,none⟩)] #[]] w (Qci_ R d row w (QG_ R.sg one m N [] st)):=by
 obtain⟨i0,aj,al,am,ab⟩:=info_parts QY_;have E:=h_ (ai_ aj (ai_ al (ai_ am ab)));clear aj al am ab;have n:=h_ hI;have ak:=hI.lo.1;have q:=h_ aa;have HN:=h_ hN;have HA:=h_ h1;obtain⟨Q,hQ⟩:=ex_ (QG_ R.sg one m N [] st);rw[hQ];have i:=h_ hQ;clear hQ;clear hI aa hN h1;unfold Qci_;go_enter func165,ntmps165;go_wp2;go_loopw [7] (fun v wr=>∃(M:Nat) (ks:LI) (st':RdSt) (row':ON) (A:OA) (c:Nat),v=S_ A ks.length c/\Hid (QG_ R.sg one m M ks st'=Q)/\Hid (LoB lo st')/\Hid (Enough R.n M st')/\Hid (KidB ks st')/\Hid (Mine wr w.heap.size 3 1 A ks.length c (Qa_ ks))/\Hid (RdI (R.res A) d st' row' wr)/\Hid (Kr R.T row w row' wr)) (fun _ wr=>Z1_ R wr)
 case atStart=>exact⟨N,[],st,row,none,0,rfl,i,q,HN,⟨by simp,fun s _=>by simp⟩,Mine.mk_nil _ _ _ _,n.o.res_new br (fun g hg=>by cases hg),Kr.refl _ _ _⟩
 case round=>
  clear i q HN n;obtain⟨M,ks,st',row',A,c,rfl,i,q,HN,G,HM,n,HK⟩:=hrel;have aI:(R.res A).imp=true:=hi
  cases st' with
  |none=>
   obtain⟨a,b,AN,cN,l,hc,hb,y⟩:=n.o;obtain⟨c2,c3,c4,cf,cz⟩:=hc.cu _ hi;obtain rfl:b=true:=hb;have f:=i.o;rw[VF_]at f;subst f;clear hc c2 c3 y i;go_wp2;go_ret;exact⟨A,c,rfl,HM.o,G.o.1,row',n.o,HK.o⟩
  |some s=>
   obtain⟨M,rfl⟩:∃M',M=M'+1:=⟨M - 1,by
    have h1:=HN.o s rfl;have h2:=(n.o.le rfl).1;have:(R.res A).n=R.n:=rfl;omega⟩
   obtain⟨a,b,AN,cN,l,hc,hb,y⟩:=n.o;obtain⟨c2,c3,c4,cf,cz⟩:=hc.cu _ hi;obtain⟨rfl,_,_⟩:=hb;have p:=h_ (is_u _ hi d (some s) row' m wr n.o);have f:=i.o;unfold QG_ at f;rw[in_ (show ¬(some s).isNone=true by simp)]at f;clear hc c2 c3 y i
   cases h:isM R.sg (some s) m with
   |true=>
    rw[h,ip_ rfl]at f;subst f;rw[h]at p;clear h;go_wp2_with fail
    refine p.o.mono ?_;rintro e w2 ⟨rfl,J⟩;clear c4 cf cz;go_wp2;go_ret;exact⟨A,c,rfl,HM.o.next J,G.o.1,row',n.o.next J,HK.o.below J⟩
   |false=>
    rw[h,in_ dc_]at f;rw[h]at p;have i:=h_ f;clear h f;go_wp2_with fail
    refine p.o.mono ?_;rintro e w2 ⟨rfl,J⟩;have C:=h_ (n.o.next J);have ae:=h_ (HM.o.next J);have T:=h_ (HK.o.below J);have ab:=T.o.size;clear c4 cf cz J p HM HK;have HC:=h_ (HO.o _ (some s) row' w2 C.o q.o);unfold QA_ at HC;have aH:=G.o.2 s rfl;have aK:=(C.o.le rfl).2;have j:=HA.o (some s);have O:Hid (LoB lo (one (some s)).2):=q.o.adv j;have P:Hid (Enough R.n M (one (some s)).2):=HN.o.adv j;have B:Hid (KidB (ks++[(one (some s)).1]) (one (some s)).2):=(show KidB _ _ from⟨by rw[lA];simp;omega,fun t e=>by
     obtain⟨s',e2,_,h3⟩:=j t e;obtain rfl:=oi_ e2;rw[lA];simp;omega⟩)
    have L:=h_ j;generalize one (some s)=r at HC i O P B L;obtain⟨k,st2⟩:=r;dsimp only at HC i O P B L;go_wp2_with fail
    refine HC.o.mono ?_;rintro e w3 ⟨rfl,an,h3,k3⟩;have H:=h_ (C.o.keepI k3 ae.o);have S:=h_ h3;have U:=h_ (T.o.trans k3);have aL:=U.o.size;have aa:=S.o.lo.1;have Z:(ks++[k]).length=ks.length+1:=sm_;clear h3 k3 C ae T HC;have aJ:=G.o.1;have av:Hid (R.w0.heap.size<=w.heap.size):=(show R.w0.heap.size<=w.heap.size from ak);go_wp2_with (at_builtin;(refine Qi_ _ rfl (.tmp 22) (.tmp 24) _ rfl w.heap.size 3 i0 (I_ j_ 0) 1 8 underlying83 E.o.1 E.o.2.1 E.o.2.2.1 E.o.2.2.2 rfl dc_ (S_ A ks.length c) ks.length (Qa_ ks) rfl (Mine.alloc H.o _) ⟨w3.heap.size,0,none⟩ 1 1 [I_ j_ k] rfl rfl (K8_ _ k _) (K9_ _) mx_ oo so_ ?_);intro v' w4 x Y K)
    obtain⟨A4,ag,rfl,h4,m4⟩:=RdI.appended S.o H.o av.o bra x Y K;have F:=h_ ((U.o.below bra).grown Y (fun g hg=>by rw[Q3_]at hg;exact(Mine.blk H.o hg).1));rw[<-Ke_]at m4;have o:=h_ h4;have I:=h_ m4;clear x Y K h4 m4 S H U;have HS:=h_ (Qao_ _ hi d st2 an ⟨#[44]⟩ w4 o.o)
    cases h:isM R.sg st2 ⟨#[44]⟩with
    |true=>
     rw[h,Qy_ h]at HS;have f:=i.o;rw[h,ip_ rfl]at f;have ax:=h_ f;clear f i h;go_wp2_with fail
     refine HS.o.mono ?_;rintro e w5 ⟨rfl,z,h5,k5⟩;have X:=h_ (o.o.keepI k5 I.o);have D:=h_ h5;have V:=h_ (F.o.trans k5);clear h5 k5 o I F;go_wp2;go_roundw
     case rel=>exact⟨M,ks++[k],Qf_ st2,z,A4,ag,by rw[Z],ax,O.o.adv (Qh_ _),P.o.mono (Qh_ _),B.o.mono (Qh_ _),by rw[Z];exact X,D,V⟩
     case measure=>exact G2_ hi n.o D.o ((L.o.trans (Qh_ st2)).weak (i':=1) (j':=0) oo oo)
    |false=>
     rw[h,QD_ h]at HS;have f:=i.o;rw[h,in_ dc_]at f;subst f;clear i h;go_wp2_with fail
     refine HS.o.mono ?_;rintro e w5 ⟨rfl,z,h5,k5⟩;have X:=h_ (o.o.keepI k5 I.o);have D:=h_ h5;have V:=h_ (F.o.trans k5);clear h5 k5 o I F;go_wp2;go_ret;exact⟨A4,ag,rfl,X.o,(by have:=B.o.1;rw[Z]at this;omega),z,D.o,V.o⟩
end Go.Proofs.YtbiijipkgfpgoaaGreatDoor

/-
  Put together by program.
-/
import Derived.Test.YtbiijipkgfpgoaaGreatDoorMmC
import Derived.Laws.AppendOwnNone
set_option maxRecDepth 100000
set_option linter.all false
set_option maxHeartbeats 25600000
open Go.Proofs.Tryz
open Go.Value renaming int→I_,slice→S_,string→T_,bool→B_,pointer→P_,agg→A_,tuple→U_
open Go.IntKind renaming i64→j_
open Go.Obj renaming cells→C_
open Go.Ending renaming returned→R_
open List renaming length→η
open Go renaming World→Ω,Calls→Δ,Value→Υ
open Go.Proofs.Tryz renaming prog→π
open Go.RowKit renaming Hid→Ψ
open Bool renaming true→τ,false→φ,and_eq_true→τa,false_and→φa,true_and→τb,and_false→φb
open Option renaming none→ν,some→σ
namespace Go.Proofs.YtbiijipkgfpgoaaGreatDoor
open Go.RowKit
variable (k:Int)(t:BA)(p:Int)(b:Bool)(a:Ω)(i:Nat)(c:Bool)(e l g:Int)(h:Nat)(o:Bool){m:BA}{q:Bool}{r:List SgP}{s:List Υ}{d f n j:Nat}{u:OA}{v x:ON}{w y z:Ω}
structure PS where
 at_:Nat
 nodes:List PN
abbrev RdSt:=Option PS
abbrev PR:=Int × RdSt
abbrev sgZero:SgP:=(0,⟨#[]⟩,0,φ)
abbrev noT:BA:=⟨#[]⟩
section
variable (sg:List SgP)
def Qx_ (st:RdSt) (i:Nat):SgP:=match st with|none=>sgZero|some s=>(sg[s.at_+i]?).getD sgZero
def isM (st:RdSt) (m:BA):Bool:=((Qx_ sg st 0).1==4)&&((Qx_ sg st 0).2.1.toList==m.toList)
def isW (st:RdSt) (m:BA):Bool:=((Qx_ sg st 0).1==1)&&((Qx_ sg st 0).2.1.toList==m.toList)
def Kp_ (st:RdSt) (i:Nat):Bool:=((Qx_ sg st i).1==1)&&!X5_ (Qx_ sg st i).2.1
def Qf_ (st:RdSt):RdSt:=st.map (λs=>⟨s.at_+1,s.nodes⟩)
def Qn_ (st:RdSt) (m:BA):RdSt:=if isM sg st m=τ then Qf_ st else ν
def KP_ (st:RdSt) (x:PN):PR:=match st with|none=>(0,ν)|some s=>if η s.nodes=300 then (0,ν)else ((η s.nodes:Int),σ ⟨s.at_,s.nodes++[x]⟩)
def YG_ (k:Int) (st:RdSt):PR:=((KP_ st ⟨k,(Qx_ sg st 0).2.1,[],φ⟩).1,Qf_ (KP_ st ⟨k,(Qx_ sg st 0).2.1,[],φ⟩).2)
def Qj_ (st:RdSt):PR:=if Kp_ sg st 0=τ then YG_ sg 1 st else (0,ν)
def nmS (st:RdSt):RdSt:=if Kp_ sg st 0=τ then Qf_ st else ν
def nmT (st:RdSt):BA:=if Kp_ sg st 0=τ then (Qx_ sg st 0).2.1 else noT
def QG_ (one:RdSt->PR) (m:BA):Nat->LI->RdSt->LI × RdSt
 |0,ks,st=>(ks,st)
 |n+1,ks,st=>
  if st.isNone=τ then (ks,st)
  else if isM sg st m=τ then (ks,st)
  else if isM sg (one st).2 ⟨#[44]⟩=τ then QG_ one m n (ks++[(one st).1]) (Qf_ (one st).2)
  else (ks++[(one st).1],(one st).2)
def Yg_ (one:RdSt->PR) (N:Nat) (k:Int) (st:RdSt):PR:=
 KP_ (Qn_ sg (QG_ sg one ⟨#[41]⟩ N [] (Qn_ sg st ⟨#[40]⟩)).2 ⟨#[41]⟩) ⟨5,noT,k::(QG_ sg one ⟨#[41]⟩ N [] (Qn_ sg st ⟨#[40]⟩)).1,φ⟩
def Y2_ (one:RdSt->PR) (N:Nat):Nat->LI->RdSt->LI × RdSt
 |0,ks,st=>(ks,st)
 |n+1,ks,st=>
  if isM sg st ⟨#[46,46]⟩=τ then Y2_ one N n (ks++[(Yg_ sg one N (Qj_ sg (Qf_ st)).1 (Qj_ sg (Qf_ st)).2).1]) (Yg_ sg one N (Qj_ sg (Qf_ st)).1 (Qj_ sg (Qf_ st)).2).2
  else (ks,st)
def GD_ (one:RdSt->PR) (m:BA):Nat->LI->RdSt->LI × RdSt
 |0,ks,st=>(ks,st)
 |n+1,ks,st=>if isM sg st m=τ then GD_ one m n (ks++[(one (Qf_ st)).1]) (one (Qf_ st)).2 else (ks,st)
def Zg_ (l:Nat):List BA:=
 if l=0 then [⟨#[124,124]⟩]else if l=1 then [⟨#[38,38]⟩]else if l=2 then [⟨#[61,61]⟩]else if l=3 then [⟨#[60]⟩]else if l=4 then [⟨#[43]⟩,⟨#[45]⟩]else [⟨#[42]⟩]
def Zz_ (st:RdSt):List BA->BA
 |[]=>noT
 |m::r=>if isM sg st m=τ then m else Zz_ st r
def KY_ (st:RdSt) (l:Nat):BA:=Zz_ sg st (Zg_ l)
def Zw_ (one:RdSt->PR) (l N:Nat):Nat->Int->RdSt->PR
 |0,k,st=>(k,st)
 |n+1,k,st=>
  if (KY_ sg st l).toList==[]then (k,st)
  else Zw_ one l N n (KP_ (GD_ sg one (KY_ sg st l) N [k] st).2 ⟨7,KY_ sg st l,(GD_ sg one (KY_ sg st l) N [k] st).1,φ⟩).1 (KP_ (GD_ sg one (KY_ sg st l) N [k] st).2 ⟨7,KY_ sg st l,(GD_ sg one (KY_ sg st l) N [k] st).1,φ⟩).2
def W0_ (one:RdSt->PR) (N:Nat):Nat->Int->RdSt->PR
 |0,k,st=>(k,st)
 |n+1,k,st=>
  if st.isNone=τ then (k,st)
  else if isM sg st ⟨#[40]⟩=τ then W0_ one N n (Yg_ sg one N k st).1 (Yg_ sg one N k st).2
  else if isM sg st ⟨#[46]⟩=τ then
   (if Kp_ sg (Qf_ st) 0=τ then W0_ one N n (KP_ (Qf_ st) ⟨6,(Qx_ sg (Qf_ st) 0).2.1,[k],φ⟩).1 (Qf_ (KP_ (Qf_ st) ⟨6,(Qx_ sg (Qf_ st) 0).2.1,[k],φ⟩).2)else (0,ν))
  else (k,st)
def fnF (st:RdSt):Nat->Nat->Nat
 |0,i=>i
 |f+1,i=>if Kp_ sg st i=τ then (if (Qx_ sg st (i+1)).2.1.toList==[44]then fnF st f (i+2)else i+1)else i
def fnB (st:RdSt):Bool:=((Qx_ sg st (fnF sg st (η sg+1) 1)).2.1.toList==[41])&&((Qx_ sg st (fnF sg st (η sg+1) 1+1)).2.1.toList==[61,62])
inductive Md
 |value|pick|chain (l:Nat)|end_|base|stmt (b:Bool)|block
variable (E:Md->Nat->RdSt->PR) (N:Nat)
def Xi_ (d:Nat) (st:RdSt):PR:=
 if isM sg (E .pick d st).2 ⟨#[46,46]⟩=τ then KP_ (Y2_ sg (E .value d) N N [(E .pick d st).1] (E .pick d st).2).2 ⟨10,noT,(Y2_ sg (E .value d) N N [(E .pick d st).1] (E .pick d st).2).1,φ⟩
 else E .pick d st
def KI_ (d:Nat) (st:RdSt):RdSt:=if d=20 then ν else st
def Vq_ (d:Nat) (st:RdSt):PR:=
 let r:=E (.chain 0) (d+1) (KI_ d st)
 if isM sg r.2 ⟨#[63]⟩=τ then
  let a:=E .pick (d+1) (Qf_ r.2)
  let b:=E .pick (d+1) (Qn_ sg a.2 ⟨#[58]⟩)
  KP_ b.2 ⟨8,noT,[r.1,a.1,b.1],φ⟩
 else r
def Xc_ (l d:Nat) (st:RdSt):PR:=
 if l=6 then E .end_ d st else Zw_ sg (E (.chain (l+1)) d) l N N (E (.chain (l+1)) d st).1 (E (.chain (l+1)) d st).2
def endS (d:Nat) (st:RdSt):PR:=W0_ sg (E .value d) N N (E .base d st).1 (E .base d st).2
def fnS (d:Nat) (st:RdSt):PR:=
 let q:=QG_ sg (Qj_ sg) ⟨#[41]⟩ N [] (Qn_ sg st ⟨#[40]⟩)
 let r:=E .pick d (Qn_ sg (Qn_ sg q.2 ⟨#[41]⟩) ⟨#[61,62]⟩)
 KP_ r.2 ⟨9,noT,q.1++[r.1],φ⟩
def Qdq_ (d:Nat) (st:RdSt):PR:=
 let q:=QG_ sg (E .value d) ⟨#[93]⟩ N [] (Qf_ st)
 KP_ (Qn_ sg q.2 ⟨#[93]⟩) ⟨4,noT,q.1,φ⟩
def parS (d:Nat) (st:RdSt):PR:=
 let r:=E .value d (Qf_ st)
 KP_ (Qn_ sg r.2 ⟨#[41]⟩) ⟨11,noT,[r.1],φ⟩
def YB_ (d:Nat) (st:RdSt):PR:=
 if (Qx_ sg st 0).1=1 then Qj_ sg st
 else if (Qx_ sg st 0).1=2 then YG_ sg 2 st
 else if (Qx_ sg st 0).1=3 then YG_ sg 3 st
 else if isM sg st ⟨#[91]⟩=τ then Qdq_ sg E N d st
 else if isM sg st ⟨#[40]⟩=τ then (if fnB sg st=τ then fnS sg E N d st else parS sg E d st)
 else (0,ν)
def Xm_ (b:Bool) (st:RdSt):PR:=((KP_ st ⟨19,(Qx_ sg st 0).2.1,[],b⟩).1,Qf_ (KP_ st ⟨19,(Qx_ sg st 0).2.1,[],b⟩).2)
def Jx_ (d:Nat) (b:Bool) (st:RdSt):PR:=
 if isM sg (nmS sg st) ⟨#[61]⟩=τ then
  let r:=E .value d (Qf_ (nmS sg st))
  KP_ (Qn_ sg r.2 ⟨#[59]⟩) ⟨12,nmT sg st,[r.1],b⟩
 else KP_ (Qn_ sg (nmS sg st) ⟨#[59]⟩) ⟨12,nmT sg st,[],b⟩
def Yp_ (d:Nat) (b:Bool) (st:RdSt):PR:=
 if isM sg st ⟨#[59]⟩=τ then KP_ (Qn_ sg st ⟨#[59]⟩) ⟨15,noT,[],b⟩
 else
  let r:=E .value d st
  KP_ (Qn_ sg r.2 ⟨#[59]⟩) ⟨15,noT,[r.1],b⟩
def JJ_ (d:Nat) (st:RdSt):PR:=((E .value d (Qn_ sg st ⟨#[40]⟩)).1,Qn_ sg (E .value d (Qn_ sg st ⟨#[40]⟩)).2 ⟨#[41]⟩)
def ifS (d:Nat) (b:Bool) (st:RdSt):PR:=
 let c:=JJ_ sg E d st
 let t:=E .block d c.2
 if isW sg t.2 ⟨#[101,108,115,101]⟩=τ then
  let o:=E .block d (Qf_ t.2)
  KP_ o.2 ⟨16,noT,[c.1,t.1,o.1],b⟩
 else KP_ t.2 ⟨16,noT,[c.1,t.1],b⟩
def z6_ (d:Nat) (b:Bool) (st:RdSt):PR:=
 let c:=JJ_ sg E d st
 let t:=E .block d c.2
 KP_ t.2 ⟨17,noT,[c.1,t.1],b⟩
def setS (d:Nat) (b:Bool) (st:RdSt):PR:=
 let r:=E .value d (Qf_ (Qf_ st))
 KP_ (Qn_ sg r.2 ⟨#[59]⟩) ⟨13,nmT sg st,[r.1],b⟩
def doS (d:Nat) (b:Bool) (st:RdSt):PR:=
 let r:=E .value d st
 KP_ (Qn_ sg r.2 ⟨#[59]⟩) ⟨14,noT,[r.1],b⟩
def setB (st:RdSt):Bool:=Kp_ sg st 0&&(((Qx_ sg st 1).2.1.toList==[61])&&((Qx_ sg st 1).1==4))
def ZJ_ (d:Nat) (b:Bool) (st:RdSt):PR:=
 if (Qx_ sg st 0).1=5 then Xm_ sg b st
 else if isW sg st ⟨#[118,97,114]⟩=τ then Jx_ sg E d b (Qf_ st)
 else if isW sg st ⟨#[114,101,116,117,114,110]⟩=τ then Yp_ sg E d b (Qf_ st)
 else if isW sg st ⟨#[105,102]⟩=τ then ifS sg E d b (Qf_ st)
 else if isW sg st ⟨#[119,104,105,108,101]⟩=τ then z6_ sg E d b (Qf_ st)
 else if setB sg st=τ then setS sg E d b st
 else doS sg E d b st
def XI_ (st:RdSt) (ks:LI):Bool:=(Qx_ sg st 0).2.2.2&&decide (0<η ks)
def Zv_ (one:Bool->RdSt->PR):Nat->LI->RdSt->LI × RdSt
 |0,ks,st=>(ks,st)
 |n+1,ks,st=>
  if st.isNone=τ then (ks,st)
  else if isM sg st ⟨#[125]⟩=τ then (ks,st)
  else Zv_ one n (ks++[(one (XI_ sg st ks) st).1]) (one (XI_ sg st ks) st).2
def Ye_ (d:Nat) (st:RdSt):PR:=
 let q:=Zv_ sg (λb=>E (.stmt b) (d+1)) N [] (Qn_ sg (KI_ d st) ⟨#[123]⟩)
 KP_ (Qn_ sg q.2 ⟨#[125]⟩) ⟨18,noT,q.1,φ⟩
def Qb8_:Md->Nat->RdSt->PR
 |.value=>Xi_ sg E N
 |.pick=>Vq_ sg E
 |.chain l=>Xc_ sg E N l
 |.end_=>endS sg E N
 |.base=>YB_ sg E N
 |.stmt b=>λd st=>ZJ_ sg E d b st
 |.block=>Ye_ sg E N
def Qd_:Nat->Md->Nat->RdSt->PR
 |0=>λ_ _ _=>(0,ν)
 |f+1=>Qb8_ sg (Qd_ f) N
def VU_ (b:Bool) (st:RdSt):PR:=
 let q:=QG_ sg (Qj_ sg) ⟨#[41]⟩ N [] (Qn_ sg (nmS sg st) ⟨#[40]⟩)
 let r:=E .block 0 (Qn_ sg q.2 ⟨#[41]⟩)
 KP_ r.2 ⟨20,nmT sg st,q.1++[r.1],b⟩
def V6_ (b:Bool) (st:RdSt):PR:=
 if (Qx_ sg st 0).1=5 then Xm_ sg b st
 else if isW sg st ⟨#[118,97,114]⟩=τ then Jx_ sg E 0 b (Qf_ st)
 else VU_ sg E N b st
def Vd_ (b:Bool) (st:RdSt):PR:=
 let q:=Zv_ sg (V6_ sg E N) N [] (Qn_ sg (nmS sg st) ⟨#[123]⟩)
 KP_ (Qn_ sg q.2 ⟨#[125]⟩) ⟨21,nmT sg st,q.1,b⟩
def Y9_ (b:Bool) (st:RdSt):PR:=
 if (Qx_ sg st 0).1=5 then Xm_ sg b st
 else if isW sg st ⟨#[118,97,114]⟩=τ then Jx_ sg E 0 b (Qf_ st)
 else if isW sg st ⟨#[99,108,97,115,115]⟩=τ then Vd_ sg E N b (Qf_ st)
 else VU_ sg E N b st
def jN_ (st:RdSt):Bool:=match st with|none=>φ|some s=>decide (s.at_<η sg)
def XL_:Nat->LI->RdSt->LI × RdSt
 |0,ks,st=>(ks,st)
 |n+1,ks,st=>if jN_ sg st=τ then XL_ n (ks++[(Y9_ sg E N (XI_ sg st ks) st).1]) (Y9_ sg E N (XI_ sg st ks) st).2 else (ks,st)
def ji_ (st:RdSt):RdSt:=(KP_ (XL_ sg E N N [] st).2 ⟨22,noT,(XL_ sg E N N [] st).1,φ⟩).2
end
def Xg_ (sg:List SgP):RdSt:=ji_ sg (Qd_ sg (η sg+2) (14*(η sg+2))) (η sg+2) (σ ⟨0,[]⟩)
section
variable {sg:List SgP} {st st' st2:RdSt} {s:PS} {m:BA}
def WB_:Qx_ sg ν i=sgZero:=rfl
def ZM_:isM sg ν m=φ:=rfl
def vS_:isW sg ν m=φ:=rfl
def zH_:Kp_ sg ν i=φ:=rfl
def zY_:Qf_ ν=ν:=rfl
def ZH_:Qn_ sg ν m=ν:=by unfold Qn_;rw[ZM_];rfl
def Z8_ (x:PN):KP_ ν x=(0,ν):=rfl
def VF_ (one:RdSt->PR) (n:Nat) (ks:LI):QG_ sg one m n ks ν=(ks,ν):=by
 cases n with
 |zero=>rfl
 |succ n=>unfold QG_;exact ip_ rfl
def Qd4_ (one:RdSt->PR) (n:Nat) (ks:LI):GD_ sg one m n ks ν=(ks,ν):=by
 cases n with
 |zero=>rfl
 |succ n=>unfold GD_;rw[ZM_,in_ dc_]
def X8_:(noT.toList==[])=τ:=by rw[ByteArray.toList_eq];rfl
def Qbp_ (l:List BA):Zz_ sg ν l=noT:=by
 induction l with
 |nil=>rfl
 |cons a l ih=>unfold Zz_;rw[ZM_,in_ dc_];exact ih
def zD_:KY_ sg ν i=noT:=Qbp_ _
def ZX_ (one:RdSt->PR) (l N n:Nat) (k:Int):Zw_ sg one l N n k ν=(k,ν):=by
 cases n with
 |zero=>rfl
 |succ n=>unfold Zw_;rw[zD_,ip_ X8_]
def Ve_ (one:RdSt->PR) (N n:Nat) (k:Int):W0_ sg one N n k ν=(k,ν):=by
 cases n with
 |zero=>rfl
 |succ n=>unfold W0_;exact ip_ rfl
def Xx_ (one:Bool->RdSt->PR) (n:Nat) (ks:LI):Zv_ sg one n ks ν=(ks,ν):=by
 cases n with
 |zero=>rfl
 |succ n=>unfold Zv_;exact ip_ rfl
def Gz_:KI_ i ν=ν:=by unfold KI_;split<;>rfl
end
section
variable {sg:List SgP} {E:Md->Nat->RdSt->PR} {N:Nat}
def GI_ (hE:∀m d,E m d ν=(0,ν)):∀m d,Qb8_ sg E N m d ν=(0,ν):=by
 intro m d;have hs:∀b,ZJ_ sg E d b ν=(0,ν):=λb=>by
  unfold ZJ_ doS;simp only[WB_,vS_,hE,ZH_,Z8_,setB,zH_]
  rfl
 cases m with
 |value=>show Xi_ sg E N d ν=_;unfold Xi_;rw[hE,in_ (by rw[ZM_];decide)]
 |pick=>show Vq_ sg E d ν=_;unfold Vq_;rw[Gz_,hE];simp only[ZM_];rfl
 |chain l=>show Xc_ sg E N l d ν=_;unfold Xc_;rw[hE,hE];simp only[ZX_];split<;>rfl
 |end_=>show endS sg E N d ν=_;unfold endS;rw[hE];exact Ve_ _ _ _ _
 |base=>show YB_ sg E N d ν=_;unfold YB_;simp only[WB_,ZM_];rfl
 |stmt b=>exact hs b
 |block=>show Ye_ sg E N d ν=_;unfold Ye_;rw[Gz_,ZH_,Xx_];simp only[ZH_];rfl
def Xy_:∀(f:Nat) (m:Md) (d:Nat),Qd_ sg N f m d ν=(0,ν):=by
 intro f
 induction f with
 |zero=>intro m d;rfl
 |succ f ih=>exact GI_ ih
end
def Adv (i j:Nat) (st st':RdSt):Prop:=∀t,st'=σ t->∃s,st=σ s/\s.at_+i<=t.at_/\η s.nodes+j<=η t.nodes
section
variable {sg:List SgP} {st st' st2:RdSt} {i j i' j':Nat}
def Adv.trans (h:Adv i j st st') (k:Adv i' j' st' st2):Adv (i+i') (j+j') st st2:=λt e=>by
 obtain⟨s',e',h1,h2⟩:=k t e;obtain⟨s,e2,h3,h4⟩:=h s' e';exact⟨s,e2,oo,oo⟩
def Adv.weak (h:Adv i j st st') (h1:i'<=i) (h2:j'<=j):Adv i' j' st st':=λt e=>by
 obtain⟨s,e2,h3,h4⟩:=h t e;exact⟨s,e2,oo,oo⟩
def Adv.refl (st:RdSt):Adv 0 0 st st:=λt e=>⟨t,e,lr_ _,lr_ _⟩
def Adv.bad (i j:Nat) (st:RdSt):Adv i j st ν:=λt e=>by cases e
def Qh_ (st:RdSt):Adv 1 0 st (Qf_ st):=λt e=>by
 cases st with
 |none=>cases e
 |some s=>obtain rfl:=oi_ e;exact⟨s,rfl,lr_ _,lr_ _⟩
def Qq_ (st:RdSt) (m:BA):Adv 1 0 st (Qn_ sg st m):=by
 unfold Qn_;split
 ·exact Qh_ st
 exact Adv.bad _ _ _
def Jy_ (st:RdSt):Adv 1 0 st (nmS sg st):=by
 unfold nmS;split
 ·exact Qh_ st
 exact Adv.bad _ _ _
def Xq_ (st:RdSt):Adv 0 0 st (KI_ h st):=by
 unfold KI_;split
 ·exact Adv.bad _ _ _
 exact Adv.refl _
def Kg_ (st:RdSt) (x:PN):Adv 0 1 st (KP_ st x).2:=λt e=>by
 unfold KP_ at e
 cases st with
 |none=>cases e
 |some s=>
  simp only at e;split at e
  ·cases e
  obtain rfl:=oi_ e;exact⟨s,rfl,by simp,by simp⟩
def z8_ (st:RdSt):Adv 1 1 st (YG_ sg k st).2:=((Kg_ st _).trans (Qh_ _)).weak oo oo
def QT_ (st:RdSt):Adv 1 1 st (Qj_ sg st).2:=by
 unfold Qj_;split
 ·exact z8_ 1 st
 exact Adv.bad _ _ _
def qa_ (st:RdSt):Adv 1 1 st (Xm_ sg b st).2:=((Kg_ st _).trans (Qh_ _)).weak oo oo
def Yz_ {one:RdSt->PR} (h1:∀st,Adv 1 1 st (one st).2) (m:BA):∀(n:Nat) (ks:LI) (st:RdSt),η ks<=(QG_ sg one m n ks st).1.length/\Adv 0 ((QG_ sg one m n ks st).1.length-η ks) st (QG_ sg one m n ks st).2:=by
 intro n
 induction n with
 |zero=>intro ks st;exact⟨lr_ _,by simpa[QG_]using Adv.refl st⟩
 |succ n ih=>
  intro ks st;unfold QG_;split
  ·exact⟨lr_ _,by simpa using Adv.refl st⟩
  split
  ·exact⟨lr_ _,by simpa using Adv.refl st⟩
  split
  ·obtain⟨g1,g2⟩:=ih (ks++[(one st).1]) (Qf_ (one st).2);simp only[lA,List.length_singleton]at g1 g2;refine⟨oo,(((h1 st).trans (Qh_ _)).trans g2).weak oo oo⟩
  simp only[lA,List.length_singleton];exact⟨oo,(h1 st).weak oo oo⟩
def VB_ {one:RdSt->PR} (h1:∀st,Adv 1 1 st (one st).2) (N:Nat) (k:Int) (st:RdSt):Adv 1 1 st (Yg_ sg one N k st).2:=by
 unfold Yg_;exact((((Qq_ st _).trans (Yz_ h1 _ _ _ _).2).trans (Qq_ _ _)).trans (Kg_ _ _)).weak oo oo
def vp_ {one:RdSt->PR} (h1:∀st,Adv 1 1 st (one st).2) (N:Nat):∀(n:Nat) (ks:LI) (st:RdSt),η ks<=(Y2_ sg one N n ks st).1.length/\Adv 0 ((Y2_ sg one N n ks st).1.length-η ks) st (Y2_ sg one N n ks st).2:=by
 intro n
 induction n with
 |zero=>intro ks st;exact⟨lr_ _,by simpa[Y2_]using Adv.refl st⟩
 |succ n ih=>
  intro ks st;unfold Y2_;split
  ·obtain⟨g1,g2⟩:=ih (ks++[(Yg_ sg one N (Qj_ sg (Qf_ st)).1 (Qj_ sg (Qf_ st)).2).1]) (Yg_ sg one N (Qj_ sg (Qf_ st)).1 (Qj_ sg (Qf_ st)).2).2;simp only[lA,List.length_singleton]at g1 g2;exact⟨oo,((((Qh_ st).trans (QT_ _)).trans (VB_ h1 N _ _)).trans g2).weak oo oo⟩
  exact⟨lr_ _,by simpa using Adv.refl st⟩
def x1_ {one:RdSt->PR} (h1:∀st,Adv 1 1 st (one st).2) (m:BA):∀(n:Nat) (ks:LI) (st:RdSt),η ks<=(GD_ sg one m n ks st).1.length/\Adv 0 ((GD_ sg one m n ks st).1.length-η ks) st (GD_ sg one m n ks st).2:=by
 intro n
 induction n with
 |zero=>intro ks st;exact⟨lr_ _,by simpa[GD_]using Adv.refl st⟩
 |succ n ih=>
  intro ks st;unfold GD_;split
  ·obtain⟨g1,g2⟩:=ih (ks++[(one (Qf_ st)).1]) (one (Qf_ st)).2;simp only[lA,List.length_singleton]at g1 g2;exact⟨oo,(((Qh_ st).trans (h1 _)).trans g2).weak oo oo⟩
  exact⟨lr_ _,by simpa using Adv.refl st⟩
def Qcl_ {one:RdSt->PR} (h1:∀st,Adv 1 1 st (one st).2) (l N:Nat):∀(n:Nat) (k:Int) (st:RdSt),Adv 0 0 st (Zw_ sg one l N n k st).2:=by
 intro n
 induction n with
 |zero=>intro k st;exact Adv.refl st
 |succ n ih=>
  intro k st;unfold Zw_;split
  ·exact Adv.refl st
  exact(((x1_ h1 _ N [k] st).2.trans (Kg_ _ _)).trans (ih _ _)).weak oo oo
def QgH_ {one:RdSt->PR} (h1:∀st,Adv 1 1 st (one st).2) (N:Nat):∀(n:Nat) (k:Int) (st:RdSt),Adv 0 0 st (W0_ sg one N n k st).2:=by
 intro n
 induction n with
 |zero=>intro k st;exact Adv.refl st
 |succ n ih=>
  intro k st;unfold W0_;split
  ·exact Adv.refl st
  split
  ·exact((VB_ h1 N k st).trans (ih _ _)).weak oo oo
  split
  ·split
   ·exact((((Qh_ st).trans (Kg_ _ _)).trans (Qh_ _)).trans (ih _ _)).weak oo oo
   exact Adv.bad _ _ _
  exact Adv.refl st
def z7_ {one:Bool->RdSt->PR} (h1:∀b st,Adv 1 1 st (one b st).2):∀(n:Nat) (ks:LI) (st:RdSt),η ks<=(Zv_ sg one n ks st).1.length/\Adv 0 ((Zv_ sg one n ks st).1.length-η ks) st (Zv_ sg one n ks st).2:=by
 intro n
 induction n with
 |zero=>intro ks st;exact⟨lr_ _,by simpa[Zv_]using Adv.refl st⟩
 |succ n ih=>
  intro ks st;unfold Zv_;split
  ·exact⟨lr_ _,by simpa using Adv.refl st⟩
  split
  ·exact⟨lr_ _,by simpa using Adv.refl st⟩
  obtain⟨g1,g2⟩:=ih (ks++[(one (XI_ sg st ks) st).1]) (one (XI_ sg st ks) st).2;simp only[lA,List.length_singleton]at g1 g2;exact⟨oo,((h1 _ st).trans g2).weak oo oo⟩
end
section
variable {sg:List SgP} {E:Md->Nat->RdSt->PR} {N:Nat} (hE:∀m d st,Adv 1 1 st (E m d st).2)
include hE
def Qcm_ (d:Nat) (st:RdSt):Adv 1 1 st (Xi_ sg E N d st).2:=by
 unfold Xi_;split
 ·exact(((hE .pick d st).trans (vp_ (hE .value d) N N _ _).2).trans (Kg_ _ _)).weak oo oo
 exact hE _ _ _
def QeZ_ (d:Nat) (st:RdSt):Adv 1 1 st (Vq_ sg E d st).2:=by
 unfold Vq_;simp only;split
 ·exact(((((((Xq_ d st).trans (hE (.chain 0) (d+1) _)).trans (Qh_ _)).trans (hE .pick (d+1) _)).trans (Qq_ _ _)).trans (hE .pick (d+1) _)).trans (Kg_ _ _)).weak oo oo
 exact((Xq_ d st).trans (hE (.chain 0) (d+1) _)).weak oo oo
def Qh5_ (d:Nat) (st:RdSt):Adv 1 1 st (fnS sg E N d st).2:=by
 unfold fnS;exact((((((Qq_ st _).trans (Yz_ QT_ _ _ _ _).2).trans (Qq_ _ _)).trans (Qq_ _ _)).trans (hE .pick d _)).trans (Kg_ _ _)).weak oo oo
def QeX_ (d:Nat) (st:RdSt):Adv 1 1 st (YB_ sg E N d st).2:=by
 unfold YB_;split
 ·exact QT_ st
 split
 ·exact z8_ _ st
 split
 ·exact z8_ _ st
 split
 ·exact((((Qh_ st).trans (Yz_ (hE .value d) _ _ _ _).2).trans (Qq_ _ _)).trans (Kg_ _ _)).weak oo oo
 split
 ·split
  ·exact Qh5_ hE d st
  exact((((Qh_ st).trans (hE .value d _)).trans (Qq_ _ _)).trans (Kg_ _ _)).weak oo oo
 exact Adv.bad _ _ _
def x3_ (d:Nat) (b:Bool) (st:RdSt):Adv 1 1 st (Jx_ sg E d b st).2:=by
 unfold Jx_;split
 ·exact(((((Jy_ st).trans (Qh_ _)).trans (hE .value d _)).trans (Qq_ _ _)).trans (Kg_ _ _)).weak oo oo
 exact(((Jy_ st).trans (Qq_ _ _)).trans (Kg_ _ _)).weak oo oo
def Yy_ (d:Nat) (st:RdSt):Adv 1 1 st (JJ_ sg E d st).2:=(((Qq_ st _).trans (hE .value d _)).trans (Qq_ _ _)).weak oo oo
def Qe1_ (d:Nat) (b:Bool) (st:RdSt):Adv 1 1 st (ZJ_ sg E d b st).2:=by
 unfold ZJ_;split
 ·exact qa_ b st
 split
 ·exact((Qh_ st).trans (x3_ hE d b _)).weak oo oo
 split
 ·unfold Yp_;split
  ·exact(((Qh_ st).trans (Qq_ _ _)).trans (Kg_ _ _)).weak oo oo
  exact((((Qh_ st).trans (hE .value d _)).trans (Qq_ _ _)).trans (Kg_ _ _)).weak oo oo
 split
 ·unfold ifS;simp only;split
  ·exact((((((Qh_ st).trans (Yy_ hE d _)).trans (hE .block d _)).trans (Qh_ _)).trans (hE .block d _)).trans (Kg_ _ _)).weak oo oo
  exact((((Qh_ st).trans (Yy_ hE d _)).trans (hE .block d _)).trans (Kg_ _ _)).weak oo oo
 split
 ·exact((((Qh_ st).trans (Yy_ hE d _)).trans (hE .block d _)).trans (Kg_ _ _)).weak oo oo
 split
 ·exact(((((Qh_ st).trans (Qh_ _)).trans (hE .value d _)).trans (Qq_ _ _)).trans (Kg_ _ _)).weak oo oo
 exact(((hE .value d st).trans (Qq_ _ _)).trans (Kg_ _ _)).weak oo oo
def Qck_ (d:Nat) (st:RdSt):Adv 1 1 st (Ye_ sg E N d st).2:=by
 unfold Ye_;exact(((((Xq_ d st).trans (Qq_ _ _)).trans (z7_ (λb=>hE (.stmt b) (d+1)) _ _ _).2).trans (Qq_ _ _)).trans (Kg_ _ _)).weak oo oo
def Qe0_ (m:Md) (d:Nat) (st:RdSt):Adv 1 1 st (Qb8_ sg E N m d st).2:=by
 cases m with
 |value=>exact Qcm_ hE d st
 |pick=>exact QeZ_ hE d st
 |chain l=>
  show Adv 1 1 st (Xc_ sg E N l d st).2;unfold Xc_;split
  ·exact hE _ _ _
  exact((hE (.chain (l+1)) d st).trans (Qcl_ (hE (.chain (l+1)) d) l N N _ _)).weak oo oo
 |end_=>exact((hE .base d st).trans (QgH_ (hE .value d) N N _ _)).weak oo oo
 |base=>exact QeX_ hE d st
 |stmt b=>exact Qe1_ hE d b st
 |block=>exact Qck_ hE d st
def vq_ (b:Bool) (st:RdSt):Adv 1 1 st (VU_ sg E N b st).2:=by
 unfold VU_;exact((((((Jy_ st).trans (Qq_ _ _)).trans (Yz_ QT_ _ _ _ _).2).trans (Qq_ _ _)).trans (hE .block 0 _)).trans (Kg_ _ _)).weak oo oo
def z9_ (b:Bool) (st:RdSt):Adv 1 1 st (V6_ sg E N b st).2:=by
 unfold V6_;split
 ·exact qa_ b st
 split
 ·exact((Qh_ st).trans (x3_ hE 0 b _)).weak oo oo
 exact vq_ hE b st
def x2_ (b:Bool) (st:RdSt):Adv 1 1 st (Y9_ sg E N b st).2:=by
 unfold Y9_;split
 ·exact qa_ b st
 split
 ·exact((Qh_ st).trans (x3_ hE 0 b _)).weak oo oo
 split
 ·unfold Vd_;exact((((((Qh_ st).trans (Jy_ _)).trans (Qq_ _ _)).trans (z7_ (z9_ hE) _ _ _).2).trans (Qq_ _ _)).trans (Kg_ _ _)).weak oo oo
 exact vq_ hE b st
end
def QB_ {sg:List SgP} {N:Nat}:∀(f:Nat) (m:Md) (d:Nat) (st:RdSt),Adv 1 1 st (Qd_ sg N f m d st).2:=by
 intro f
 induction f with
 |zero=>intro m d st;exact Adv.bad _ _ _
 |succ f ih=>exact Qe0_ ih
section
variable {sg:List SgP} {st:RdSt} {m:BA}
def VA_ (st:RdSt) (x:PN):KP_ (Qf_ st) x=((KP_ st x).1,Qf_ (KP_ st x).2):=by
 cases st with
 |none=>rfl
 |some s=>
  unfold KP_ Qf_;simp only[Option.map_some];split<;>rfl
def Jo_ (st:RdSt):KP_ (nmS sg st) ⟨1,nmT sg st,[],φ⟩=Qj_ sg st:=by
 unfold nmS nmT Qj_;split
 ·exact VA_ _ _
 rfl
def Qdj_ (st:RdSt):KP_ (Qf_ st) ⟨k,(Qx_ sg st 0).2.1,[],φ⟩=YG_ sg k st:=VA_ _ _
def qI_ (st:RdSt):KP_ (Qf_ st) ⟨19,(Qx_ sg st 0).2.1,[],φ⟩=Xm_ sg φ st:=VA_ _ _
def Zr_ (h:isM sg st m=τ):Qn_ sg st m=Qf_ st:=ip_ h
def GK_ (h:isM sg st m=φ):Qn_ sg st m=ν:=in_ (by rw[h];decide)
def Zs_ (k:Int) (b:Bool) (st:RdSt):RdSt:=st.map (λs=>⟨s.at_,s.nodes.modify k.toNat (λx=>⟨x.kind,x.text,x.kids,b⟩)⟩)
def Xa_ (b:Bool) (r:PR):PR:=(r.1,Zs_ r.1 b r.2)
def QdF_ {α:Type} (l:List α) (x:α) (f:α->α):(l++[x]).modify (η l) f=l++[f x]:=by
 induction l with
 |nil=>rfl
 |cons a l ih=>simpa using ih
def KR_ (st:RdSt) (k:Int) (t:BA) (ks:LI) (b:Bool):KP_ st ⟨k,t,ks,b⟩=Xa_ b (KP_ st ⟨k,t,ks,φ⟩):=by
 cases st with
 |none=>rfl
 |some s=>
  unfold KP_ Xa_ Zs_;simp only;split
  ·rfl
  simp only[Option.map_some,it_];rw[QdF_]
def QbY_ (st:RdSt):Qf_ (Zs_ k b st)=Zs_ k b (Qf_ st):=by cases st<;>rfl
def GB_ (st:RdSt):Xm_ sg b st=Xa_ b (Xm_ sg φ st):=by
 unfold Xm_;rw[KR_ st 19 _ [] b];unfold Xa_;simp only[QbY_]
variable {E:Md->Nat->RdSt->PR} {N:Nat}
def WT_ (st:RdSt):Jx_ sg E i c st=Xa_ c (Jx_ sg E i φ st):=by
 unfold Jx_;split
 ·exact KR_ _ _ _ _ _
 exact KR_ _ _ _ _ _
def Qb9_ (st:RdSt):ZJ_ sg E i c st=Xa_ c (ZJ_ sg E i φ st):=by
 unfold ZJ_;split
 ·exact GB_ c st
 split
 ·exact WT_ i c _
 split
 ·unfold Yp_;split
  ·exact KR_ _ _ _ _ _
  exact KR_ _ _ _ _ _
 split
 ·unfold ifS;simp only;split
  ·exact KR_ _ _ _ _ _
  exact KR_ _ _ _ _ _
 split
 ·exact KR_ _ _ _ _ _
 split
 ·exact KR_ _ _ _ _ _
 exact KR_ _ _ _ _ _
def QdC_ (st:RdSt):V6_ sg E N b st=Xa_ b (V6_ sg E N φ st):=by
 unfold V6_;split
 ·exact GB_ b st
 split
 ·exact WT_ 0 b _
 exact KR_ _ _ _ _ _
def QeI_ (st:RdSt):Y9_ sg E N b st=Xa_ b (Y9_ sg E N φ st):=by
 unfold Y9_;split
 ·exact GB_ b st
 split
 ·exact WT_ 0 b _
 split
 ·exact KR_ _ _ _ _ _
 exact KR_ _ _ _ _ _
def QaS_ (st:RdSt):Qd_ sg N i (.stmt o) h st=Xa_ o (Qd_ sg N i (.stmt φ) h st):=by
 cases i with
 |zero=>rfl
 |succ i=>exact Qb9_ h o st
def XC_ (sg:List SgP):Prop:=∀d∈sg,((d.2.1.toList==[41])=τ\/(d.2.1.toList==[61,62])=τ\/(d.2.1.toList==[44])=τ)->d.1=4
def Qec_ (hm:XC_ sg) {i:Nat} (h:((Qx_ sg st i).2.1.toList==[41])=τ\/((Qx_ sg st i).2.1.toList==[61,62])=τ\/((Qx_ sg st i).2.1.toList==[44])=τ):(Qx_ sg st i).1=4:=by
 have a:∀c:List UInt8,c≠[]->¬(sgZero.2.1.toList==c)=τ:=λc hc e=>by
  have h1:sgZero.2.1.toList=[]:=by rw[ByteArray.toList_eq]
  rw[h1]at e;exact hc (eq_of_beq e).symm
 unfold Qx_ at h |-
 cases st with
 |none=>
  rcases h with h|h|h
  ·exact absurd h<|a _ dc_
  ·exact absurd h<|a _ dc_
  exact absurd h<|a _ dc_
 |some s=>
  simp only at h |-
  cases b:sg[s.at_+i]? with
  |none=>
   rw[b]at h;rcases h with h|h|h
   ·exact absurd h<|a _ dc_
   ·exact absurd h<|a _ dc_
   exact absurd h<|a _ dc_
  |some d=>
   rw[b]at h;exact hm d (lm_ b) h
end
def x0_ (sg:List SgP) (p:Nat):Prop:=∃d,sg[p]? =σ d/\d.1=4/\(d.2.1.toList==[44])=τ
def xZ_ (p:Nat) (st:RdSt):Prop:=∀s,st=σ s->s.at_=p
section
variable {sg:List SgP} {p:Nat} {st:RdSt} {E:Md->Nat->RdSt->PR} {N:Nat}
def Qf7_ (hs:x0_ sg p) (hn:xZ_ p st) (h:st≠ν):(Qx_ sg st 0).1=4/\(Qx_ sg st 0).2.1.toList=[44]:=by
 obtain⟨d,h1,h2,h3⟩:=hs
 cases st with
 |none=>exact absurd rfl h
 |some s=>
  have:=hn s rfl;subst this;unfold Qx_;simp only[Nat.add_zero];rw[h1];exact⟨h2,eq_of_beq h3⟩
def Yw_ (hs:x0_ sg p) (hn:xZ_ p st) (hm:m.toList≠[44]):isM sg st m=φ:=by
 by_cases h:st=ν
 ·subst h;rfl
 unfold isM;rw[(Qf7_ hs hn h).2];have:([44]==m.toList)=φ:=by rw[bn_];exact λe=>hm e.symm
 rw[this,φb]
def Y1_ {l:List UInt8} (h:l≠[44]):(⟨l.toArray⟩:BA).toList≠[44]:=by rw[ByteArray.toList_eq];simpa using h
def xj_:xZ_ p ν:=λs e=>by cases e
def Qcb_ (hs:x0_ sg p) (hn:xZ_ p st):∀l:List BA,(∀m∈l,m.toList≠[44])->Zz_ sg st l=noT:=by
 intro l
 induction l with
 |nil=>intro _;rfl
 |cons a l ih=>
  intro h;unfold Zz_;rw[Yw_ hs hn (h a sm_),in_ dc_];exact ih (λm hm=>h m (by simp[hm]))
def QfE_ (l:Nat):∀m∈Zg_ l,m.toList≠[44]:=by
 unfold Zg_;intro m a;split at a
 ·simp at a;subst a;exact Y1_ (l:=[124,124]) dc_
 split at a
 ·simp at a;subst a;exact Y1_ (l:=[38,38]) dc_
 split at a
 ·simp at a;subst a;exact Y1_ (l:=[61,61]) dc_
 split at a
 ·simp at a;subst a;exact Y1_ (l:=[60]) dc_
 split at a
 ·simp at a;rcases a with rfl|rfl
  ·exact Y1_ (l:=[43]) dc_
  exact Y1_ (l:=[45]) dc_
 simp at a;subst a;exact Y1_ (l:=[42]) dc_
def vc_ (hs:x0_ sg p) (hn:xZ_ p st) (one:RdSt->PR) (l n:Nat) (k:Int):Zw_ sg one l N n k st=(k,st):=by
 cases n with
 |zero=>rfl
 |succ n=>unfold Zw_;rw[show KY_ sg st l=noT from Qcb_ hs hn _ (QfE_ l)];exact ip_ X8_
def Qev_ (hs:x0_ sg p) (hn:xZ_ p st) (one:RdSt->PR) (n:Nat) (k:Int):W0_ sg one N n k st=(k,st):=by
 cases n with
 |zero=>rfl
 |succ n=>
  unfold W0_;split
  ·rfl
  rw[Yw_ hs hn (Y1_ (l:=[40]) dc_),in_ dc_,Yw_ hs hn (Y1_ (l:=[46]) dc_),in_ dc_]
def Md.val:Md->Bool
 |.stmt _=>φ
 |.block=>φ
 |_=>τ
def k7_ {s:PS} (hp:s.at_+1=p):xZ_ p (YG_ sg k (σ s)).2:=by
 intro t a;unfold YG_ KP_ at a;simp only at a;split at a
 ·cases a
 have:=oi_ a;rw[<-this];exact hp
def vj_ {s:PS} (hs:x0_ sg (s.at_+1)) (hn:Kp_ sg (σ s) 0=τ):∀(f:Nat) (m:Md) (d:Nat),m.val=τ->xZ_ (s.at_+1) (Qd_ sg N f m d (σ s)).2:=by
 intro f
 induction f with
 |zero=>intro m d _;exact xj_
 |succ f a=>
  intro m d hm;show xZ_ _ (Qb8_ sg (Qd_ sg N f) N m d (σ s)).2
  cases m with
  |value=>
   show xZ_ _ (Xi_ sg (Qd_ sg N f) N d (σ s)).2;unfold Xi_;rw[Yw_ hs (a .pick d rfl) (Y1_ (l:=[46,46]) dc_),in_ dc_];exact a .pick d rfl
  |pick=>
   show xZ_ _ (Vq_ sg (Qd_ sg N f) d (σ s)).2;have hq:xZ_ (s.at_+1) (Qd_ sg N f (.chain 0) (d+1) (KI_ d (σ s))).2:=by
    unfold KI_;split
    ·rw[Xy_];exact xj_
    exact a (.chain 0) (d+1) rfl
   unfold Vq_;simp only;rw[Yw_ hs hq (Y1_ (l:=[63]) dc_),in_ dc_];exact hq
  |chain l=>
   show xZ_ _ (Xc_ sg (Qd_ sg N f) N l d (σ s)).2;unfold Xc_;split
   ·exact a .end_ d rfl
   rw[vc_ hs (a (.chain (l+1)) d rfl)];exact a (.chain (l+1)) d rfl
  |end_=>
   show xZ_ _ (endS sg (Qd_ sg N f) N d (σ s)).2;unfold endS;rw[Qev_ hs (a .base d rfl)];exact a .base d rfl
  |base=>
   show xZ_ _ (YB_ sg (Qd_ sg N f) N d (σ s)).2;have h1:(Qx_ sg (σ s) 0).1=1:=by
    have:=hn;unfold Kp_ at this;simp only[τa]at this;exact eq_of_beq this.1
   unfold YB_;rw[ip_ h1];unfold Qj_;rw[ip_ hn];exact k7_ 1 rfl
  |stmt b=>cases hm
  |block=>cases hm
def QeL_ {s:PS} (h1:(Qx_ sg (σ s) 0).1=1) (hn:Kp_ sg (σ s) 0=φ):∀(f:Nat) (m:Md) (d:Nat),m.val=τ->(Qd_ sg N f m d (σ s)).2=ν:=by
 intro f
 induction f with
 |zero=>intro m d _;rfl
 |succ f a=>
  intro m d hm;show(Qb8_ sg (Qd_ sg N f) N m d (σ s)).2=ν
  cases m with
  |value=>
   show(Xi_ sg (Qd_ sg N f) N d (σ s)).2=ν;unfold Xi_;rw[a .pick d rfl,ZM_,in_ dc_];exact a .pick d rfl
  |pick=>
   show(Vq_ sg (Qd_ sg N f) d (σ s)).2=ν;have hq:(Qd_ sg N f (.chain 0) (d+1) (KI_ d (σ s))).2=ν:=by
    unfold KI_;split
    ·rw[Xy_]
    exact a (.chain 0) (d+1) rfl
   unfold Vq_;simp only;rw[hq,ZM_,in_ dc_];exact hq
  |chain l=>
   show(Xc_ sg (Qd_ sg N f) N l d (σ s)).2=ν;unfold Xc_;split
   ·exact a .end_ d rfl
   rw[a (.chain (l+1)) d rfl,ZX_]
  |end_=>
   show(endS sg (Qd_ sg N f) N d (σ s)).2=ν;unfold endS;rw[a .base d rfl,Ve_]
  |base=>
   show(YB_ sg (Qd_ sg N f) N d (σ s)).2=ν;unfold YB_;rw[ip_ h1];unfold Qj_;rw[hn]
   rfl
  |stmt b=>cases hm
  |block=>cases hm
end
def JC_ (sg:List SgP) (i:Nat):Bool:=
 decide (i+1<η sg)&&(((sg[i]?).getD sgZero).2.1.toList==[41])&&(((sg[i]?).getD sgZero).1==4)&&(((sg[i+1]?).getD sgZero).2.1.toList==[61,62])&&(((sg[i+1]?).getD sgZero).1==4)
def kg_ (sg:List SgP):Nat->Nat->Bool
 |0,i=>JC_ sg i
 |f+1,i=>if i+1<η sg/\((sg[i]?).getD sgZero).1=1 then (if ((sg[i+1]?).getD sgZero).2.1.toList==[44]then kg_ sg f (i+2)else JC_ sg (i+1))else JC_ sg i
def x7_ (sg:List SgP) (st:RdSt):Bool:=isM sg st ⟨#[40]⟩&&(match st with|none=>φ|some s=>kg_ sg (η sg+1) (s.at_+1))
section
variable {sg:List SgP} {s:PS}
def xu_:Qx_ sg (σ s) i=(sg[s.at_+i]?).getD sgZero:=rfl
def QeQ_ {c:List UInt8} (hc:c≠[]):¬(sgZero.2.1.toList==c)=τ:=λe=>by
 have h1:sgZero.2.1.toList=[]:=by rw[ByteArray.toList_eq]
 rw[h1]at e;exact hc (eq_of_beq e).symm
def vh_ {c:List UInt8} (hc:c≠[]) (h:(((sg[d]?).getD sgZero).2.1.toList==c)=τ):d<η sg:=by
 rcases Nat.lt_or_ge d (η sg) with hl|hl
 ·exact hl
 rw[List.getElem?_eq_none hl]at h;exact absurd h<|QeQ_ hc
def Gt_ (hm:XC_ sg) {i:Nat} (h:(((sg[i]?).getD sgZero).2.1.toList==[41])=τ\/(((sg[i]?).getD sgZero).2.1.toList==[61,62])=τ\/(((sg[i]?).getD sgZero).2.1.toList==[44])=τ):((sg[i]?).getD sgZero).1=4:=by
 have:=Qec_ (sg:=sg) (st:=σ ⟨i,[]⟩) hm (i:=0) (by simpa[Qx_]using h);simpa[Qx_]using this
def fnT (sg:List SgP) (st:RdSt) (f i:Nat):Bool:=((Qx_ sg st (fnF sg st f i)).2.1.toList==[41])&&((Qx_ sg st (fnF sg st f i+1)).2.1.toList==[61,62])
def V0_ (hm:XC_ sg) (i:Nat):JC_ sg i=((((sg[i]?).getD sgZero).2.1.toList==[41])&&(((sg[i+1]?).getD sgZero).2.1.toList==[61,62])):=by
 unfold JC_
 cases h1:(((sg[i]?).getD sgZero).2.1.toList==[41])with
 |false=>simp
 |true=>
  cases h2:(((sg[i+1]?).getD sgZero).2.1.toList==[61,62])with
  |false=>simp
  |true=>
   rw[Gt_ hm (.inl h1),Gt_ hm (.inr (.inl h2)),dt_ (vh_ dc_ h2)]
   rfl
def Qid_ (g:XC_ sg):∀(f i:Nat),fnT sg (σ s) f i=τ->kg_ sg f (s.at_+i)=τ:=by
 intro f
 induction f with
 |zero=>
  intro i h;unfold kg_;rw[V0_ g];exact h
 |succ f ih=>
  intro i h;unfold fnT fnF at h;unfold kg_
  cases b:Kp_ sg (σ s) i with
  |false=>
   rw[b,in_ dc_]at h;have hk:¬(s.at_+i+1<η sg/\((sg[s.at_+i]?).getD sgZero).1=1):=λe=>by
    have h1:(Qx_ sg (σ s) i).1=4:=Qec_ g<|.inl (by simp only[τa]at h;exact h.1);rw[xu_]at h1;omega
   rw[in_ hk,V0_ g];exact h
  |true=>
   rw[b,ip_ rfl]at h;have h1:((sg[s.at_+i]?).getD sgZero).1=1:=by
    unfold Kp_ at b;simp only[τa]at b;exact eq_of_beq b.1
   cases d:((Qx_ sg (σ s) (i+1)).2.1.toList==[44])with
   |true=>
    have a:(((sg[s.at_+i+1]?).getD sgZero).2.1.toList==[44])=τ:=d;rw[d,ip_ rfl]at h;rw[ip_ ⟨vh_ dc_ a,h1⟩,a,ip_ rfl];exact ih (i+2) h
   |false=>
    have a:(((sg[s.at_+i+1]?).getD sgZero).2.1.toList==[44])=φ:=d;rw[d,in_ dc_]at h;have hl:s.at_+i+1<η sg:=by
     simp only[τa]at h;exact vh_ (c:=[41]) dc_ h.1
    rw[ip_ ⟨hl,h1⟩,a,in_ dc_,V0_ g];exact h
def kM_:isM sg ν m=φ:=rfl
def Qe7_ (h:XC_ sg):∀(n f i:Nat) (ks:LI) (a:List PN),kg_ sg f (s.at_+i)=τ->fnT sg (σ s) f i=φ->
  Qn_ sg (QG_ sg (Qj_ sg) ⟨#[41]⟩ n ks (σ ⟨s.at_+i,a⟩)).2 ⟨#[41]⟩=ν:=by
 intro n
 induction n with
 |zero=>
  intro f i ks a b c;unfold QG_;refine GK_ ?_
  cases l:isM sg (σ ⟨s.at_+i,a⟩) ⟨#[41]⟩with
  |false=>rfl
  |true=>
   exfalso;unfold isM at l;simp only[τa]at l;have o:(Qx_ sg (σ s) i).1=4:=eq_of_beq l.1;have d:Kp_ sg (σ s) i=φ:=(by unfold Kp_;rw[o];rfl);have m:¬(s.at_+i+1<η sg/\((sg[s.at_+i]?).getD sgZero).1=1):=λe=>by rw[xu_]at o;omega
   cases f with
   |zero=>unfold kg_ at b;rw[V0_ h]at b;exact absurd (c.symm.trans b) dc_
   |succ f=>
    unfold kg_ at b;rw[in_ m,V0_ h]at b;unfold fnT fnF at c;rw[d,in_ dc_]at c;exact absurd (c.symm.trans b) dc_
 |succ n ih=>
  intro f i ks a b c;unfold QG_;rw[in_ (show ¬(σ (⟨s.at_+i,a⟩:PS)).isNone=τ by simp)]
  cases f with
  |zero=>unfold kg_ at b;rw[V0_ h]at b;exact absurd (c.symm.trans b) dc_
  |succ f=>
   unfold kg_ at b;unfold fnT fnF at c;have hq:Qx_ sg (σ ⟨s.at_+i,a⟩) 0=(sg[s.at_+i]?).getD sgZero:=rfl;by_cases m:s.at_+i+1<η sg/\((sg[s.at_+i]?).getD sgZero).1=1
   ·rw[ip_ m]at b;have l:isM sg (σ ⟨s.at_+i,a⟩) ⟨#[41]⟩=φ:=(by unfold isM;rw[hq,m.2];rfl);rw[l,in_ dc_]
    cases d:Kp_ sg (σ s) i with
    |false=>
     have j:Qj_ sg (σ ⟨s.at_+i,a⟩)=(0,ν):=by
      unfold Qj_;rw[show Kp_ sg (σ ⟨s.at_+i,a⟩) 0=Kp_ sg (σ s) i from rfl,d];rfl
     rw[j];simp only[kM_,Bool.false_eq_true,if_false];exact ZH_
    |true=>
     rw[d,ip_ rfl]at c;have j:Qj_ sg (σ ⟨s.at_+i,a⟩)=YG_ sg 1 (σ ⟨s.at_+i,a⟩):=by
      unfold Qj_;rw[show Kp_ sg (σ ⟨s.at_+i,a⟩) 0=Kp_ sg (σ s) i from rfl,d];rfl
     rw[j]
     cases hl:(YG_ sg 1 (σ ⟨s.at_+i,a⟩)).2 with
     |none=>
      simp only[kM_,Bool.false_eq_true,if_false];exact ZH_
     |some t=>
      obtain⟨a',r⟩:=t;have q:a'=s.at_+i+1:=k7_ (sg:=sg) 1 (s:=⟨s.at_+i,a⟩) rfl _ hl;subst q
      cases k:(((sg[s.at_+i+1]?).getD sgZero).2.1.toList==[44])with
      |true=>
       rw[k,ip_ rfl]at b;have g:((Qx_ sg (σ s) (i+1)).2.1.toList==[44])=τ:=k;rw[g,ip_ rfl]at c;have p:isM sg (σ ⟨s.at_+i+1,r⟩) ⟨#[44]⟩=τ:=by
        unfold isM;rw[show Qx_ sg (σ ⟨s.at_+i+1,r⟩) 0=(sg[s.at_+i+1]?).getD sgZero from rfl,Gt_ h (.inr (.inr k)),show(⟨#[44]⟩:BA).toList=[44]by rw[ByteArray.toList_eq],k]
        rfl
       rw[ip_ p];exact ih f (i+2) _ r b c
      |false=>
       exfalso;rw[k,in_ dc_,V0_ h]at b;have g:((Qx_ sg (σ s) (i+1)).2.1.toList==[44])=φ:=k;rw[g,in_ dc_]at c;exact absurd (c.symm.trans b) dc_
   exfalso;rw[in_ m,V0_ h]at b
   cases d:Kp_ sg (σ s) i with
   |false=>
    rw[d,in_ dc_]at c;exact absurd (c.symm.trans b) dc_
   |true=>
    have h1:((sg[s.at_+i]?).getD sgZero).1=1:=by
     unfold Kp_ at d;simp only[τa]at d;exact eq_of_beq d.1
    have o:=Gt_ h (i:=s.at_+i)<|.inl (by simp only[τa]at b;exact b.1);omega
end
section
variable {sg:List SgP} {E:Md->Nat->RdSt->PR} {N f:Nat}
def QaF_ (g:XC_ sg) (d:Nat) (st:RdSt) (a:x7_ sg st=τ) (hf:fnB sg st=φ):fnS sg (Qd_ sg N f) N d st=(0,ν)/\parS sg (Qd_ sg N f) d st=(0,ν):=by
 unfold x7_ at a;simp only[τa]at a;obtain⟨k,a⟩:=a
 cases st with
 |none=>cases a
 |some s=>
  simp only at a;have c:fnT sg (σ s) (η sg+1) 1=φ:=hf;constructor
  ·unfold fnS;simp only;rw[Zr_ k];have:=Qe7_ g N (η sg+1) 1 [] s.nodes a c;rw[show Qf_ (σ s)=σ ⟨s.at_+1,s.nodes⟩from rfl,this,ZH_,Xy_]
   rfl
  unfold parS;simp only;have n:Qn_ sg (Qd_ sg N f .value d (Qf_ (σ s))).2 ⟨#[41]⟩=ν:=by
   rw[show Qf_ (σ s)=σ ⟨s.at_+1,s.nodes⟩from rfl];unfold kg_ at a;unfold fnT fnF at c;by_cases j:s.at_+1+1<η sg/\((sg[s.at_+1]?).getD sgZero).1=1
   ·rw[ip_ j]at a
    cases b:Kp_ sg (σ s) 1 with
    |false=>
     rw[QeL_ (s:=⟨s.at_+1,s.nodes⟩) j.2 b f .value d rfl];exact ZH_
    |true=>
     rw[b,ip_ rfl]at c
     cases h:(((sg[s.at_+1+1]?).getD sgZero).2.1.toList==[44])with
     |true=>
      have e:=j.1;have hs:x0_ sg (s.at_+1+1):=by
       refine⟨sg[s.at_+1+1],List.getElem?_eq_getElem e,?_,?_⟩
       ·have:=Gt_ g (i:=s.at_+1+1) (.inr (.inr h));rwa[List.getElem?_eq_getElem e]at this
       rwa[List.getElem?_eq_getElem e]at h
      exact GK_<|Yw_ hs (vj_ (s:=⟨s.at_+1,s.nodes⟩) hs b f .value d rfl)<|Y1_ (l:=[41]) dc_
     |false=>
      exfalso;rw[h,in_ dc_,V0_ g]at a;have m:((Qx_ sg (σ s) (1+1)).2.1.toList==[44])=φ:=h;rw[m,in_ dc_]at c;exact absurd (c.symm.trans a) dc_
   exfalso;rw[in_ j,V0_ g]at a
   cases b:Kp_ sg (σ s) 1 with
   |false=>
    rw[b,in_ dc_]at c;exact absurd (c.symm.trans a) dc_
   |true=>
    have h1:((sg[s.at_+1]?).getD sgZero).1=1:=by
     unfold Kp_ at b;simp only[τa]at b;exact eq_of_beq b.1
    have h4:=Gt_ g (i:=s.at_+1)<|.inl (by simp only[τa]at a;exact a.1);omega
  rw[n]
  rfl
def Qe8_ (hm:XC_ sg) (st:RdSt) (a:isM sg st ⟨#[40]⟩=τ) (hf:fnB sg st=τ):x7_ sg st=τ:=by
 unfold x7_;rw[a,τb]
 cases st with
 |none=>exact absurd a (by rw[ZM_];decide)
 |some s=>exact Qid_ hm _ 1 hf
end
structure RC where
 imp:Bool
 T:Nat
 A:OA
 n:Nat
 c:Nat
 sz:Int
 M:Υ
 sg:List SgP
 w0:Ω
 U:Nat->Prop
def RC.ty (R:RC):TypeId:=if R.imp=τ then 117 else 82
def RC.cells (R:RC) (a d:Nat) (b:Bool) (v:Υ):Array Υ:=
 if R.imp=τ then #[S_ R.A R.n R.c,I_ j_ R.sz,I_ j_ a,I_ j_ d,B_ b,v,R.M]else #[S_ R.A R.n R.c,I_ j_ a,B_ b,I_ j_ d,v]
structure RC.Ok (R:RC):Prop where
 len:η R.sg=R.n
 most:R.n<=3000
 rd:Rd R.w0 4 R.A R.n (R.sg.flatMap ZP_)
 low:R.w0.heap.size<=R.T
def RC.ty_node (R:RC):R.ty≠96:=by unfold RC.ty;cases R.imp<;>decide
def RC.ty_int (R:RC):R.ty≠3:=by unfold RC.ty;cases R.imp<;>decide
def RdC (R:RC) (a d:Nat) (b:Bool) (AN:OA) (cN:Nat) (l:List Nd) (w:Ω):Prop:=
 Blk w R.T R.ty (R.cells a d b (S_ AN (η l) cN))/\Mine w R.w0.heap.size 96 4 AN (η l) cN (l.flatMap Qv_)/\((∀x∈l,KidsIn w R.w0.heap.size R.U x)/\∀g,R.U g->g<w.heap.size)/\η l<=300/\a<=R.n/\Below R.w0.heap.size R.w0 w/\R.Ok
def StOk:RdSt->Bool->Nat->List Nd->Prop
 |none,b,_,_=>b=τ
 |some s,b,a,l=>b=φ/\s.at_=a/\s.nodes=l.map Nd.pn
def RdI (R:RC) (d:Nat) (st:RdSt) (row:ON) (w:Ω):Prop:=
 ∃a b AN cN l,RdC R a d b AN cN l w/\StOk st b a l/\row=AN.map (·.block)
def Kr (T:Nat) (row:ON) (w:Ω) (row':ON) (w':Ω):Prop:=
 w.heap.size<=w'.heap.size/\(row'=row\/∃g,row'=σ g/\w.heap.size<=g)/\∀g,g<w.heap.size->g≠T->σ g≠row->w'.heap[g]? =w.heap[g]?
section
variable {T:Nat} {row row' row2:ON} {w w' w2:Ω}
def Kr.refl (T:Nat) (row:ON) (w:Ω):Kr T row w row w:=⟨lr_ _,.inl rfl,λ_ _ _ _=>rfl⟩
def Kr.trans (h:Kr T row w row' w') (k:Kr T row' w' row2 w2):Kr T row w row2 w2:=by
 obtain⟨h1,h2,h3⟩:=h;obtain⟨k1,k2,k3⟩:=k;refine⟨lt_ h1 k1,?_,λg a ht hr=>?_⟩
 ·rcases k2 with rfl|⟨g,rfl,a⟩
  ·exact h2
  exact .inr ⟨g,rfl,lt_ h1 a⟩
 refine(k3 g oo ht ?_).trans (h3 g a ht hr);rcases h2 with rfl|⟨g2,rfl,b⟩
 ·exact hr
 intro e;injection e with e;omega
def Kr.below (h:Kr T row w row' w') (hb:Below w'.heap.size w' w2):Kr T row w row' w2:=
 h.trans ⟨hb.size,.inl rfl,λg hg _ _=>hb.block g hg⟩
def Kr.of_below (hb:Λ w w2):Kr T row w row w2:=(Kr.refl T row w).below hb
def Kr.size (h:Kr T row w row' w'):w.heap.size<=w'.heap.size:=h.1
def Blk.kr {g:Nat} {t:TypeId} {cs:Array Υ} (h:Blk w g t cs) (k:Kr T row w row' w') (h1:g≠T) (h2:σ g≠row):Blk w' g t cs:=(k.2.2 g h.lt h1 h2).trans h
def Kr.fresh (k:Kr T row w row' w') (h:σ d≠row) (hg:d<w.heap.size):σ d≠row':=by
 rcases k.2.1 with rfl|⟨g2,rfl,h2⟩
 ·exact h
 intro e;injection e with e;omega
end
def Yv_ {A:SgP} (h:Rd w 4 u d (r.flatMap ZP_)) (hk:f<d) (hd:r[f]? =σ A):
  ∃b off,u=σ ⟨b,off,ν⟩/\b<w.heap.size/\w.cell? ⟨b,off+f*4,ν⟩=σ (I_ j_ A.1)/\w.cell? ⟨b,off+f*4+1,ν⟩=σ (T_ A.2.1)/\w.cell? ⟨b,off+f*4+2,ν⟩=σ (I_ j_ A.2.2.1)/\w.cell? ⟨b,off+f*4+3,ν⟩=σ (B_ A.2.2.2):=by
 obtain⟨b,off,rfl,hb,hc⟩:=h.at_ oo;have g:=λ(j:Nat) (v:Υ) (hj:(ZP_ A)[j]? =σ v)=>hc (f*4+j) v (Kw_ ZP_ jU_ hd hj)
 exact⟨b,off,rfl,hb,g 0 _ rfl,g 1 _ rfl,g 2 _ rfl,g 3 _ rfl⟩
section
variable {R:RC} {a d:Nat} {b:Bool} {AN:OA} {cN:Nat} {l:List Nd} {st:RdSt} {row row':ON} {w w':Ω}
def RdC.next (h:RdC R a d b AN cN l w) (c:Λ w w'):RdC R a d b AN cN l w':=by
 obtain⟨h1,h2,h3,h4,h5,h6,h7⟩:=h;exact⟨h1.next c,h2.next c,⟨λx hx=>(h3.1 x hx).next c,λg hg=>ll_ (h3.2 g hg) c.size⟩,h4,h5,Qb_ h6 c,h7⟩
def RdI.next (h:RdI R d st row w) (hb:Λ w w'):RdI R d st row w':=by
 obtain⟨a,b,AN,cN,l,h1,h2⟩:=h;exact⟨a,b,AN,cN,l,h1.next hb,h2⟩
def RdI.alloc (h:RdI R d st row w) (o:Obj):RdI R d st row (w.alloc o):=h.next (br.alloc (lr_ _) o)
def RdI.lt (h:RdI R d st row w):R.T<w.heap.size:=by obtain⟨a,b,AN,cN,l,h1,h2⟩:=h;exact h1.1.lt
def RdI.ok (h:RdI R d st row w):R.Ok:=by obtain⟨a,b,AN,cN,l,⟨_,_,_,_,_,_,h1⟩,h2⟩:=h;exact h1
def RdI.old (h:RdI R d st row w):Below R.w0.heap.size R.w0 w:=by obtain⟨a,b,AN,cN,l,⟨_,_,_,_,_,h1,_⟩,h2⟩:=h;exact h1
def RdI.le (h:RdI R d st row w) {s:PS} (e:st=σ s):s.at_<=R.n/\η s.nodes<=300:=by
 subst e;obtain⟨a,b,AN,cN,l,⟨_,_,_,h4,h5,_,_⟩,⟨_,rfl,h2⟩,_⟩:=h;exact⟨h5,by rw[h2,List.length_map];exact h4⟩
def RdC.rowB (h:RdC R a d b AN cN l w) {g:Nat} (hg:σ g=AN.map (·.block)):∃cs,Blk w g 96 cs:=Qw_ h.2.1 hg.symm
def RdI.rowB (h:RdI R d st row w) {g:Nat} (hg:σ g=row):∃cs,Blk w g 96 cs:=by
 obtain⟨a,b,AN,cN,l,h1,h2,rfl⟩:=h;exact h1.rowB hg
def RdI.row_lt (h:RdI R d st row w) {g:Nat} (hg:σ g=row):g<w.heap.size:=by
 obtain⟨cs,hk⟩:=h.rowB hg;exact hk.lt
def RdI.keep (h:RdI R d st row w) (k:Kr R.T row w row' w') {g:Nat} {t:TypeId} {cs:Array Υ} (c:Blk w g t cs) (h1:t≠R.ty) (h2:t≠96):Blk w' g t cs:=by
 obtain⟨a,b,AN,cN,l,hc,_,hr⟩:=id h;refine c.kr k (Kj_ c hc.1 h1) (λe=>?_);obtain⟨i,f⟩:=h.rowB e;exact Kj_ c f h2 rfl
def RdI.keepM (h:RdI R d st row w) (k:Kr R.T row w row' w') {B:Nat} {t:TypeId} {s:Nat} {A:OA} {n c:Nat} {xs:List Υ} (hm:Mine w B t s A n c xs) (h1:t≠R.ty) (h2:t≠96):Mine w' B t s A n c xs:=by
 have hl:=hm.len;rcases hm.own with⟨rfl,rfl,rfl⟩|⟨g,rfl,hB,hn,hc,rest,hb,hs⟩
 ·exact⟨hl,.inl ⟨rfl,rfl⟩⟩
 exact Mine.mk_own ⟨rest,h.keep k hb h1 h2,hs⟩ hl hB hn hc
def RdI.keepI (h:RdI R d st row w) (k:Kr R.T row w row' w') {B:Nat} (hm:Mine w B 3 1 u f n s):Mine w' B 3 1 u f n s:=h.keepM k hm (Ne.symm R.ty_int) dc_
def RdC.set (h:RdC R a d b AN cN l w) {i:Nat} {u:Υ} {a' d':Nat} {b':Bool} (he:(R.cells a d b (S_ AN (η l) cN)).setIfInBounds i u=R.cells a' d' b' (S_ AN (η l) cN)) (ha:a'<=R.n):
  RdC R a' d' b' AN cN l (w.setCell ⟨R.T,i,ν⟩ u)/\Kr R.T (AN.map (·.block)) w (AN.map (·.block)) (w.setCell ⟨R.T,i,ν⟩ u):=by
 obtain⟨h1,h2,c,h4,h5,h6,h7⟩:=h;refine⟨⟨?_,Qt_ h2 h1 (Ne.symm R.ty_node) _ _,⟨λx hx=>⟨(c.1 x hx).1,Qt_ (c.1 x hx).2 h1 (Ne.symm R.ty_int) _ _⟩,λg hg=>by simpa[World.setCell]using c.2 g hg⟩,h4,ha,h6.setCell h7.low _,h7⟩,?_⟩
 ·have:=h1.set_ i u;rw[he]at this;exact this
 exact⟨by simp[World.setCell],.inl rfl,λg hg ht _=>Below.heap_setCell w ⟨R.T,i,ν⟩ u g ht⟩
def RdC.push (h:RdC R a d b AN cN l w) (x:Nd) (hx:KidsIn w R.w0.heap.size R.U x) (hl:η l<300) {w1:Ω} (c:Λ w w1) {i:Nat} {v':Υ} {w3:Ω}
  (z:w3.ownsRow R.w0.heap.size 96 4 v' (η l+1) (l.flatMap Qv_++Qv_ x)) (k:w1.grownBy w3 (S_ AN (η l) cN).ownBlock) (m:v'.ownBlock=(S_ AN (η l) cN).ownBlock\/v'.ownBlock=σ w1.heap.size)
  (he:(R.cells a d b (S_ AN (η l) cN)).setIfInBounds i v'=R.cells a d b v'):
  ∃A3 c3,v'=S_ A3 (η l+1) c3/\RdC R a d b A3 c3 (l++[x]) (w3.setCell ⟨R.T,i,ν⟩ v')/\Kr R.T (AN.map (·.block)) w (A3.map (·.block)) (w3.setCell ⟨R.T,i,ν⟩ v'):=by
 have h0:=h;have hC:=h.next c;obtain⟨h1,h2,h3,h4,h5,h6,h7⟩:=hC;rw[Q3_]at k m;have v:∀g t cs,Blk w1 g t cs->t≠96->σ g≠AN.map (·.block):=λg t cs hk G e=>by
  obtain⟨H,F⟩:=Qw_ h2 e.symm;exact Kj_ hk F G rfl
 have j:Blk w3 R.T R.ty (R.cells a d b (S_ AN (η l) cN)):=h1.grown k (v _ _ _ h1 R.ty_node);have q:∀(y:Nd),KidsIn w1 R.w0.heap.size R.U y->KidsIn w3 R.w0.heap.size R.U y:=λy f=>by
  refine⟨f.1,?_⟩;have r:=f.2.len;rcases f.2.own with⟨B,e2,e3⟩|⟨g',B,hB,hn,hc,rest,n,hs⟩
  ·rw[B,e2,e3];exact⟨by rw[r,e2],.inl ⟨rfl,rfl⟩⟩
  rw[B];exact Mine.mk_own ⟨rest,n.grown k (v _ _ _ n dc_),hs⟩ r hB hn hc
 obtain⟨A3,c3,rfl,m3⟩:=Mine.of z;rw[Q3_]at m;have s:(l++[x]).length=η l+1:=by simp
 have C:(l++[x]).flatMap Qv_=l.flatMap Qv_++Qv_ x:=by simp
 have o:Below R.w0.heap.size R.w0 w3:=h6.grown k h6.size (λg E=>(Mine.blk h2 E).1);refine⟨A3,c3,rfl,⟨?_,?_,?_,oo,h5,o.setCell h7.low _,h7⟩,?_⟩
 ·have:=j.set_ i (S_ A3 (η l+1) c3);rw[he]at this;rw[s];exact this
 ·rw[s,C];exact Qt_ m3 j (Ne.symm R.ty_node) _ _
 ·refine⟨λy f=>?_,λg D=>by have:=h3.2 g D;have:=k.size;simp only[World.setCell,Array.size_modify];omega⟩;have A:KidsIn w3 R.w0.heap.size R.U y:=by
   rcases List.mem_append.1 f with f|f
   ·exact q y<|h3.1 y f
   obtain rfl:=ms1_.1 f;exact q y<|hx.next c
  exact⟨A.1,Qt_ A.2 j (Ne.symm R.ty_int) _ _⟩
 refine⟨lt_ c.size (lt_ k.size (by simp[World.setCell])),?_,λg p G hr=>?_⟩
 ·rcases m with e|e
  ·exact .inl e
  exact .inr ⟨_,e,c.size⟩
 rw[Below.heap_setCell w3 ⟨R.T,i,ν⟩ _ g G,k.block g (ll_ p c.size) hr,c.block g p]
end
def RC.Lo (R:RC) (B:Nat):Prop:=R.w0.heap.size<=B/\∀g,R.U g->g<B
def RdI.lo {R:RC} {st:RdSt}   (h:RdI R d st v w):R.Lo w.heap.size:=by
 obtain⟨a,b,AN,cN,l,⟨_,_,h3,_,_,h6,_⟩,_⟩:=h;exact⟨h6.size,h3.2⟩
abbrev RC.res (R:RC) (A:OA):RC:={ R with U:=λx=>R.U x\/A.map (·.block)=σ x }
def RdC.kids_lt {R:RC} {l:List Nd}  (h:RdC R d f q u n l w) {x:Nd} (hx:x∈l)  (hg:x.adr.map (·.block)=σ j):j<w.heap.size:=(Mine.blk (h.2.2.1.1 x hx).2 hg).2
def RdI.res_new {R:RC} {st:RdSt}   (h:RdI R d st v w) (hb:Λ w y) {A:OA} (hA:∀g,A.map (·.block)=σ g->w.heap.size<=g/\g<y.heap.size):RdI (R.res A) d st v y:=by
 obtain⟨a,b,AN,cN,l,hc,h2⟩:=h;have hk:∀x∈l,∀g,x.adr.map (·.block)=σ g->g<w.heap.size:=λx e g c=>hc.kids_lt e c
 obtain⟨c1,c2,c3,c4,c5,c6,i⟩:=hc.next hb;refine⟨a,b,AN,cN,l,⟨c1,c2,⟨λx e=>⟨⟨(c3.1 x e).1.1,λg c f=>?_⟩,(c3.1 x e).2⟩,λg c=>?_⟩,c4,c5,c6,⟨i.len,i.most,i.rd,i.low⟩⟩,h2⟩
 ·rcases f with f|f
  ·exact(c3.1 x e).1.2 g c f
  have:=hk x e g c;have:=(hA g f).1;omega
 rcases c with c|c
 ·exact c3.2 g c
 exact(hA g c).2
def RdI.unres {R:RC} {st:RdSt}    (h:RdI (R.res u) d st v w):RdI R d st v w:=by
 obtain⟨a,b,AN,cN,l,⟨c1,c2,c3,c4,c5,c6,c⟩,h2⟩:=h;exact⟨a,b,AN,cN,l,⟨c1,c2,⟨λx f=>⟨⟨(c3.1 x f).1.1,λg e hu=>(c3.1 x f).1.2 g e (.inl hu)⟩,(c3.1 x f).2⟩,λg e=>c3.2 g (.inl e)⟩,c4,c5,c6,⟨c.len,c.most,c.rd,c.low⟩⟩,h2⟩
def Kr.grown {r:ON} {w w' w3:Ω} (h:Kr d v w x w') (hg:w'.grownBy w3 r) (hr:∀g,r=σ g->w.heap.size<=g):Kr d v w x w3:=
 ⟨lt_ h.1 hg.size,h.2.1,λg a ht b=>(hg.block g (ll_ a h.1) (λe=>by have:=hr g e.symm;omega)).trans (h.2.2 g a ht b)⟩
def RdI.appended {R:RC} {st:RdSt}    {c:Nat} {ys:List Υ} {v':Υ} (h:RdI (R.res u) d st v w) (hm:Mine w f 3 1 u n c s) (hB:R.w0.heap.size<=f) (r:Λ w y)
  (E:z.ownsRow f 3 1 v' j ys) (A:y.grownBy z (S_ u n c).ownBlock) (n':v'.ownBlock=(S_ u n c).ownBlock\/v'.ownBlock=σ y.heap.size):
  ∃A' c',v'=S_ A' j c'/\RdI (R.res A') d st v z/\Mine z f 3 1 A' j c' ys:=by
 obtain⟨A',c',rfl,m3⟩:=Mine.of E;rw[Q3_]at A n';rw[Q3_]at n';obtain⟨a,b,AN,cN,l,hc,h2⟩:=h;have H:∀x∈l,∀g,x.adr.map (·.block)=σ g->g<w.heap.size:=λx row g A=>hc.kids_lt row A
 have J:=hm.next r;obtain⟨c1,c2,c3,c4,c5,c6,F⟩:=hc.next r;have D:∀g t cs,Blk y g t cs->t≠3->σ g≠u.map (·.block):=λg t cs H ht e=>by
  obtain⟨M,I⟩:=Qw_ J e.symm;exact Kj_ H I ht rfl
 have C:∀g,u.map (·.block)=σ g->f<=g:=λg q=>(Mine.blk hm q).1
 refine⟨A',c',rfl,⟨a,b,AN,cN,l,⟨c1.grown A (D _ _ _ c1 R.ty_int),?_,⟨λx row=>⟨⟨(c3.1 x row).1.1,λg A w1=>?_⟩,?_⟩,λg i=>?_⟩,c4,c5,?_,⟨F.len,F.most,F.rd,F.low⟩⟩,h2⟩,m3⟩
 ·have B:=c2.len;rcases c2.own with⟨m,w3,G⟩|⟨g',m,o,K,p,rest,k,hs⟩
  ·rw[m,w3,G];exact⟨by rw[B,w3],.inl ⟨rfl,rfl⟩⟩
  rw[m];exact Mine.mk_own ⟨rest,k.grown A (D _ _ _ k dc_),hs⟩ B o K p
 ·rcases w1 with w1|w1
  ·exact(c3.1 x row).1.2 g A (.inl w1)
  rcases n' with e|e
  ·exact(c3.1 x row).1.2 g A (.inr (by rw[<-e];exact w1))
  have:=H x row g A;rw[w1]at e;injection e with e;have:=r.size;omega
 ·have L:=(c3.1 x row);have B:=L.2.len;rcases L.2.own with⟨m,w3,G⟩|⟨g',m,o,K,p,rest,k,hs⟩
  ·rw[m,w3,G];exact⟨by rw[B,w3],.inl ⟨rfl,rfl⟩⟩
  rw[m];refine Mine.mk_own ⟨rest,k.grown A (λe=>?_),hs⟩ B o K p;exact L.1.2 g' (by rw[m];rfl)<|.inr e.symm
 ·rcases i with i|i
  ·have:=c3.2 g (.inl i);have:=A.size;omega
  exact(Mine.blk m3 i).2
 exact c6.grown A c6.size (λg q=>lt_ hB (C g q))
def QA_ (R:RC) (d:Nat) (row:ON) (w:Ω) (v:Υ) (st':RdSt) (e:Ending) (w':Ω):Prop:=e=R_ v/\∃row',RdI R d st' row' w'/\Kr R.T row w row' w'
section
variable {R:RC} {a d:Nat} {b:Bool} {AN:OA} {cN:Nat} {l:List Nd} {st:RdSt} {s:PS} {row:ON} {w:Ω}
def RdC.ci (hi:R.imp=τ) (h:RdC R a d b AN cN l w):
  w.cell? ⟨R.T,0,ν⟩=σ (S_ R.A R.n R.c)/\w.cell? ⟨R.T,2,ν⟩=σ (I_ j_ a)/\w.cell? ⟨R.T,3,ν⟩=σ (I_ j_ d)/\w.cell? ⟨R.T,4,ν⟩=σ (B_ b)/\w.cell? ⟨R.T,5,ν⟩=σ (S_ AN (η l) cN)/\(∀i,w.frozen? ⟨R.T,i,ν⟩=φ)/\R.T<w.heap.size:=by
 have c:=h.1;unfold RC.cells at c;rw[ip_ hi]at c;exact⟨c.cell 0,c.cell 2,c.cell 3,c.cell 4,c.cell 5,c.frozen,c.lt⟩
def RdI.at1 (hi:R.imp=τ) (hc:RdC R a d b AN cN l w) (hs:StOk (σ s) b a l) (hr:row=AN.map (·.block)) (c:s.at_<R.n):
  RdI R d (Qf_ (σ s)) row (w.setCell ⟨R.T,2,ν⟩ (I_ j_ ((a:Int)+1)))/\Kr R.T row w row (w.setCell ⟨R.T,2,ν⟩ (I_ j_ ((a:Int)+1))):=by
 obtain⟨h1,h2,h3⟩:=hs;have:=hc.set (i:=2) (u:=I_ j_ ((a:Int)+1)) (a':=a+1) (d':=d) (b':=b) (by unfold RC.cells;rw[ip_ hi,ip_ hi];simp) oo;rw[hr];exact⟨⟨a+1,b,AN,cN,l,this.1,⟨h1,(show s.at_+1=a+1 by rw[h2]),h3⟩,rfl⟩,this.2⟩
def RdI.bad1 (hi:R.imp=τ) (hc:RdC R a d b AN cN l w) (hr:row=AN.map (·.block)):
  RdI R d ν row (w.setCell ⟨R.T,4,ν⟩ (B_ τ))/\Kr R.T row w row (w.setCell ⟨R.T,4,ν⟩ (B_ τ)):=by
 have:=hc.set (i:=4) (u:=B_ τ) (a':=a) (d':=d) (b':=τ) (by unfold RC.cells;rw[ip_ hi,ip_ hi];simp) hc.2.2.2.2.1;rw[hr];exact⟨⟨a,τ,AN,cN,l,this.1,rfl,rfl⟩,this.2⟩
def RdI.nest1 (hi:R.imp=τ) (hc:RdC R a d b AN cN l w) (hs:StOk st b a l) (hr:row=AN.map (·.block)) {u:Int} {d':Nat} (hu:u=(d':Int)):
  RdI R d' st row (w.setCell ⟨R.T,3,ν⟩ (I_ j_ u))/\Kr R.T row w row (w.setCell ⟨R.T,3,ν⟩ (I_ j_ u)):=by
 subst hu;have:=hc.set (i:=3) (u:=I_ j_ (d':Int)) (a':=a) (d':=d') (b':=b) (by unfold RC.cells;rw[ip_ hi,ip_ hi];simp) hc.2.2.2.2.1;rw[hr];exact⟨⟨a,b,AN,cN,l,this.1,hs,rfl⟩,this.2⟩
def GE_ {i:Nat} {x:SgP} (h:r[s.at_+i]? =σ x):Qx_ r (σ s) i=x:=by unfold Qx_;simp only;rw[h];rfl
def ZO_ {i:Nat} (h:η r<=s.at_+i):Qx_ r (σ s) i=sgZero:=by unfold Qx_;simp only;rw[List.getElem?_eq_none h];rfl
def Xe_ (h:isM r st m=τ):∃s,st=σ s/\s.at_<η r:=by
 cases st with
 |none=>exact absurd h (by rw[ZM_];decide)
 |some s=>
  refine⟨s,rfl,?_⟩;rcases Nat.lt_or_ge s.at_ (η r) with hl|hl
  ·exact hl
  unfold isM at h;rw[ZO_ (i:=0) hl,show(sgZero.1==4)=φ from rfl,φa]at h;exact absurd h dc_
def Z7_ {i:Nat} (h:Kp_ r st i=τ):∃s,st=σ s/\s.at_+i<η r:=by
 cases st with
 |none=>exact absurd h (by rw[zH_];decide)
 |some s=>
  refine⟨s,rfl,?_⟩;rcases Nat.lt_or_ge (s.at_+i) (η r) with hl|hl
  ·exact hl
  unfold Kp_ at h;rw[ZO_ hl,show(sgZero.1==1)=φ from rfl,φa]at h;exact absurd h dc_
end
def q9_:(Instr.field 89 (A_ #[I_ j_ k,T_ t,I_ j_ p,B_ b]) 0).run π a=.ok (I_ j_ k) a:=by simp[Instr.field,asAgg,go_sem]
def ky_:(Instr.field 89 (A_ #[I_ j_ k,T_ t,I_ j_ p,B_ b]) 1).run π a=.ok (T_ t) a:=by simp[Instr.field,asAgg,go_sem]
def fld3:(Instr.field 89 (A_ #[I_ j_ k,T_ t,I_ j_ p,B_ b]) 3).run π a=.ok (B_ b) a:=by simp[Instr.field,asAgg,go_sem]
def YH_ (R:RC) (hi:R.imp=τ) (d:Nat) (st:RdSt) (row:ON) (i:Nat) (w:Ω) (hI:RdI R d st row w) (hn:i<=100000):
  Δ π 168 #[P_ (σ ⟨R.T,0,ν⟩),I_ j_ i] w (RB_ (A_ #[I_ j_ (Qx_ R.sg st i).1,T_ (Qx_ R.sg st i).2.1,I_ j_ (Qx_ R.sg st i).2.2.1,B_ (Qx_ R.sg st i).2.2.2]) w):=by
 obtain⟨a,b,AN,cN,l,m,q,p⟩:=hI;obtain⟨c0,c2,c3,c4,c5,cf,z⟩:=m.ci hi;obtain⟨I,G,o,J⟩:=m.2.2.2.2.2.2;have j:=m.2.2.2.2.2.1;have L:=m.2.2.2.2.1;have g:=o.below j;have E:Λ w (w.alloc (C_ #[I_ j_ 0,T_ ⟨#[]⟩,I_ j_ 0,B_ φ] 89)):=grow_;have K:=Blk.new w 89 #[I_ j_ 0,T_ ⟨#[]⟩,I_ j_ 0,B_ φ];have k0:=K.q0;have r:=K.q1;have t:=K.q2;have v:=K.q3
 cases st with
 |none=>
  obtain rfl:b=τ:=q;rw[WB_];go_in;go_wp2;go_quiet (fail);go_wp2;refine bodyPost_ret (by simp[results,Tryz.results168,go_sem,k0,r,t,v];try rfl) rfl ?_;exact⟨rfl,grow_⟩
 |some s=>
  obtain⟨rfl,y,n⟩:=q;have M:IntKind.i64.wrap ((a:Int)+(i:Int))=a+i:=IntWalk.i64_in _ oo;by_cases F:a+i<R.n
  ·obtain⟨x,H⟩:∃x,R.sg[a+i]? =σ x:=⟨_,gE oo⟩;have h:Qx_ R.sg (σ s) i=x:=GE_ (by rw[y];exact H);rw[h];obtain⟨b1,off,hA,f,A,B,C,D⟩:=Yv_ g F H;rw[hA]at c0;have g1:(a:Int)+i<R.n:=oo;have g2:¬(R.n:Int)<=(a:Int)+i:=oo;have g3:(0:Int)<=(a:Int)+i:=oo;go_in;go_wp2;go_quiet (fail);go_upto_region 3 with fail
   have c:Λ w ((w.alloc (C_ #[I_ j_ 0,T_ ⟨#[]⟩,I_ j_ 0,B_ φ] 89)).drewN nq):=below_drewN E nq;have k:=K.drewN nq;generalize (w.alloc (C_ #[I_ j_ 0,T_ ⟨#[]⟩,I_ j_ 0,B_ φ] 89)).drewN nq=W at c k |-
   replace c0:=((QW_ c).1 _ _ z).trans c0;replace c2:=((QW_ c).1 _ _ z).trans c2;replace A:=((QW_ c).1 _ _ f).trans A;replace B:=((QW_ c).1 _ _ f).trans B;replace C:=((QW_ c).1 _ _ f).trans C;replace D:=((QW_ c).1 _ _ f).trans D;rw[show a+i=((a:Int)+(i:Int)).toNat from oo]at A B C D;have k0:=k.q0;have r:=k.q1;have t:=k.q2;have v:=k.q3;have kz:=k.lt;have kf:=k.frozen;go_still_tail 12,nr_;go_wp2;refine bodyPost_ret (by simp[results,Tryz.results168,go_sem,k0,r,t,v];try rfl) rfl ?_;exact⟨rfl,grow_⟩
  have h:Qx_ R.sg (σ s) i=sgZero:=ZO_ (by rw[y];omega);rw[h];have g2:(R.n:Int)<=(a:Int)+i:=oo;go_in;go_wp2;go_quiet (fail);go_wp2;refine bodyPost_ret (by simp[results,Tryz.results168,go_sem,k0,r,t,v];try rfl) rfl ?_;exact⟨rfl,grow_⟩
def Kl_ (R:RC) (hi:R.imp=τ) (d:Nat) (st:RdSt) (row:ON) (w:Ω) (hI:RdI R d st row w):
  Δ π 119 #[P_ (σ ⟨R.T,0,ν⟩)] w (RB_ (A_ #[I_ j_ (Qx_ R.sg st 0).1,T_ (Qx_ R.sg st 0).2.1,I_ j_ (Qx_ R.sg st 0).2.2.1,B_ (Qx_ R.sg st 0).2.2.2]) w):=by
 have b:=h_ (λW (hW:Λ w W)=>YH_ R hi d st row 0 W (hI.next hW) oo);generalize Qx_ R.sg st 0=x at b |-
 obtain⟨k,t,p,z⟩:=x;dsimp only at b |-
 have K0:=Blk.new w 89 #[I_ j_ 0,T_ ⟨#[]⟩,I_ j_ 0,B_ φ];have a:Λ w (w.alloc (C_ #[I_ j_ 0,T_ ⟨#[]⟩,I_ j_ 0,B_ φ] 89)):=grow_;go_in;go_wp2_with fail;refine mb_ (b.o _ a) ?_;intro w1 h1;have K:=K0.next h1;have c:=Qb_ a h1;have k0:=K.q0;have k1:=K.q1;have k2:=K.q2;have k3:=K.q3;have kz:=K.lt;have kf:=K.frozen;go_wp2;refine bodyPost_ret (by simp[results,Tryz.results119,go_sem,k0,k1,k2,k3];try rfl) rfl ?_;exact⟨rfl,grow_⟩
def Vj_ (R:RC) (hi:R.imp=τ) (d:Nat) (st:RdSt) (row:ON) (m:BA) (w:Ω) (hI:RdI R d st row w):
  Δ π 204 #[P_ (σ ⟨R.T,0,ν⟩),T_ m] w (RB_ (B_ (isM R.sg st m)) w):=by
 unfold isM;have b:=h_ (λW (hW:Λ w W)=>Kl_ R hi d st row W (hI.next hW));generalize Qx_ R.sg st 0=x at b |-
 obtain⟨k,t,p,z⟩:=x;dsimp only at b |-
 cases h1:(k==4)with
 |false=>
  rw[φa];have c:=q9_;have f:=ky_;go_in;go_wp2_with fail;refine mb_ (b.o _ br) ?_;intro w1 a;go_wp2;go_ret;exact⟨rfl,a⟩
 |true=>
  obtain rfl:k=4:=eq_of_beq h1;rw[τb];have c:=q9_;have f:=ky_;go_in;go_wp2_with fail;refine mb_ (b.o _ br) ?_;intro w1 a;go_wp2_with fail;refine mb_ (b.o _ a) ?_;intro w2 g2;replace a:=Qb_ a g2;go_wp2;go_ret;exact⟨rfl,a⟩
def Qs_ (R:RC) (hi:R.imp=τ) (d:Nat) (st:RdSt) (row:ON) (m:BA) (w:Ω) (hI:RdI R d st row w):
  Δ π 160 #[P_ (σ ⟨R.T,0,ν⟩),T_ m] w (RB_ (B_ (isW R.sg st m)) w):=by
 unfold isW;have b:=h_ (λW (hW:Λ w W)=>Kl_ R hi d st row W (hI.next hW));generalize Qx_ R.sg st 0=x at b |-
 obtain⟨k,t,p,z⟩:=x;dsimp only at b |-
 cases h1:(k==1)with
 |false=>
  rw[φa];have c:=q9_;have f:=ky_;go_in;go_wp2_with fail;refine mb_ (b.o _ br) ?_;intro w1 a;go_wp2;go_ret;exact⟨rfl,a⟩
 |true=>
  obtain rfl:k=1:=eq_of_beq h1;rw[τb];have c:=q9_;have f:=ky_;go_in;go_wp2_with fail;refine mb_ (b.o _ br) ?_;intro w1 a;go_wp2_with fail;refine mb_ (b.o _ a) ?_;intro w2 g2;replace a:=Qb_ a g2;go_wp2;go_ret;exact⟨rfl,a⟩
def KM_ (R:RC) (hi:R.imp=τ) (d:Nat) (st:RdSt) (row:ON) (i:Nat) (w:Ω) (hI:RdI R d st row w) (hn:i<=100000):
  Δ π 205 #[P_ (σ ⟨R.T,0,ν⟩),I_ j_ i] w (RB_ (B_ (Kp_ R.sg st i)) w):=by
 unfold Kp_;have a:=h_ (λW (hW:Λ w W)=>YH_ R hi d st row i W (hI.next hW) hn);generalize Qx_ R.sg st i=x at a |-
 obtain⟨k,t,p,z⟩:=x;dsimp only at a |-
 have HK:=h_<|U1_ t
 cases h1:(k==1)with
 |false=>
  rw[φa];go_in;go_wp2_with fail;refine mb_ (a.o _ br) ?_;intro w1 b;have gz:=b.size;exact Γ
 |true=>
  obtain rfl:k=1:=eq_of_beq h1;rw[τb];generalize X5_ t=kb at HK |-
  go_in;go_wp2_with fail;refine mb_ (a.o _ br) ?_;intro w1 b;have gz:=b.size;go_wp2_with fail;refine mb_ (HK.o _) ?_;rintro w2 rfl;exact Γ
def zX_ (sg:List SgP) (st:RdSt) (m:BA):RdSt:=if isM sg st m=τ then Qf_ st else st
def Qy_ {st:RdSt} (h:isM r st m=τ):zX_ r st m=Qf_ st:=ip_ h
def QD_ {st:RdSt} (h:isM r st m=φ):zX_ r st m=st:=in_ (by rw[h];decide)
def YP_ (R:RC) (hi:R.imp=τ) (d:Nat) (st:RdSt) (row:ON) (m:BA) (w:Ω) (k:RdI R d st row w):
  Δ π 201 #[P_ (σ ⟨R.T,0,ν⟩),T_ m] w (QA_ R d row w (B_ (isM R.sg st m)) (zX_ R.sg st m)):=by
 have j:=h_<|Vj_ R hi d st row m w k;have HI:=h_ k;unfold QA_
 cases f:isM R.sg st m with
 |false=>
  rw[QD_ f];rw[f]at j;go_in;go_wp2_with fail;refine mb_ j.o ?_;intro w1 h;go_wp2;go_ret;exact⟨rfl,row,HI.o.next h,Kr.of_below h⟩
 |true=>
  rw[Qy_ f];rw[f]at j;obtain⟨s,rfl,n⟩:=Xe_ f;go_in;go_wp2_with fail;refine mb_ j.o ?_;intro w1 h;obtain⟨a,b,AN,cN,l,g,i,c⟩:=HI.o.next h;obtain⟨c0,c2,c3,c4,c5,cf,cz⟩:=g.ci hi;have HF:=h_<|RdI.at1 hi g i c (by rw[<-g.2.2.2.2.2.2.len];exact n);have o:=g.2.2.2.2.1;have p:=g.2.2.2.2.2.2.most;go_wp2;go_ret;exact⟨rfl,row,HF.o.1,(Kr.of_below h).trans HF.o.2⟩
def ZQ_ (R:RC) (hi:R.imp=τ) (d:Nat) (st:RdSt) (row:ON) (m:BA) (w:Ω) (hI:RdI R d st row w):
  Δ π 164 #[P_ (σ ⟨R.T,0,ν⟩),T_ m] w (QA_ R d row w (U_ #[]) (Qn_ R.sg st m)):=by
 have i:=h_<|YP_ R hi d st row m w hI;unfold QA_ at i |-
 cases f:isM R.sg st m with
 |false=>
  rw[GK_ f];rw[f,QD_ f]at i;go_in;go_wp2_with fail;refine mb_ i.o ?_;rintro w1 ⟨c,h,n⟩;obtain⟨a,b,AN,cN,l,j,k,g⟩:=h;obtain⟨c0,c2,c3,c4,c5,cf,cz⟩:=j.ci hi;have HF:=h_<|RdI.bad1 hi j g;go_wp2;go_end0;exact⟨rfl,c,HF.o.1,n.trans HF.o.2⟩
 |true=>
  rw[Zr_ f];rw[f,Qy_ f]at i;go_in;go_wp2_with fail;refine mb_ i.o ?_;rintro w1 ⟨c,h,n⟩;go_wp2;go_end0;exact⟨rfl,c,h,n⟩
def JW_ (R:RC) (hi:R.imp=τ) (d:Nat) (st:RdSt) (row:ON) (w:Ω) (z:RdI R d st row w):
  Δ π 163 #[P_ (σ ⟨R.T,0,ν⟩)] w (QA_ R d row w (T_ (nmT R.sg st)) (nmS R.sg st)):=by
 have q:=h_<|KM_ R hi d st row 0 w z oo;have HI:=h_ z;unfold QA_ nmT nmS
 cases n:Kp_ R.sg st 0 with
 |false=>
  rw[in_ dc_,in_ dc_];rw[n]at q;go_in;go_wp2_with fail;refine mb_ q.o ?_;intro w1 k;obtain⟨a,b,AN,cN,l,h,f,c⟩:=HI.o.next k;obtain⟨c0,c2,c3,c4,v,cf,cz⟩:=h.ci hi;have m:=h_<|RdI.bad1 hi h c;go_wp2;go_ret;exact⟨rfl,row,m.o.1,(Kr.of_below k).trans m.o.2⟩
 |true=>
  rw[ip_ rfl,ip_ rfl];rw[n]at q;obtain⟨s,rfl,p⟩:=Z7_ n;rw[Nat.add_zero]at p;obtain⟨x,r⟩:∃x,R.sg[s.at_]? =σ x:=⟨_,List.getElem?_eq_getElem p⟩;rw[show Qx_ R.sg (σ s) 0=x from GE_ r];go_in;go_wp2_with fail;refine mb_ q.o ?_;intro w1 k;have j:=HI.o.next k;have i:=j.old;have g:=j.ok;obtain⟨a,b,AN,cN,l,h,f,c⟩:=j;obtain⟨c0,c2,c3,c4,v,cf,cz⟩:=h.ci hi;have o:=g.len;rw[f.2.1]at r;obtain⟨t,off,hA,A,e0,e1,e2,e3⟩:=Yv_ (g.rd.below i) (show a<R.n by have:=f.2.1;omega) r;rw[hA]at c0;have y:=RdI.at1 hi h f c (by have:=f.2.1;omega);have D:=h.2.2.2.2.1;have H:=g.most;have B:=g.low;have E:a<R.n:=by have:=f.2.1;omega
  have G:t≠R.T:=by
   obtain⟨b2,C,e,F,_⟩:=g.rd.at_ (show 0<R.n from oo);rw[hA]at e;injection e with e;injection e with e _;omega
  have I:IntKind.i64.wrap ((a:Int)+1)=(a:Int)+1:=IntWalk.i64_in _ oo;have HK:=h_<|(Kr.of_below k).trans y.2;have m:=h_ y.1;go_upto_region 5 with fail
  have q0:(w1.setCell ⟨R.T,2,ν⟩ (I_ j_ ((a:Int)+1))).cell? ⟨R.T,0,ν⟩=σ (S_ (σ ⟨t,off,ν⟩) R.n R.c):=by go_simp
  have q2:(w1.setCell ⟨R.T,2,ν⟩ (I_ j_ ((a:Int)+1))).cell? ⟨R.T,2,ν⟩=σ (I_ j_ ((a:Int)+1)):=by go_simp
  have q1:(w1.setCell ⟨R.T,2,ν⟩ (I_ j_ ((a:Int)+1))).cell? ⟨t,off+a*4+1,ν⟩=σ (T_ x.2.1):=by go_simp
  have J:IntKind.i64.wrap (a:Int)=(a:Int):=IntWalk.i64_in _ oo;generalize w1.setCell ⟨R.T,2,ν⟩ (I_ j_ ((a:Int)+1))=W at q0 q1 q2 HK m |-
  go_quiet (fail);go_wp2;go_ret;exact⟨rfl,row,m.o.next (below_drewN br _),HK.o.below (below_drewN br _)⟩
def Zo_ (R:RC) (hi:R.imp=τ) (d:Nat) (st:RdSt) (row:ON) (w:Ω) (g:RdI R d st row w) (h:∀s,st=σ s->s.at_<R.n):
  Δ π 200 #[P_ (σ ⟨R.T,0,ν⟩)] w (QA_ R d row w (U_ #[]) (Qf_ st)):=by
 obtain⟨a,b,AN,cN,l,e,c,f⟩:=id g;obtain⟨c0,c2,c3,c4,c5,cf,cz⟩:=e.ci hi;have HI:=h_ g;have i:=e.2.2.2.2.1;have j:=e.2.2.2.2.2.2.most;unfold QA_
 cases st with
 |none=>
  obtain rfl:b=τ:=c;rw[zY_];go_in;go_wp2;go_end0;exact⟨rfl,row,HI.o,Kr.refl _ _ _⟩
 |some s=>
  have HF:=h_<|RdI.at1 hi e c f<|h s rfl;obtain⟨rfl,_,_⟩:=c;go_in;go_wp2;go_end0;exact⟨rfl,row,HF.o.1,HF.o.2⟩
def UT_ (R:RC) (hi:R.imp=τ) (d:Nat) (st:RdSt) (row:ON) (w:Ω) (hI:RdI R d st row w) (hd:d<=100000):
  Δ π 207 #[P_ (σ ⟨R.T,0,ν⟩)] w (QA_ R (d+1) row w (U_ #[]) (KI_ d st)):=by
 obtain⟨a,b,AN,cN,l,j,g,c⟩:=id hI;obtain⟨c0,c2,c3,c4,c5,cf,cz⟩:=j.ci hi;unfold QA_ KI_;by_cases i:d=20
 ·subst i;rw[ip_ rfl];have m:=RdI.bad1 hi j c;obtain⟨a',b',p,q,l',k,e,f⟩:=m.1;have n:=RdI.nest1 hi k e f (u:=21) (d':=21) (by rfl);have h:=h_<|ai_ n.1<|m.2.trans n.2;go_in;go_wp2;go_end0;exact⟨rfl,row,h.o.1,h.o.2⟩
 rw[in_ i];have o:((d:Int)==20)=φ:=by rw[bn_];omega
 have h:=h_<|RdI.nest1 hi j g c (u:=(d:Int)+1) (d':=d+1) oo;go_in;go_wp2;go_end0;exact⟨rfl,row,h.o.1,h.o.2⟩
def RdC.blk3 {R:RC} {l:List Nd} {w w1 w3:Ω} (hi:R.imp=τ) (h:RdC R d f q u n l w) (k:Λ w w1) (hg:w1.grownBy w3 (S_ u (η l) n).ownBlock):
  (∃v,w3.cell? ⟨R.T,5,ν⟩=σ v)/\(∀i,w3.frozen? ⟨R.T,i,ν⟩=φ)/\R.T<w3.heap.size:=by
 have g:=h.next k;rw[Q3_]at hg;have c:Blk w3 R.T R.ty (R.cells d f q (S_ u (η l) n)):=g.1.grown hg (λe=>by
  obtain⟨m,j⟩:=Qw_ g.2.1 e.symm;exact Kj_ g.1 j R.ty_node rfl)
 have a:=c;unfold RC.cells at c;rw[ip_ hi]at c;exact⟨⟨_,c.cell 5⟩,a.frozen,a.lt⟩
def RC.cells_nodes {R:RC} (hi:R.imp=τ) (a d:Nat) (b:Bool) (u v:Υ):(R.cells a d b u).setIfInBounds 5 v=R.cells a d b v:=by
 unfold RC.cells;rw[ip_ hi,ip_ hi];simp
def vo_ {s:PS} {x:PN} (h:η s.nodes≠300):KP_ (σ s) x=((η s.nodes:Int),σ ⟨s.at_,s.nodes++[x]⟩):=in_ h
def vn_ {s:PS} {x:PN} (h:η s.nodes=300):KP_ (σ s) x=(0,ν):=ip_ h
def QgG_ (R:RC) (hi:R.imp=τ) (d:Nat) (st:RdSt) (row:ON) (x:Nd) (w:Ω) (hI:RdI R d st row w) (H:KidsIn w R.w0.heap.size R.U x):
    Δ π 120 #[P_ (σ ⟨R.T,0,ν⟩),A_ #[I_ j_ x.kind,T_ x.text,S_ x.adr x.cnt x.cap,B_ x.blank]] w (QA_ R d row w (I_ j_ (KP_ st x.pn).1) (KP_ st x.pn).2):=by
  have f:Λ w (w.alloc (C_ #[I_ j_ x.kind,T_ x.text,S_ x.adr x.cnt x.cap,B_ x.blank] 96)):=grow_;obtain⟨a,b,AN,cN,l,g,G,m⟩:=id hI;obtain⟨c0,c2,c3,c4,c5,cf,cz⟩:=g.ci hi;have p:=g.next f;clear c0 c2 c3 hI;unfold QA_
  cases st with
  |none=>
    obtain rfl:b=τ:=G;rw[Z8_];have z:=h_<|RdI.bad1 hi g m;clear p g f H;go_in;go_wp2;go_ret;exact⟨rfl,row,z.o.1.alloc _,z.o.2.below bra⟩
  |some s=>
    obtain⟨rfl,ha,r⟩:=G;have y:η s.nodes=η l:=(by rw[r,List.length_map]);by_cases j:η l=300
    · rw[vn_ (y.trans j)]
      have z:=h_<|RdI.bad1 hi g m;rw[j]at c5;clear p g f H j y r;go_in;go_wp2;go_ret;exact⟨rfl,row,z.o.1.alloc _,z.o.2.below bra⟩
    rw[vo_ oo,y];have ab:=p.2.2.2.1;have T:η l<300:=oo;obtain⟨i0,F,I,J,L⟩:=info_parts Qgl_;have M:=h_ (ai_ F (ai_ I (ai_ J L)));have ac:((η l:Int)==300)=φ:=(by rw[bn_];omega);obtain⟨d0,d2,d3,d4,d5,df,dz⟩:=p.ci hi;have K:=Blk.new w 96 #[I_ j_ x.kind,T_ x.text,S_ x.adr x.cnt x.cap,B_ x.blank];have k0:=K.q0;have k1:=K.q1;have k2:=K.q2;have k3:=K.q3;have kz:=K.lt;have kf:=K.frozen;have HX:=h_ (H.next f);have HC:=h_ p;have HB:=h_ f;have HP:=h_ (λ(v':Υ) (w3:Ω) h1 h2 h3=>p.push x (H.next f) T (w1:=(w.alloc (C_ #[I_ j_ x.kind,T_ x.text,S_ x.adr x.cnt x.cap,B_ x.blank] 96)).alloc (C_ #[I_ j_ x.kind,T_ x.text,S_ x.adr x.cnt x.cap,B_ x.blank] 96)) bra (i:=5) (v':=v') (w3:=w3) h1 h2 h3 (RC.cells_nodes hi _ _ _ _ _));have H3:=h_ (λ(w3:Ω) h=>p.blk3 hi (w1:=(w.alloc (C_ #[I_ j_ x.kind,T_ x.text,S_ x.adr x.cnt x.cap,B_ x.blank] 96)).alloc (C_ #[I_ j_ x.kind,T_ x.text,S_ x.adr x.cnt x.cap,B_ x.blank] 96)) (w3:=w3) bra h);have v:=Qgp_ (w.alloc (C_ #[I_ j_ x.kind,T_ x.text,S_ x.adr x.cnt x.cap,B_ x.blank] 96)) x 96;rw[ws_]at v;have P:=h_ v;have HM:=h_ (Mine.alloc p.2.1 (C_ #[I_ j_ x.kind,T_ x.text,S_ x.adr x.cnt x.cap,B_ x.blank] 96));have E:R.w0.heap.size<=((w.alloc (C_ #[I_ j_ x.kind,T_ x.text,S_ x.adr x.cnt x.cap,B_ x.blank] 96)).alloc (C_ #[I_ j_ x.kind,T_ x.text,S_ x.adr x.cnt x.cap,B_ x.blank] 96)).heap.size:=by
      have:=g.2.2.2.2.2.1.size;simp only[ws_];omega
    have N:=h_ E;have S:=h_ (show Kr R.T row w row (w.alloc (C_ #[I_ j_ x.kind,T_ x.text,S_ x.adr x.cnt x.cap,B_ x.blank] 96))from Kr.of_below f);have D:s.at_=a/\s.nodes=l.map Nd.pn:=⟨ha,r⟩;have HH:=h_ D;have HR:=h_ m;have b5:∀o,((w.alloc (C_ #[I_ j_ x.kind,T_ x.text,S_ x.adr x.cnt x.cap,B_ x.blank] 96)).alloc o).cell? ⟨R.T,5,ν⟩=σ (S_ AN (η l) cN):=λo=>((p.next (br.alloc (lr_ _) o)).ci hi).2.2.2.2.1
    have X:∀o,((w.alloc (C_ #[I_ j_ x.kind,T_ x.text,S_ x.adr x.cnt x.cap,B_ x.blank] 96)).alloc o).cell? ⟨w.heap.size,0,ν⟩=σ (I_ j_ x.kind):=λo=>(K.alloc o).cell 0
    have Y:∀o,((w.alloc (C_ #[I_ j_ x.kind,T_ x.text,S_ x.adr x.cnt x.cap,B_ x.blank] 96)).alloc o).cell? ⟨w.heap.size,1,ν⟩=σ (T_ x.text):=λo=>(K.alloc o).cell 1
    have Z:∀o,((w.alloc (C_ #[I_ j_ x.kind,T_ x.text,S_ x.adr x.cnt x.cap,B_ x.blank] 96)).alloc o).cell? ⟨w.heap.size,2,ν⟩=σ (S_ x.adr x.cnt x.cap):=λo=>(K.alloc o).cell 2
    have aa:∀o,((w.alloc (C_ #[I_ j_ x.kind,T_ x.text,S_ x.adr x.cnt x.cap,B_ x.blank] 96)).alloc o).cell? ⟨w.heap.size,3,ν⟩=σ (B_ x.blank):=λo=>(K.alloc o).cell 3
    have U:((w.alloc (C_ #[I_ j_ x.kind,T_ x.text,S_ x.adr x.cnt x.cap,B_ x.blank] 96)).alloc (C_ #[I_ j_ x.kind,T_ x.text,S_ x.adr x.cnt x.cap,B_ x.blank] 96)).heap[w.heap.size+1]? =σ (C_ #[I_ j_ x.kind,T_ x.text,S_ x.adr x.cnt x.cap,B_ x.blank] 96 (0,0)):=by
      have:=heap_alloc_new (w.alloc (C_ #[I_ j_ x.kind,T_ x.text,S_ x.adr x.cnt x.cap,B_ x.blank] 96)) (C_ #[I_ j_ x.kind,T_ x.text,S_ x.adr x.cnt x.cap,B_ x.blank] 96);rwa[ws_]at this
    clear F I J L p g f H c4 c5 cf cz K d0 d2 d3 v E D ha r m HC P;go_in;go_upto_region 4 with fail
    go_region_law
      (refine step_append_lies _ rfl (.tmp 24) (.tmp 26) 57 rfl R.w0.heap.size 96 i0 (A_ #[I_ j_ 0,T_ ⟨#[]⟩,S_ ν 0 0,B_ φ]) 4 56 underlying57 M.o.1 M.o.2.1 M.o.2.2.1 M.o.2.2.2 rfl dc_ (S_ AN (η l) cN) (η l) (l.flatMap Qv_) ev_ (by first|exact HM.o.drew|exact HM.o) ⟨w.heap.size+1,0,ν⟩ 1 1 (Qv_ x) ev_ (by rfl) (World.news_of_block (cs:=#[I_ j_ x.kind,T_ x.text,S_ x.adr x.cnt x.cap,B_ x.blank]) (t:=96) (fr:=(0,0)) U) (Qgq_ _) dc_ mx_ oo (by first|exact N.o) (w.heap.size+1+1) sm_ ?_
       intro q cap w6 n k C V;have c:((w.alloc (C_ #[I_ j_ x.kind,T_ x.text,S_ x.adr x.cnt x.cap,B_ x.blank] 96)).alloc (C_ #[I_ j_ x.kind,T_ x.text,S_ x.adr x.cnt x.cap,B_ x.blank] 96)).grownBy w6 (S_ AN (η l) cN).ownBlock:=(by first|exact k|exact Q9_ k);obtain⟨⟨v5,j5⟩,jf,jz⟩:=H3.o _ c;have HW:=h_ (HP.o _ _ n c (C.elim (λe=>.inl e.symm) (λe=>.inr (by rw[e];simp[Value.ownBlock]))));clear n k C c)
    all_goals
      obtain⟨A3,c3,ev,A,B⟩:=HW.o;injection ev with ev1 ev2 ev3;subst ev1;subst ev3;have O:=h_ A;have Q:=h_ B;clear A B HW ev2;go_wp2;go_ret;refine⟨rfl,_,⟨a,φ,_,_,_,O.o,⟨rfl,HH.o.1,?_⟩,rfl⟩,?_⟩
      · rw[HH.o.2,List.map_append];rfl
      exact S.o.trans (by rw[HR.o];exact Q.o)
def v2_ {w:Ω} {B:Nat} {e:TypeId} {s:Nat} {A:OA} {n c:Nat} {xs:List Υ} (h:Mine w B e s A n c xs):n<=c:=by
 rcases h.own with⟨_,rfl,rfl⟩|⟨g,_,_,h,_⟩
 ·exact lr_ _
 exact h
def zk_ {st:RdSt} {x:PN} {s s':PS} (h:st=σ s) (a:(KP_ st x).2=σ s'):s'.at_=s.at_:=by
 subst h;unfold KP_ at a;simp only at a;split at a
 ·cases a
 rw[<-oi_ a]
section
variable (R:RC) (hi:R.imp=τ) (d:Nat) (st:RdSt) (row:ON)
include hi
def addK (k:Int) (t:BA) (A:OA) (n c:Nat) (ks:LI) (b:Bool) (B:Nat) (w:Ω) (hI:RdI R d st row w) (a:Mine w B 3 1 A n c (Qa_ ks)) (hB:R.Lo B):
  Δ π 120 #[P_ (σ ⟨R.T,0,ν⟩),A_ #[I_ j_ k,T_ t,S_ A n c,B_ b]] w (QA_ R d row w (I_ j_ (KP_ st ⟨k,t,ks,b⟩).1) (KP_ st ⟨k,t,ks,b⟩).2):=
 QgG_ R hi d st row ⟨k,t,A,n,c,ks,b⟩ w hI ⟨⟨v2_ a,λg hg hu=>by have:=(Mine.blk a hg).1;have:=hB.2 g hu;omega⟩,a.more hB.1⟩
def add0 (k:Int) (t:BA) (b:Bool) (w:Ω) (hI:RdI R d st row w):
  Δ π 120 #[P_ (σ ⟨R.T,0,ν⟩),A_ #[I_ j_ k,T_ t,S_ ν 0 0,B_ b]] w (QA_ R d row w (I_ j_ (KP_ st ⟨k,t,[],b⟩).1) (KP_ st ⟨k,t,[],b⟩).2):=
 addK R hi d st row k t ν 0 0 [] b w.heap.size w hI (Mine.mk_nil _ _ _ _) hI.lo
end
def RdI.lt_n {R:RC} {st:RdSt}   (h:RdI R d st v w) {i:Nat} {s:PS} (hs:st=σ s) (hl:s.at_+i<η R.sg):s.at_+i<R.n:=by rw[<-h.ok.len];exact hl
def Jc_ (R:RC) (hi:R.imp=τ) (d:Nat) (st:RdSt) (row:ON) (k:Int) (w:Ω) (l:RdI R d st row w) (b:∀s,st=σ s->s.at_<R.n):
  Δ π 206 #[P_ (σ ⟨R.T,0,ν⟩),I_ j_ k] w (QA_ R d row w (I_ j_ (YG_ R.sg k st).1) (YG_ R.sg k st).2):=by
 unfold YG_;have j:=h_<|Kl_ R hi d st row w l;have HI:=h_ l;generalize Qx_ R.sg st 0=x at j |-
 obtain⟨q,t,p,z⟩:=x;dsimp only at j |-
 have HL:=h_ (λ(s':PS) (h:(KP_ st ⟨k,t,[],φ⟩).2=σ s')=>show s'.at_<R.n by
  cases a:st with
  |none=>rw[a]at h;cases h
  |some s=>rw[zk_ a h];exact b s a)
 have m:=ky_;unfold QA_;go_in;go_wp2_with fail;refine mb_ j.o ?_;intro w1 h1;have f:=h_<|HI.o.next h1;have g:=h_<|Kr.of_below (T:=R.T) (row:=row) h1;go_wp2_with fail
 refine mb_ (add0 R hi d st row k t φ _ f.o) ?_;rintro w2 ⟨row2,h2,k2⟩;have i:=h_<|g.o.trans k2;go_wp2_with fail
 refine mb_ (Zo_ R hi d _ row2 _ h2 HL.o) ?_;rintro w3 ⟨c,h3,k3⟩;go_wp2;go_ret;exact⟨rfl,c,h3,i.o.trans k3⟩
def v8_ (R:RC) (hi:R.imp=τ) (d:Nat) (st:RdSt) (row:ON) (b:Bool) (w:Ω) (l:RdI R d st row w) (c:∀s,st=σ s->s.at_<R.n):
  Δ π 159 #[P_ (σ ⟨R.T,0,ν⟩),B_ b] w (QA_ R d row w (I_ j_ (Xm_ R.sg b st).1) (Xm_ R.sg b st).2):=by
 unfold Xm_;have k:=h_<|Kl_ R hi d st row w l;have HI:=h_ l;generalize Qx_ R.sg st 0=x at k |-
 obtain⟨q,t,p,z⟩:=x;dsimp only at k |-
 have HL:=h_ (λ(s':PS) (h:(KP_ st ⟨19,t,[],b⟩).2=σ s')=>show s'.at_<R.n by
  cases a:st with
  |none=>rw[a]at h;cases h
  |some s=>rw[zk_ a h];exact c s a)
 have m:=ky_;unfold QA_;go_in;go_wp2_with fail;refine mb_ k.o ?_;intro w1 h1;have g:=h_<|HI.o.next h1;have i:=h_<|Kr.of_below (T:=R.T) (row:=row) h1;go_wp2_with fail
 refine mb_ (add0 R hi d st row 19 t b _ g.o) ?_;rintro w2 ⟨row2,h2,k2⟩;have j:=h_<|i.o.trans k2;go_wp2_with fail
 refine mb_ (Zo_ R hi d _ row2 _ h2 HL.o) ?_;rintro w3 ⟨f,h3,k3⟩;go_wp2;go_ret;exact⟨rfl,f,h3,j.o.trans k3⟩
def Vo_ (R:RC) (hi:R.imp=τ) (d:Nat) (st:RdSt) (row:ON) (w:Ω) (n:RdI R d st row w):
  Δ π 166 #[P_ (σ ⟨R.T,0,ν⟩)] w (QA_ R d row w (I_ j_ (Qj_ R.sg st).1) (Qj_ R.sg st).2):=by
 have h:=h_<|KM_ R hi d st row 0 w n oo;have j:=h_ n;unfold QA_ Qj_
 cases g:Kp_ R.sg st 0 with
 |false=>
  rw[in_ dc_];rw[g]at h;go_in;go_wp2_with fail;refine mb_ h.o ?_;intro w1 f;obtain⟨a,b,AN,cN,l,o,p,c⟩:=j.o.next f;obtain⟨c0,c2,c3,c4,c5,cf,cz⟩:=o.ci hi;have HF:=h_<|RdI.bad1 hi o c;go_wp2;go_ret;exact⟨rfl,row,HF.o.1,(Kr.of_below f).trans HF.o.2⟩
 |true=>
  rw[ip_ rfl];rw[g]at h;have HL:=h_ (λ(s:PS) (hs:st=σ s)=>show s.at_<R.n by
   obtain⟨s',e,hl⟩:=Z7_ g;rw[hs]at e;obtain rfl:=oi_ e;exact j.o.lt_n (i:=0) hs hl)
  go_in;go_wp2_with fail;refine mb_ h.o ?_;intro w1 f;have k:=h_<|j.o.next f;have m:=h_<|Kr.of_below (T:=R.T) (row:=row) f;go_wp2_with fail
  refine mb_ (Jc_ R hi d st row 1 _ k.o HL.o) ?_;rintro w2 ⟨row2,h2,k2⟩;go_wp2;go_ret;exact⟨rfl,row2,h2,m.o.trans k2⟩
def KK_ (R:RC) (hi:R.imp=τ) (d:Nat) (st:RdSt) (row:ON) (m:BA) (k:Int) (t:BA) (A:OA) (n c:Nat) (ks:LI) (b:Bool) (B:Nat) (w:Ω) (y:RdI R d st row w) (H:Mine w B 3 1 A n c (Qa_ ks)) (hB:R.Lo B):
  Δ π 203 #[P_ (σ ⟨R.T,0,ν⟩),T_ m,A_ #[I_ j_ k,T_ t,S_ A n c,B_ b]] w (QA_ R d row w (I_ j_ (KP_ (Qn_ R.sg st m) ⟨k,t,ks,b⟩).1) (KP_ (Qn_ R.sg st m) ⟨k,t,ks,b⟩).2):=by
 have f:Λ w (w.alloc (C_ #[I_ j_ k,T_ t,S_ A n c,B_ b] 96)):=grow_;have x:=h_<|Vj_ R hi d st row m _<|y.next f;have z:=h_<|y.next f;have HM:=h_<|H.next f;have p:=h_<|Kr.of_below (T:=R.T) (row:=row) f;have K:=Blk.new w 96 #[I_ j_ k,T_ t,S_ A n c,B_ b];unfold QA_
 cases o:isM R.sg st m with
 |false=>
  rw[GK_ o,Z8_];rw[o]at x;go_in;go_wp2_with fail;refine mb_ x.o ?_;intro w1 g;obtain⟨a,b,AN,cN,l,G,I,j⟩:=z.o.next g;obtain⟨c0,c2,c3,c4,c5,cf,cz⟩:=G.ci hi;have HF:=h_<|RdI.bad1 hi G j;go_wp2;go_ret;exact⟨rfl,row,HF.o.1,(p.o.below g).trans HF.o.2⟩
 |true=>
  rw[Zr_ o,VA_];rw[o]at x;have HL:=h_ (λ(s':PS) (h:(KP_ st ⟨k,t,ks,b⟩).2=σ s')=>show s'.at_<R.n by
   obtain⟨s,e,hl⟩:=Xe_ o;rw[zk_ e h];exact z.o.lt_n (i:=0) e hl)
  go_in;go_wp2_with fail;refine mb_ x.o ?_;intro w1 g;have C:=h_<|z.o.next g;have F:=h_<|HM.o.next g;have D:=h_<|p.o.below g;have q:=K.next g;have k0:=q.q0;have k1:=q.q1;have k2:=q.q2;have J:=q.q3;go_wp2_with fail
  refine mb_ (addK R hi d st row k t A n c ks b B _ C.o F.o hB) ?_;rintro w2 ⟨row2,h2,r⟩;have E:=h_<|D.o.trans r;go_wp2_with fail
  refine mb_ (Zo_ R hi d _ row2 _ h2 HL.o) ?_;rintro w3 ⟨v,h3,J⟩;go_wp2;go_ret;exact⟨rfl,v,h3,E.o.trans J⟩
section
variable {R:RC} (U:Nat->Prop) (hi:R.imp=τ) (d:Nat) (st:RdSt) (row:ON)
include hi
def RdC.cu {a:Nat} {l:List Nd}  (h:RdC { R with U:=U } a d q u f l w):
  w.cell? ⟨R.T,2,ν⟩=σ (I_ j_ a)/\w.cell? ⟨R.T,3,ν⟩=σ (I_ j_ d)/\w.cell? ⟨R.T,4,ν⟩=σ (B_ q)/\(∀i,w.frozen? ⟨R.T,i,ν⟩=φ)/\R.T<w.heap.size:=by
 obtain⟨c0,c2,c3,c4,c5,cf,cz⟩:=RdC.ci (R:={ R with U:=U }) hi h;exact⟨c2,c3,c4,cf,cz⟩
def is_u (m:BA) (w:Ω) (hI:RdI { R with U:=U } d st row w):
 Δ π 204 #[P_ (σ ⟨R.T,0,ν⟩),T_ m] w (RB_ (B_ (isM R.sg st m)) w):=Vj_ { R with U:=U } hi d st row m w hI
def Qao_ (m:BA) (w:Ω) (hI:RdI { R with U:=U } d st row w):
 Δ π 201 #[P_ (σ ⟨R.T,0,ν⟩),T_ m] w λe w'=>e=R_ (B_ (isM R.sg st m))/\∃row',RdI { R with U:=U } d (zX_ R.sg st m) row' w'/\Kr R.T row w row' w':=YP_ { R with U:=U } hi d st row m w hI
def Qat_ (m:BA) (w:Ω) (hI:RdI { R with U:=U } d st row w):
 Δ π 164 #[P_ (σ ⟨R.T,0,ν⟩),T_ m] w λe w'=>e=R_ (U_ #[])/\∃row',RdI { R with U:=U } d (Qn_ R.sg st m) row' w'/\Kr R.T row w row' w':=ZQ_ { R with U:=U } hi d st row m w hI
def QbC_ (w:Ω) (hI:RdI { R with U:=U } d st row w):
 Δ π 166 #[P_ (σ ⟨R.T,0,ν⟩)] w λe w'=>e=R_ (I_ j_ (Qj_ R.sg st).1)/\∃row',RdI { R with U:=U } d (Qj_ R.sg st).2 row' w'/\Kr R.T row w row' w':=Vo_ { R with U:=U } hi d st row w hI
end
def OneC (R:RC) (F:FuncId) (d lo:Nat) (one:RdSt->PR):Prop:=
 ∀(U:Nat->Prop) (st:RdSt) (row:ON) (w:Ω),RdI { R with U:=U } d st row w->(∀s,st=σ s->lo<=s.at_)->Δ π F #[P_ (σ ⟨R.T,0,ν⟩)] w (QA_ { R with U:=U } d row w (I_ j_ (one st).1) (one st).2)
def LoB (lo:Nat) (st:RdSt):Prop:=∀s,st=σ s->lo<=s.at_
def Enough (n N:Nat) (st:RdSt):Prop:=∀s,st=σ s->n<N+s.at_
def KidB (ks:LI) (st:RdSt):Prop:=η ks<=301/\∀s,st=σ s->η ks<=η s.nodes
section
variable {lo n N i j:Nat} {st st':RdSt} {ks:LI}
def LoB.adv (h:LoB lo st) (k:Adv i j st st'):LoB lo st':=λt e=>by
 obtain⟨s,e2,h1,_⟩:=k t e;have:=h s e2;omega
def Enough.adv (h:Enough n (N+1) st) (k:Adv (i+1) j st st'):Enough n N st':=λt e=>by
 obtain⟨s,e2,h1,_⟩:=k t e;have:=h s e2;omega
end
def Enough.mono {st st':RdSt} (h:Enough d f st) (k:Adv n j st st'):Enough d f st':=λt e=>by
 obtain⟨s,e2,h1,_⟩:=k t e;have:=h s e2;omega
def KidB.mono {st st':RdSt} {ks:LI} (h:KidB ks st) (k:Adv d f st st'):KidB ks st':=⟨h.1,λt e=>by
 obtain⟨s,e2,_,h1⟩:=k t e;have:=h.2 s e2;omega⟩
def Z1_ (R:RC) (w:Ω):Nat:=match w.cell? ⟨R.T,4,ν⟩,w.cell? ⟨R.T,2,ν⟩with|some (B_ φ),σ (I_ _ a)=>R.n+1-a.toNat|_,_=>0
section
variable {R:RC} {d:Nat} {st:RdSt} {s:PS} {row:ON} {w w':Ω}
def Yr_ (hi:R.imp=τ) (h:RdI R d (σ s) row w):Z1_ R w=R.n+1-s.at_/\s.at_<=R.n:=by
 obtain⟨a,b,AN,cN,l,hc,⟨rfl,rfl,_⟩,_⟩:=h;obtain⟨c0,c2,c3,c4,c5,cf,cz⟩:=hc.ci hi;have:=hc.2.2.2.2.1;unfold Z1_;rw[c4,c2];exact⟨rfl,this⟩
def Wj_ (hi:R.imp=τ) (h:RdI R d ν row w):Z1_ R w=0:=by
 obtain⟨a,b,AN,cN,l,hc,hb,_⟩:=h;obtain rfl:b=τ:=hb;obtain⟨c0,c2,c3,c4,c5,cf,cz⟩:=hc.ci hi;unfold Z1_;rw[c4]
def Wi_ (hi:R.imp=τ) (h:RdI R d (σ s) row w) {st':RdSt} {d':Nat} (h':RdI R d' st' v w')  (k:Adv (f+1) n (σ s) st'):Z1_ R w'<Z1_ R w:=by
 obtain⟨e1,e2⟩:=Yr_ hi h
 cases st' with
 |none=>rw[Wj_ hi h'];omega
 |some t=>
  obtain⟨e3,e4⟩:=Yr_ hi h';obtain⟨s',e5,h1,_⟩:=k t rfl;obtain rfl:=oi_ e5;omega
end
def G2_ {R:RC} {U U':Nat->Prop} {s:PS}   (hi:R.imp=τ) (h:RdI { R with U:=U } d (σ s) v w) {st':RdSt} (h':RdI { R with U:=U' } f st' x y)  (k:Adv (n+1) j (σ s) st'):Z1_ R y<Z1_ R w:=by
 have e1:=Yr_ (R:={ R with U:=U }) hi h;have e2:Z1_ { R with U:=U } w=Z1_ R w:=rfl;have e3:∀W,Z1_ { R with U:=U' } W=Z1_ R W:=λ_=>rfl
 have hn:({ R with U:=U }:RC).n=R.n:=rfl
 cases st' with
 |none=>have:=Wj_ (R:={ R with U:=U' }) hi h';rw[e3]at this;omega
 |some t=>
  have e4:=Yr_ (R:={ R with U:=U' }) hi h';obtain⟨s',e5,h1,_⟩:=k t rfl;obtain rfl:=oi_ e5;have e6:({ R with U:=U' }:RC).n=R.n:=rfl;rw[e3]at e4;omega
def Qci_ (R:RC) (d:Nat) (row:ON) (w:Ω) (q:LI × RdSt) (e:Ending) (w':Ω):Prop:=
 ∃(A:OA) (c:Nat),e=R_ (S_ A q.1.length c)/\Mine w' w.heap.size 3 1 A q.1.length c (Qa_ q.1)/\q.1.length<=301/\∃row',RdI (R.res A) d q.2 row' w'/\Kr R.T row w row' w'
def GZ_ (R:RC) (hi:R.imp=τ) (d lo:Nat) (one:RdSt->PR) (HO:Ψ (OneC R 202 d lo one)) (h1:∀st,Adv 1 1 st (one st).2) (m:BA) (N:Nat) (st:RdSt) (row:ON) (w:Ω) (hI:RdI R d st row w) (aa:LoB lo st) (hN:Enough R.n N st):
  Δ π 165 #[P_ (σ ⟨R.T,0,ν⟩),T_ m,.func (.func 202) #[P_ (σ ⟨R.T,0,ν⟩)] #[]] w (Qci_ R d row w (QG_ R.sg one m N [] st)):=by
 obtain⟨i0,aj,al,am,ab⟩:=info_parts QY_;have E:=h_<|ai_ aj<|ai_ al<|ai_ am ab;have n:=h_ hI;have ak:=hI.lo.1;have q:=h_ aa;have HN:=h_ hN;have HA:=h_ h1;obtain⟨Q,hQ⟩:=ex_ (QG_ R.sg one m N [] st);rw[hQ];have i:=h_ hQ;unfold Qci_;go_in;go_wp2;go_loopw [7] (λv wr=>∃(M:Nat) (ks:LI) (st':RdSt) (row':ON) (A:OA) (c:Nat),v=S_ A (η ks) c/\Ψ (QG_ R.sg one m M ks st'=Q)/\Ψ (LoB lo st')/\Ψ (Enough R.n M st')/\Ψ (KidB ks st')/\Ψ (Mine wr w.heap.size 3 1 A (η ks) c (Qa_ ks))/\Ψ (RdI (R.res A) d st' row' wr)/\Ψ (Kr R.T row w row' wr)) (λ_ wr=>Z1_ R wr)
 ·exact⟨N,[],st,row,ν,0,rfl,i,q,HN,⟨by simp,λs _=>by simp⟩,Mine.mk_nil _ _ _ _,n.o.res_new br (λg hg=>by cases hg),Kr.refl _ _ _⟩
 obtain⟨M,ks,st',row',A,c,rfl,i,q,HN,G,HM,n,HK⟩:=hrel;have aI:(R.res A).imp=τ:=hi
 cases st' with
 |none=>
  obtain⟨a,b,AN,cN,l,hc,hb,y⟩:=n.o;obtain⟨c2,c3,c4,cf,cz⟩:=hc.cu _ hi;obtain rfl:b=τ:=hb;have f:=i.o;rw[VF_]at f;subst f;go_wp2;go_ret;exact⟨A,c,rfl,HM.o,G.o.1,row',n.o,HK.o⟩
 |some s=>
  obtain⟨M,rfl⟩:∃M',M=M'+1:=⟨M-1,by
   have h1:=HN.o s rfl;have h2:=(n.o.le rfl).1;have:(R.res A).n=R.n:=rfl;omega⟩
  obtain⟨a,b,AN,cN,l,hc,hb,y⟩:=n.o;obtain⟨c2,c3,c4,cf,cz⟩:=hc.cu _ hi;obtain⟨rfl,_,_⟩:=hb;have p:=h_<|is_u _ hi d (σ s) row' m wr n.o;have f:=i.o;unfold QG_ at f;rw[in_ (show ¬(σ s).isNone=τ by simp)]at f
  cases h:isM R.sg (σ s) m with
  |true=>
   rw[h,ip_ rfl]at f;subst f;rw[h]at p;go_wp2_with fail;refine mb_ p.o ?_;intro w2 J;go_wp2;go_ret;exact⟨A,c,rfl,HM.o.next J,G.o.1,row',n.o.next J,HK.o.below J⟩
  |false=>
   rw[h,in_ dc_]at f;rw[h]at p;have i:=h_ f;go_wp2_with fail;refine mb_ p.o ?_;intro w2 J;have C:=h_ (n.o.next J);have ae:=h_ (HM.o.next J);have T:=h_ (HK.o.below J);have ab:=T.o.size;have HC:=h_ (HO.o _ (σ s) row' w2 C.o q.o);unfold QA_ at HC;have aH:=G.o.2 s rfl;have aK:=(C.o.le rfl).2;have j:=HA.o (σ s);have O:Ψ (LoB lo (one (σ s)).2):=q.o.adv j;have P:Ψ (Enough R.n M (one (σ s)).2):=HN.o.adv j;have B:Ψ (KidB (ks++[(one (σ s)).1]) (one (σ s)).2):=(show KidB _ _ from⟨by rw[lA];simp;omega,λt e=>by
    obtain⟨s',e2,_,h3⟩:=j t e;obtain rfl:=oi_ e2;rw[lA];simp;omega⟩)
   have L:=h_ j;generalize one (σ s)=r at HC i O P B L;obtain⟨k,st2⟩:=r;dsimp only at HC i O P B L;go_wp2_with fail;refine mb_ HC.o ?_;rintro w3 ⟨an,h3,k3⟩;have H:=h_<|C.o.keepI k3 ae.o;have S:=h_ h3;have U:=h_<|T.o.trans k3;have aL:=U.o.size;have aa:=S.o.lo.1;have Z:(ks++[k]).length=η ks+1:=sm_;have aJ:=G.o.1;have av:Ψ (R.w0.heap.size<=w.heap.size):=(show R.w0.heap.size<=w.heap.size from ak);go_wp2_with (at_builtin;(refine Qi_ _ rfl (.tmp 22) (.tmp 24) _ rfl w.heap.size 3 i0 (I_ j_ 0) 1 8 underlying83 E.o.1 E.o.2.1 E.o.2.2.1 E.o.2.2.2 rfl dc_ (S_ A (η ks) c) (η ks) (Qa_ ks) rfl (Mine.alloc H.o _) ⟨w3.heap.size,0,ν⟩ 1 1 [I_ j_ k] rfl rfl (K8_ _ k _) (K9_ _) mx_ oo so_ ?_);intro v' w4 x Y K)
   obtain⟨A4,ag,rfl,h4,m4⟩:=RdI.appended S.o H.o av.o bra x Y K;have F:=h_<|(U.o.below bra).grown Y (λg hg=>by rw[Q3_]at hg;exact(Mine.blk H.o hg).1);rw[<-Ke_]at m4;have o:=h_ h4;have I:=h_ m4;have HS:=h_<|Qao_ _ hi d st2 an ⟨#[44]⟩ w4 o.o
   cases h:isM R.sg st2 ⟨#[44]⟩with
   |true=>
    rw[h,Qy_ h]at HS;have f:=i.o;rw[h,ip_ rfl]at f;have ax:=h_ f;go_wp2_with fail;refine mb_ HS.o ?_;rintro w5 ⟨z,h5,k5⟩;have X:=h_<|o.o.keepI k5 I.o;have D:=h_ h5;have V:=h_<|F.o.trans k5;go_wp2;go_roundw
    ·exact⟨M,ks++[k],Qf_ st2,z,A4,ag,by rw[Z],ax,O.o.adv (Qh_ _),P.o.mono (Qh_ _),B.o.mono (Qh_ _),by rw[Z];exact X,D,V⟩
    exact G2_ hi n.o D.o<|(L.o.trans (Qh_ st2)).weak (i':=1) (j':=0) oo oo
   |false=>
    rw[h,QD_ h]at HS;have f:=i.o;rw[h,in_ dc_]at f;subst f;go_wp2_with fail;refine mb_ HS.o ?_;rintro w5 ⟨z,h5,k5⟩;have X:=h_<|o.o.keepI k5 I.o;have D:=h_ h5;have V:=h_<|F.o.trans k5;go_wp2;go_ret;exact⟨A4,ag,rfl,X.o,(by have:=B.o.1;rw[Z]at this;omega),z,D.o,V.o⟩
def jF_ (R:RC) (hi:R.imp=τ) (d lo:Nat) (one:RdSt->PR) (HO:Ψ (OneC R 166 d lo one)) (h1:∀st,Adv 1 1 st (one st).2) (m:BA) (N:Nat) (st:RdSt) (row:ON) (w:Ω) (hI:RdI R d st row w) (aa:LoB lo st) (hN:Enough R.n N st):
  Δ π 165 #[P_ (σ ⟨R.T,0,ν⟩),T_ m,.func (.func 166) #[P_ (σ ⟨R.T,0,ν⟩)] #[]] w (Qci_ R d row w (QG_ R.sg one m N [] st)):=by
 obtain⟨i0,aj,al,am,ab⟩:=info_parts QY_;have E:=h_<|ai_ aj<|ai_ al<|ai_ am ab;have n:=h_ hI;have ak:=hI.lo.1;have q:=h_ aa;have HN:=h_ hN;have HA:=h_ h1;obtain⟨Q,hQ⟩:=ex_ (QG_ R.sg one m N [] st);rw[hQ];have i:=h_ hQ;unfold Qci_;go_in;go_wp2;go_loopw [7] (λv wr=>∃(M:Nat) (ks:LI) (st':RdSt) (row':ON) (A:OA) (c:Nat),v=S_ A (η ks) c/\Ψ (QG_ R.sg one m M ks st'=Q)/\Ψ (LoB lo st')/\Ψ (Enough R.n M st')/\Ψ (KidB ks st')/\Ψ (Mine wr w.heap.size 3 1 A (η ks) c (Qa_ ks))/\Ψ (RdI (R.res A) d st' row' wr)/\Ψ (Kr R.T row w row' wr)) (λ_ wr=>Z1_ R wr)
 ·exact⟨N,[],st,row,ν,0,rfl,i,q,HN,⟨by simp,λs _=>by simp⟩,Mine.mk_nil _ _ _ _,n.o.res_new br (λg hg=>by cases hg),Kr.refl _ _ _⟩
 obtain⟨M,ks,st',row',A,c,rfl,i,q,HN,G,HM,n,HK⟩:=hrel;have aI:(R.res A).imp=τ:=hi
 cases st' with
 |none=>
  obtain⟨a,b,AN,cN,l,hc,hb,y⟩:=n.o;obtain⟨c2,c3,c4,cf,cz⟩:=hc.cu _ hi;obtain rfl:b=τ:=hb;have f:=i.o;rw[VF_]at f;subst f;go_wp2;go_ret;exact⟨A,c,rfl,HM.o,G.o.1,row',n.o,HK.o⟩
 |some s=>
  obtain⟨M,rfl⟩:∃M',M=M'+1:=⟨M-1,by
   have h1:=HN.o s rfl;have h2:=(n.o.le rfl).1;have:(R.res A).n=R.n:=rfl;omega⟩
  obtain⟨a,b,AN,cN,l,hc,hb,y⟩:=n.o;obtain⟨c2,c3,c4,cf,cz⟩:=hc.cu _ hi;obtain⟨rfl,_,_⟩:=hb;have p:=h_<|is_u _ hi d (σ s) row' m wr n.o;have f:=i.o;unfold QG_ at f;rw[in_ (show ¬(σ s).isNone=τ by simp)]at f
  cases h:isM R.sg (σ s) m with
  |true=>
   rw[h,ip_ rfl]at f;subst f;rw[h]at p;go_wp2_with fail;refine mb_ p.o ?_;intro w2 J;go_wp2;go_ret;exact⟨A,c,rfl,HM.o.next J,G.o.1,row',n.o.next J,HK.o.below J⟩
  |false=>
   rw[h,in_ dc_]at f;rw[h]at p;have i:=h_ f;go_wp2_with fail;refine mb_ p.o ?_;intro w2 J;have C:=h_ (n.o.next J);have ae:=h_ (HM.o.next J);have T:=h_ (HK.o.below J);have ab:=T.o.size;have HC:=h_ (HO.o _ (σ s) row' w2 C.o q.o);unfold QA_ at HC;have aH:=G.o.2 s rfl;have aK:=(C.o.le rfl).2;have j:=HA.o (σ s);have O:Ψ (LoB lo (one (σ s)).2):=q.o.adv j;have P:Ψ (Enough R.n M (one (σ s)).2):=HN.o.adv j;have B:Ψ (KidB (ks++[(one (σ s)).1]) (one (σ s)).2):=(show KidB _ _ from⟨by rw[lA];simp;omega,λt e=>by
    obtain⟨s',e2,_,h3⟩:=j t e;obtain rfl:=oi_ e2;rw[lA];simp;omega⟩)
   have L:=h_ j;generalize one (σ s)=r at HC i O P B L;obtain⟨k,st2⟩:=r;dsimp only at HC i O P B L;go_wp2_with fail;refine mb_ HC.o ?_;rintro w3 ⟨an,h3,k3⟩;have H:=h_<|C.o.keepI k3 ae.o;have S:=h_ h3;have U:=h_<|T.o.trans k3;have aL:=U.o.size;have aa:=S.o.lo.1;have Z:(ks++[k]).length=η ks+1:=sm_;have aJ:=G.o.1;have av:Ψ (R.w0.heap.size<=w.heap.size):=(show R.w0.heap.size<=w.heap.size from ak);go_wp2_with (at_builtin;(refine Qi_ _ rfl (.tmp 22) (.tmp 24) _ rfl w.heap.size 3 i0 (I_ j_ 0) 1 8 underlying83 E.o.1 E.o.2.1 E.o.2.2.1 E.o.2.2.2 rfl dc_ (S_ A (η ks) c) (η ks) (Qa_ ks) rfl (Mine.alloc H.o _) ⟨w3.heap.size,0,ν⟩ 1 1 [I_ j_ k] rfl rfl (K8_ _ k _) (K9_ _) mx_ oo so_ ?_);intro v' w4 x Y K)
   obtain⟨A4,ag,rfl,h4,m4⟩:=RdI.appended S.o H.o av.o bra x Y K;have F:=h_<|(U.o.below bra).grown Y (λg hg=>by rw[Q3_]at hg;exact(Mine.blk H.o hg).1);rw[<-Ke_]at m4;have o:=h_ h4;have I:=h_ m4;have HS:=h_<|Qao_ _ hi d st2 an ⟨#[44]⟩ w4 o.o
   cases h:isM R.sg st2 ⟨#[44]⟩with
   |true=>
    rw[h,Qy_ h]at HS;have f:=i.o;rw[h,ip_ rfl]at f;have ax:=h_ f;go_wp2_with fail;refine mb_ HS.o ?_;rintro w5 ⟨z,h5,k5⟩;have X:=h_<|o.o.keepI k5 I.o;have D:=h_ h5;have V:=h_<|F.o.trans k5;go_wp2;go_roundw
    ·exact⟨M,ks++[k],Qf_ st2,z,A4,ag,by rw[Z],ax,O.o.adv (Qh_ _),P.o.mono (Qh_ _),B.o.mono (Qh_ _),by rw[Z];exact X,D,V⟩
    exact G2_ hi n.o D.o<|(L.o.trans (Qh_ st2)).weak (i':=1) (j':=0) oo oo
   |false=>
    rw[h,QD_ h]at HS;have f:=i.o;rw[h,in_ dc_]at f;subst f;go_wp2_with fail;refine mb_ HS.o ?_;rintro w5 ⟨z,h5,k5⟩;have X:=h_<|o.o.keepI k5 I.o;have D:=h_ h5;have V:=h_<|F.o.trans k5;go_wp2;go_ret;exact⟨A4,ag,rfl,X.o,(by have:=B.o.1;rw[Z]at this;omega),z,D.o,V.o⟩
def VE_ {R:RC} {st:RdSt}       (h:Ψ (RdI R d st v w)) (k:Kr R.T v y x z) (m:Ψ (Mine w f 3 1 u n j s))
  (hb:Λ w y:=by repeat' (first|(with_reducible exact br)|(with_reducible refine Below.alloc ?_ ?_ _)|go_size)):Ψ (Mine z f 3 1 u n j s):=
 (show Mine z f 3 1 u n j s from(h.o.next hb).keepI k (m.o.next hb))
def QS_ {row':ON} {w2:Ω} (h:Ψ (Kr d v w x y)) (k:Kr d x z row' w2)
  (hb:Λ y z:=by repeat' (first|(with_reducible exact br)|(with_reducible refine Below.alloc ?_ ?_ _)|go_size)):Ψ (Kr d v w row' w2):=
 (show Kr d v w row' w2 from(h.o.below hb).trans k)
def pst {F:FuncId} {a:Array Υ} {I:ON->Ω->Prop}   {W:Υ} {G:Ending->Ω->Prop} (hc:Δ π F a w (λe w'=>e=R_ W/\∃row',I row' w'/\Kr d x w row' w')) (HK:Ψ (Kr d v z x y)) (k:∀w' row',Ψ (I row' w')->Ψ (Kr d v z row' w')->G (R_ W) w')
  (hb:Λ y w:=by repeat' (first|(with_reducible exact br)|(with_reducible refine Below.alloc ?_ ?_ _)|go_size)):Δ π F a w G:=
 hc.mono (by rintro e w' ⟨rfl,row',h,hk⟩;exact k w' row' h (QS_ HK hk hb))
def rst {F:FuncId} {a:Array Υ} {R:RC}  {st:RdSt}   {w0:Υ} {G:Ending->Ω->Prop} (hc:Δ π F a w (RB_ w0 w)) (HI:Ψ (RdI R d st x w)) (HK:Ψ (Kr f v y x w)) (k:∀w',Ψ (RdI R d st x w')->Ψ (Kr f v y x w')->G (R_ w0) w'):Δ π F a w G:=
 hc.mono (by rintro e w' ⟨rfl,h⟩;exact k w' (HI.o.next h) (HK.o.below h))
def KA_ {i:Array Oper} {rest:List Oper} {o:Oper} {a:Act} {Q:Exit->Act->Ω->Prop} (s row0:Operand) {R:RC} {st:RdSt}      {ks:LI} {k:Int}
  (HI:Ψ (RdI (R.res u) d st x y)) (HK:Ψ (Kr f v w x y)) (l:Ψ (Mine y w.heap.size 3 1 u n j (Qa_ ks))) (HB:Ψ (R.w0.heap.size<=w.heap.size)) (m:o.guard=ν) (ho:o.op=.call { callee:=.builtin .append,args:=#[s,row0],argTypes:=#[83,83] }) (hs:a.eval s=S_ u n j) (hx:a.eval row0=S_ (σ ⟨y.heap.size,0,ν⟩) 1 1) (t:n<=100000)
  (h:∀A' c' w',Ψ (RdI (R.res A') d st x w')->Ψ (Kr f v w x w')->Ψ (Mine w' w.heap.size 3 1 A' (n+1) c' (Qa_ (ks++[k])))->wpList π i Q rest (a.put o.dst (S_ A' (n+1) c')) w'):wpList π i Q (o::rest) a (y.alloc (C_ #[I_ j_ k] 3)):=by
 obtain⟨i0,hi,p,q,r⟩:=info_parts QY_;have hz:=HK.o.size;refine Qi_ _ m s row0 _ ho w.heap.size 3 i0 (I_ j_ 0) 1 8 underlying83 hi p q r rfl dc_ (S_ u n j) n (Qa_ ks) hs (Mine.alloc l.o _) ⟨y.heap.size,0,ν⟩ 1 1 [I_ j_ k] hx rfl (K8_ _ k _) (K9_ _) mx_ oo so_ ?_;intro v' w5 T e row;obtain⟨A5,c5,rfl,h5,m5⟩:=RdI.appended HI.o l.o HB.o bra T e row;have w1:=h_<|(HK.o.below bra).grown e (λg e=>by rw[Q3_]at e;exact(Mine.blk l.o e).1);rw[<-Ke_]at m5;exact h A5 c5 w5 h5 w1 m5
def jO_ (ks:LI) (h:η ks<=100000):Mine (a.alloc (C_ (Qa_ ks).toArray 3)) a.heap.size 3 1 (σ ⟨a.heap.size,0,ν⟩) (η ks) (η ks) (Qa_ ks):=
 Mine.mk_own ⟨[],by simpa using Blk.new a 3 (Qa_ ks).toArray,by simp[Qa_]⟩ (by simp[Qa_]) (lr_ _) (lr_ _) mx_
def GW_:Mine (a.alloc (C_ #[I_ j_ e] 3)) a.heap.size 3 1 (σ ⟨a.heap.size,0,ν⟩) 1 1 (Qa_ [e]):=jO_ a [e] sm_
def kid3:Mine (a.alloc (C_ #[I_ j_ e,I_ j_ l,I_ j_ g] 3)) a.heap.size 3 1 (σ ⟨a.heap.size,0,ν⟩) 3 3 (Qa_ [e,l,g]):=jO_ a [e,l,g] sm_
def QP_ (h:d<f) (st:RdSt):Enough d f st:=λs _=>oo
section
variable {R:RC} (U:Nat->Prop) (hi:R.imp=τ) (d:Nat) (st:RdSt) (row:ON)
include hi
def Qdr_ (lo:Nat) (one:RdSt->PR) (HO:Ψ (OneC R 202 d lo one)) (h1:∀st,Adv 1 1 st (one st).2) (m:BA) (N:Nat) (w:Ω) (hI:RdI { R with U:=U } d st row w) (a:LoB lo st) (hN:Enough R.n N st):
  Δ π 165 #[P_ (σ ⟨R.T,0,ν⟩),T_ m,.func (.func 202) #[P_ (σ ⟨R.T,0,ν⟩)] #[]] w λe w'=>∃(A:OA) (c:Nat),e=R_ (S_ A (QG_ R.sg one m N [] st).1.length c)/\Mine w' w.heap.size 3 1 A (QG_ R.sg one m N [] st).1.length c (Qa_ (QG_ R.sg one m N [] st).1)/\(QG_ R.sg one m N [] st).1.length<=301/\∃row',RdI (({ R with U:=U }:RC).res A) d (QG_ R.sg one m N [] st).2 row' w'/\Kr R.T row w row' w':=
 GZ_ { R with U:=U } hi d lo one HO h1 m N st row w hI a hN
end
def vC_ (R:RC) (hi:R.imp=τ) (d lo:Nat) (one:RdSt->PR) (HO:Ψ (OneC R 202 d lo one)) (h1:∀st,Adv 1 1 st (one st).2) (N:Nat) (k:Int) (st:RdSt) (row:ON) (w:Ω) (E:RdI R d st row w) (G:LoB lo st) (hN:R.n<N):
  Δ π 237 #[P_ (σ ⟨R.T,0,ν⟩),I_ j_ k] w (QA_ R d row w (I_ j_ (Yg_ R.sg one N k st).1) (Yg_ R.sg one N k st).2):=by
 obtain⟨i0,F,I,J,f⟩:=info_parts QY_;have i:=h_<|ai_ F<|ai_ I<|ai_ J f;have P:=h_ E;have S:=h_<|Kr.refl R.T row w;have X:=h_ G;have HA:=h_ h1;have ah:=h_ E.lo;unfold QA_ Yg_;go_in;go_wp2_with fail
 refine pst (ZQ_ R hi d st row ⟨#[40]⟩ w P.o) S ?_;intro w1 K t y;have V:Ψ (LoB lo (Qn_ R.sg st ⟨#[40]⟩)):=X.o.adv<|Qq_ _ _;have h:=h_<|t.o.res_new (A:=σ ⟨w1.heap.size,0,ν⟩) (br.alloc (lr_ _) (C_ #[I_ j_ k] 3)) (λg hg=>by simp at hg;subst hg;simp);have D:=h_<|GW_ w1 k;have b:=h_ t.o.lo;go_wp2_with fail
 refine(Qdr_ _ hi d _ K lo one HO HA.o ⟨#[41]⟩ N _ h.o V.o (QP_ hN _)).mono ?_;rintro e w2 ⟨A,c,rfl,m2,am,row2,h2,O⟩;have l:=VE_ h O D;have z:=QS_ y O;have v:=h_ h2.unres;have Y:=h_ m2;have f:=O.size;have aj:w1.heap.size<=w2.heap.size:=by simp at f;omega
 have ag:R.w0.heap.size<=w1.heap.size:=b.o.1;have U:Ψ (Qa_ [k]++Qa_ (QG_ R.sg one ⟨#[41]⟩ N [] (Qn_ R.sg st ⟨#[40]⟩)).1=Qa_ (k::(QG_ R.sg one ⟨#[41]⟩ N [] (Qn_ R.sg st ⟨#[40]⟩)).1)):=(show _=_ by simp[Qa_]);rcases Y.o.own with⟨eA,h0,ad⟩|⟨g,eA,ai,al,ak,o⟩
 ·have H:Ψ ((QG_ R.sg one ⟨#[41]⟩ N [] (Qn_ R.sg st ⟨#[40]⟩)).1=[]):=ln_ h0;have a:=h_ (λ(w':Ω) (E:RdI (R.res (σ ⟨w1.heap.size,0,ν⟩)) d (QG_ R.sg one ⟨#[41]⟩ N [] (Qn_ R.sg st ⟨#[40]⟩)).2 row2 w') (hm:Mine w' w1.heap.size 3 1 (σ ⟨w1.heap.size,0,ν⟩) 1 1 (Qa_ [k]))=>KK_ R hi d _ row2 ⟨#[41]⟩ 5 noT (σ ⟨w1.heap.size,0,ν⟩) 1 1 (k::(QG_ R.sg one ⟨#[41]⟩ N [] (Qn_ R.sg st ⟨#[40]⟩)).1) φ w1.heap.size w' E.unres (by rw[H.o];exact hm) b.o);unfold QA_ at a;subst eA;subst ad;rw[h0];go_wp2_with (at_builtin;(refine wpList_append_own_none rfl (.tmp 9) (.tmp 13) _ rfl w1.heap.size 3 i0 1 underlying83 i.o.1 (S_ (σ ⟨w1.heap.size,0,ν⟩) 1 1) 1 (Qa_ [k]) rfl l.o rfl ?_));go_wp2_with fail;refine mb_ (a.o w2 v.o l.o) ?_;rintro w3 ⟨L,h3,k3⟩;go_wp2;go_ret;exact⟨rfl,L,h3,z.o.trans k3⟩
 subst eA;have n:∀j u,(Qa_ (QG_ R.sg one ⟨#[41]⟩ N [] (Qn_ R.sg st ⟨#[40]⟩)).1)[j]? =σ u->w2.cell? ((⟨g,0,ν⟩:Addr).add j)=σ u:=λj u hj=>by
  obtain⟨rest,hb,_⟩:=o;rw[Addr.add_lit,hb.cell,Nat.zero_add];have ae:j<(Qa_ (QG_ R.sg one ⟨#[41]⟩ N [] (Qn_ R.sg st ⟨#[40]⟩)).1).length:=(gs_.1 hj).1;simpa[List.getElem?_append_left ae]using hj
 have s:=h_ n;have C:Ψ (∀u∈Qa_ (QG_ R.sg one ⟨#[41]⟩ N [] (Qn_ R.sg st ⟨#[40]⟩)).1,u.oneCell'=τ):=(show ∀u∈_,_ from λu hu=>by
  simp only[Qa_,List.mem_map]at hu;obtain⟨x,_,rfl⟩:=hu
  rfl)
 have B:Ψ ((Qa_ (QG_ R.sg one ⟨#[41]⟩ N [] (Qn_ R.sg st ⟨#[40]⟩)).1).length=(QG_ R.sg one ⟨#[41]⟩ N [] (Qn_ R.sg st ⟨#[40]⟩)).1.length*1):=(show _=_ by simp[Qa_]);go_wp2_with (at_builtin;(refine Qi_ _ rfl (.tmp 9) (.tmp 13) _ rfl w1.heap.size 3 i0 (I_ j_ 0) 1 8 underlying83 i.o.1 i.o.2.1 i.o.2.2.1 i.o.2.2.2 rfl dc_ (S_ (σ ⟨w1.heap.size,0,ν⟩) 1 1) 1 (Qa_ [k]) rfl l.o ⟨g,0,ν⟩ _ c _ rfl B.o s.o C.o mx_ oo oo ?_);intro v' w4 m r p;obtain⟨A4,aa,rfl,h4,m4⟩:=RdI.appended v.o l.o b.o.1 br m r p);have T:=h_<|z.o.grown r (λq hq=>by rw[Q3_]at hq;have:=(Mine.blk l.o hq).1;have:=y.o.size;omega);rw[U.o]at m4;have Q:=h_ h4.unres;have Z:=h_ m4;have a:=h_<|KK_ R hi d _ row2 ⟨#[41]⟩ 5 noT A4 _ aa (k::(QG_ R.sg one ⟨#[41]⟩ N [] (Qn_ R.sg st ⟨#[40]⟩)).1) φ w1.heap.size w4 Q.o Z.o b.o;unfold QA_ at a;go_wp2_with fail
 refine mb_ a.o ?_;rintro w5 ⟨M,h5,k5⟩;go_wp2;go_ret;exact⟨rfl,M,h5,T.o.trans k5⟩
def k9_:∃W,W=(((((((a.alloc (C_ #[T_ ⟨#[124,124]⟩] 9)).alloc (C_ #[T_ ⟨#[38,38]⟩] 9)).alloc (C_ #[T_ ⟨#[61,61]⟩] 9)).alloc (C_ #[T_ ⟨#[60]⟩] 9)).alloc (C_ #[T_ ⟨#[43]⟩,T_ ⟨#[45]⟩] 9)).alloc (C_ #[T_ ⟨#[42]⟩] 9)).alloc (C_ #[S_ (σ ⟨a.heap.size,0,ν⟩) 1 1,S_ (σ ⟨a.heap.size+1,0,ν⟩) 1 1,S_ (σ ⟨a.heap.size+1+1,0,ν⟩) 1 1,S_ (σ ⟨a.heap.size+1+1+1,0,ν⟩) 1 1,S_ (σ ⟨a.heap.size+1+1+1+1,0,ν⟩) 2 2,S_ (σ ⟨a.heap.size+1+1+1+1+1,0,ν⟩) 1 1] 31))/\Λ a W/\Blk W (a.heap.size) 9 #[T_ ⟨#[124,124]⟩]/\Blk W (a.heap.size+1) 9 #[T_ ⟨#[38,38]⟩]/\Blk W (a.heap.size+1+1) 9 #[T_ ⟨#[61,61]⟩]/\Blk W (a.heap.size+1+1+1) 9 #[T_ ⟨#[60]⟩]/\Blk W (a.heap.size+1+1+1+1) 9 #[T_ ⟨#[43]⟩,T_ ⟨#[45]⟩]/\Blk W (a.heap.size+1+1+1+1+1) 9 #[T_ ⟨#[42]⟩]:=by
 refine⟨_,rfl,grow_,?_,?_,?_,?_,?_,?_⟩
 ·have h:=Blk.new a 9 #[T_ ⟨#[124,124]⟩];exact((((((h.alloc _).alloc _).alloc _).alloc _).alloc _).alloc _)
 ·have h:=Blk.new (a.alloc (C_ #[T_ ⟨#[124,124]⟩] 9)) 9 #[T_ ⟨#[38,38]⟩];simp only[ws_]at h;exact(((((h.alloc _).alloc _).alloc _).alloc _).alloc _)
 ·have h:=Blk.new ((a.alloc (C_ #[T_ ⟨#[124,124]⟩] 9)).alloc (C_ #[T_ ⟨#[38,38]⟩] 9)) 9 #[T_ ⟨#[61,61]⟩];simp only[ws_]at h;exact((((h.alloc _).alloc _).alloc _).alloc _)
 ·have h:=Blk.new (((a.alloc (C_ #[T_ ⟨#[124,124]⟩] 9)).alloc (C_ #[T_ ⟨#[38,38]⟩] 9)).alloc (C_ #[T_ ⟨#[61,61]⟩] 9)) 9 #[T_ ⟨#[60]⟩];simp only[ws_]at h;exact(((h.alloc _).alloc _).alloc _)
 ·have h:=Blk.new ((((a.alloc (C_ #[T_ ⟨#[124,124]⟩] 9)).alloc (C_ #[T_ ⟨#[38,38]⟩] 9)).alloc (C_ #[T_ ⟨#[61,61]⟩] 9)).alloc (C_ #[T_ ⟨#[60]⟩] 9)) 9 #[T_ ⟨#[43]⟩,T_ ⟨#[45]⟩];simp only[ws_]at h;exact((h.alloc _).alloc _)
 have h:=Blk.new (((((a.alloc (C_ #[T_ ⟨#[124,124]⟩] 9)).alloc (C_ #[T_ ⟨#[38,38]⟩] 9)).alloc (C_ #[T_ ⟨#[61,61]⟩] 9)).alloc (C_ #[T_ ⟨#[60]⟩] 9)).alloc (C_ #[T_ ⟨#[43]⟩,T_ ⟨#[45]⟩] 9)) 9 #[T_ ⟨#[42]⟩];simp only[ws_]at h;exact(h.alloc _)
def OffM (b:Bool) (j:Nat):Prop:=0<j->b=φ
def qf_ (R:RC) (hi:R.imp=τ) (d:Nat) (st:RdSt) (row:ON) (w:Ω) (hI:RdI R d st row w) (l:Int) (t:BA) (hl:(l=0/\t=⟨#[124,124]⟩)\/(l=1/\t=⟨#[38,38]⟩)\/(l=2/\t=⟨#[61,61]⟩)\/(l=3/\t=⟨#[60]⟩)\/(l=5/\t=⟨#[42]⟩)):
  Δ π 282 #[P_ (σ ⟨R.T,0,ν⟩),I_ j_ l] w (RB_ (T_ (if isM R.sg st t=τ then t else noT)) w):=by
 have g:=h_ (λW (c:Λ w W)=>Vj_ R hi d st row t W (hI.next c));obtain⟨W,c,x,B0,B1,B2,B3,B4,B5⟩:=k9_ w;replace c:=h_ c;generalize isM R.sg st t=M at g |-
 generalize m:(if M=τ then t else noT)=mk;have n:=h_ m.symm;rcases hl with⟨rfl,rfl⟩|⟨rfl,rfl⟩|⟨rfl,rfl⟩|⟨rfl,rfl⟩|⟨rfl,rfl⟩
 have k:=B0
 rotate_left
 have k:=B1
 rotate_left
 have k:=B2
 rotate_left
 have k:=B3
 rotate_left
 have k:=B5
 all_goals
  go_in;go_upto_region 3 with fail
  rw[<-c.o];go_loopw [20] (λi wr=>∃j:Nat,j<=1/\i=I_ j_ j/\OffM M j/\Λ W wr) (λi _=>1-(intOf i).toNat)
  ·exact⟨0,oo,rfl,(λh=>oo),br⟩
  obtain⟨j,hj,rfl,p,s⟩:=hrel;have q:=k.next s;have kz:=q.lt;have k0:=q.q0;have b:=Qb_ x s;rcases (show j=0\/j=1 from oo)with rfl|rfl
  ·have o:=h_ (g.o _ b);rcases Bool.eq_false_or_eq_true M with a|a
   ·rw[a]at o;obtain rfl:=n.o.trans (ip_ a);go_wp2_with fail;refine mb_ o.o ?_;intro w2 r;go_wp2;go_ret;exact⟨rfl,Qb_ b r⟩
   rw[a]at o;have f:OffM M 1:=λ_=>a
   go_wp2_with fail;refine mb_ o.o ?_;intro w2 r;have v:=Qb_ s r;go_wp2;go_roundw
   ·exact⟨1,oo,by go_num,f,v⟩
   simp[intOf]
  obtain rfl:mk=noT:=(by rw[n.o,p oo,in_ dc_]);go_wp2;go_ret;exact⟨rfl,b⟩
def Qhl_ (sg:List SgP) (st:RdSt):KY_ sg st 4=if isM sg st ⟨#[43]⟩=τ then ⟨#[43]⟩else if isM sg st ⟨#[45]⟩=τ then ⟨#[45]⟩else noT:=rfl
def jd_ (R:RC) (hi:R.imp=τ) (d:Nat) (st:RdSt) (row:ON) (w:Ω) (t:RdI R d st row w):
  Δ π 282 #[P_ (σ ⟨R.T,0,ν⟩),I_ j_ 4] w (RB_ (T_ (KY_ R.sg st 4)) w):=by
 have r:=h_ (λW (n:Λ w W)=>Vj_ R hi d st row ⟨#[43]⟩ W (t.next n));have s:=h_ (λW (n:Λ w W)=>Vj_ R hi d st row ⟨#[45]⟩ W (t.next n));have k:=h_<|Qhl_ R.sg st;generalize KY_ R.sg st 4=x at k |-
 go_in;go_upto_region 3 with fail
 obtain⟨W,n,v,B0,B1,B2,B3,K0,B5⟩:=k9_ w;rw[<-n];go_loopw [20] (λi wr=>∃j:Nat,j<=2/\i=I_ j_ j/\Ψ ((0<j->isM R.sg st ⟨#[43]⟩=φ)/\(1<j->isM R.sg st ⟨#[45]⟩=φ))/\Λ W wr) (λi _=>2-(intOf i).toNat)
 ·exact⟨0,oo,rfl,(show(0<0->isM R.sg st ⟨#[43]⟩=φ)/\(1<0->isM R.sg st ⟨#[45]⟩=φ)from⟨λh=>oo,λh=>oo⟩),br⟩
 obtain⟨j,hj,rfl,f,q⟩:=hrel;have p:=K0.next q;have kz:=p.lt;have k0:=p.q0;have k1:=p.q1;have c:=Qb_ v q;rcases (show j=0\/j=1\/j=2 from oo)with rfl|rfl|rfl
 ·have g:=h_ (r.o _ c);rcases bft (isM R.sg st ⟨#[43]⟩)with a|a
  ·rw[a]at g;have o:x=⟨#[43]⟩:=(by rw[k.o,a,ip_ rfl]);subst o;go_wp2_with fail;refine mb_ g.o ?_;intro w2 l;go_wp2;go_ret;exact⟨rfl,Qb_ c l⟩
  rw[a]at g;have b:Ψ ((0<1->isM R.sg st ⟨#[43]⟩=φ)/\(1<1->isM R.sg st ⟨#[45]⟩=φ)):=(show(0<1->isM R.sg st ⟨#[43]⟩=φ)/\(1<1->isM R.sg st ⟨#[45]⟩=φ)from⟨λ_=>a,λh=>oo⟩);go_wp2_with fail;refine mb_ g.o ?_;intro w2 l;have m:=Qb_ q l;go_wp2;go_roundw
  ·exact⟨1,oo,by go_num,b,m⟩
  simp[intOf]
 ·have g:=h_ (s.o _ c);rcases bft (isM R.sg st ⟨#[45]⟩)with a|a
  ·rw[a]at g;have o:x=⟨#[45]⟩:=(by rw[k.o,(f.o.1 oo),in_ dc_,a,ip_ rfl]);subst o;go_wp2_with fail;refine mb_ g.o ?_;intro w2 l;go_wp2;go_ret;exact⟨rfl,Qb_ c l⟩
  rw[a]at g;have b:Ψ ((0<2->isM R.sg st ⟨#[43]⟩=φ)/\(1<2->isM R.sg st ⟨#[45]⟩=φ)):=(show(0<2->isM R.sg st ⟨#[43]⟩=φ)/\(1<2->isM R.sg st ⟨#[45]⟩=φ)from⟨λ_=>(f.o.1 oo),λ_=>a⟩);go_wp2_with fail;refine mb_ g.o ?_;intro w2 l;have m:=Qb_ q l;go_wp2;go_roundw
  ·exact⟨2,oo,by go_num,b,m⟩
  simp[intOf]
 have o:x=noT:=(by rw[k.o,(f.o.1 oo),in_ dc_,(f.o.2 oo),in_ dc_]);subst o;go_wp2;go_ret;exact⟨rfl,c⟩
def qe_ (R:RC) (hi:R.imp=τ) (d:Nat) (st:RdSt) (row:ON) (l:Nat) (hl:l<6) (w:Ω) (hI:RdI R d st row w):
  Δ π 282 #[P_ (σ ⟨R.T,0,ν⟩),I_ j_ l] w (RB_ (T_ (KY_ R.sg st l)) w):=by
 rcases (show l=4\/l=0\/l=1\/l=2\/l=3\/l=5 from oo)with rfl|rfl|rfl|rfl|rfl|rfl
 ·exact jd_ R hi d st row w hI
 all_goals exact qf_ R hi d st row w hI _ _ sm_
def FnAt (sg:List SgP) (st:RdSt) (i N:Nat):Prop:=∃f,η sg<=f+i/\fnF sg st f i=N
def Qc1_ {st:RdSt} (h:FnAt r st d f) (hn:Kp_ r st d=φ):f=d:=by
 obtain⟨sg,_,h⟩:=h
 cases sg with
 |zero=>exact h.symm
 |succ sg=>unfold fnF at h;rw[hn,in_ dc_]at h;exact h.symm
def Qc0_ {st:RdSt} (h:FnAt r st d f) (hn:Kp_ r st d=τ) (hc:((Qx_ r st (d+1)).2.1.toList==[44])=τ):FnAt r st (d+2) f:=by
 obtain⟨sg,hf,h⟩:=h;obtain⟨s,rfl,hl⟩:=Z7_ hn
 cases sg with
 |zero=>omega
 |succ sg=>unfold fnF at h;rw[hn,ip_ rfl,hc,ip_ rfl]at h;exact⟨sg,oo,h⟩
def QcZ_ {st:RdSt} (h:FnAt r st d f) (hn:Kp_ r st d=τ) (hc:((Qx_ r st (d+1)).2.1.toList==[44])=φ):f=d+1:=by
 obtain⟨sg,hf,h⟩:=h;obtain⟨s,rfl,hl⟩:=Z7_ hn
 cases sg with
 |zero=>omega
 |succ sg=>unfold fnF at h;rw[hn,ip_ rfl,hc,in_ dc_]at h;exact h.symm
def QaZ_ (R:RC) (hi:R.imp=τ) (d:Nat) (st:RdSt) (row:ON) (w:Ω) (I:RdI R d st row w):
  Δ π 298 #[P_ (σ ⟨R.T,0,ν⟩)] w (RB_ (B_ (fnB R.sg st)) w):=by
 obtain⟨N,P⟩:=ex_ (fnF R.sg st (η R.sg+1) 1);have j:Ψ (fnB R.sg st=(((Qx_ R.sg st N).2.1.toList==[41])&&((Qx_ R.sg st (N+1)).2.1.toList==[61,62]))):=(show _=_ by unfold fnB;rw[P]);have C:Ψ (FnAt R.sg st 1 N):=⟨η R.sg+1,oo,P⟩;have O:=h_ (show η R.sg<=3000 by rw[I.ok.len];exact I.ok.most);have q:=h_ (λ(i:Nat) (hi2:i<=100000) W (Q:Λ w W)=>YH_ R hi d st row i W (I.next Q) hi2);have K:=h_ (λ(i:Nat) (hi2:i<=100000) W (Q:Λ w W)=>KM_ R hi d st row i W (I.next Q) hi2);generalize fnB R.sg st=B at j |-
 have X:=ky_;go_in;go_wp2;go_loopw [3] (λn wr=>∃i:Nat,n=I_ j_ i/\i<=3002/\Ψ (FnAt R.sg st i N)/\Λ w wr) (λn _=>4000-(intOf n).toNat)
 ·exact⟨1,rfl,oo,C,br⟩
 obtain⟨i,rfl,Y,k,A⟩:=hrel;rcases bft (Kp_ R.sg st i)with o|o
 ·have Z:i<3000:=(by obtain⟨s,_,hl⟩:=Z7_ o;have:=O.o;omega);have c:=h_ (K.o i oo _ A);rw[o]at c;have E:=h_ (λh=>Qc0_ k.o o h);have D:=h_ (λh=>QcZ_ k.o o h);go_wp2_with fail;refine mb_ c.o ?_;intro w2 F;have g:=Qb_ A F;have l:=q.o (i+1) oo _ g;rw[show((i+1:Nat):Int)=(i:Int)+1 from oo]at l;have m:=h_ l;generalize T:Qx_ R.sg st (i+1)=x at m E D;obtain⟨xk,L,xp,xz⟩:=x;dsimp only at m E D;go_wp2_with fail;refine mb_ m.o ?_;intro w3 g3;have v:=Qb_ g g3;rcases bft (L.toList==[44])with J|J
  ·have S:(L.toList != [44])=φ:=(by rw[bne,J];rfl);have M:=h_<|E.o J;go_wp2;refine⟨⟨i+2,by go_num,oo,M,v⟩,?_⟩;exact ms_
  have S:(L.toList != [44])=τ:=(by rw[bne,J];rfl);obtain rfl:N=i+1:=D.o J;rw[T]at j;have l:=q.o (i+1+1) oo;rw[show((i+1+1:Nat):Int)=(i:Int)+1+1 from oo]at l;have p:=q.o (i+1) oo _ v;rw[show((i+1:Nat):Int)=(i:Int)+1 from oo]at p;rw[T]at p;have a:=h_ l;have b:=h_ p;generalize z:Qx_ R.sg st (i+1+1)=V at a j;obtain⟨bk,r,bp,bz⟩:=V;dsimp only at b a j;go_wp2_with fail;refine mb_ b.o ?_;intro wa G;have f:=Qb_ v G;rcases bft (L.toList==[41])with h1|h1
  ·have t:B=(r.toList==[61,62]):=(by rw[j.o,h1,τb]);subst t;go_wp2_with fail;refine mb_ (a.o _ f) ?_;intro wb H;have y:=Qb_ f H;go_wp2;go_ret;exact⟨rfl,y⟩
  have t:B=φ:=(by rw[j.o,h1,φa]);subst t;go_wp2;go_ret;exact⟨rfl,f⟩
 obtain rfl:N=i:=Qc1_ k.o o;have c:=h_<|K.o N oo _ A;rw[o]at c;go_wp2_with fail
 refine mb_ c.o ?_;intro w2 F;have g:=Qb_ A F;have l:=q.o (N+1) oo;rw[show((N+1:Nat):Int)=(N:Int)+1 from oo]at l;have a:=h_ l;have b:=h_<|q.o N oo _ g;generalize U:Qx_ R.sg st (N)=xa at b j;generalize z:Qx_ R.sg st (N+1)=V at a j;obtain⟨ak,at_,ap,az⟩:=xa;obtain⟨bk,r,bp,bz⟩:=V;dsimp only at b a j;go_wp2_with fail
 refine mb_ b.o ?_;intro wa G;have f:=Qb_ g G;rcases bft (at_.toList==[41])with h1|h1
 ·have t:B=(r.toList==[61,62]):=(by rw[j.o,h1,τb]);subst t;go_wp2_with fail;refine mb_ (a.o _ f) ?_;intro wb H;have y:=Qb_ f H;go_wp2;go_ret;exact⟨rfl,y⟩
 have t:B=φ:=(by rw[j.o,h1,φa]);subst t;go_wp2;go_ret;exact⟨rfl,f⟩
def Need (n:Nat) (st:RdSt) (r f:Nat):Prop:=r<=f/\∀s,st=σ s->(n-s.at_)*14+r<=f
def Need.same {n r r' f i j:Nat} {st st':RdSt} (h:Need n st r (f+1)) (hr:r'+1<=r) (k:Adv i j st st'):Need n st' r' f:=
 ⟨by have:=h.1;omega,λt e=>by
  obtain⟨s,e2,h1,_⟩:=k t e;have:=h.2 s e2;have:n-t.at_<=n-s.at_:=oo;omega⟩
def Need.next {n r r' f i j:Nat} {s:PS} {st':RdSt} (h:Need n (σ s) r (f+1)) (a:s.at_<n) (k:Adv (i+1) j (σ s) st') (hr:r'<=13):Need n st' r' f:=by
 have h2:=h.2 s rfl;have hD:(n-s.at_)=(n-s.at_-1)+1:=oo;refine⟨oo,λt e=>?_⟩;obtain⟨s',e2,h1,_⟩:=k t e;obtain rfl:=oi_ e2;have:n-t.at_<=n-s.at_-1:=oo;omega
structure EC (R:RC) (N f:Nat):Prop where
 value:∀(U:Nat->Prop) (d:Nat) (st:RdSt) (row:ON) (w:Ω),RdI { R with U:=U } d st row w->Need R.n st 11 f->d+f<=100000->Δ π 202 #[P_ (σ ⟨R.T,0,ν⟩)] w (QA_ { R with U:=U } d row w (I_ j_ (Qd_ R.sg N f .value d st).1) (Qd_ R.sg N f .value d st).2)
 pick:∀(U:Nat->Prop) (d:Nat) (st:RdSt) (row:ON) (w:Ω),RdI { R with U:=U } d st row w->Need R.n st 10 f->d+f<=100000->Δ π 236 #[P_ (σ ⟨R.T,0,ν⟩)] w (QA_ { R with U:=U } d row w (I_ j_ (Qd_ R.sg N f .pick d st).1) (Qd_ R.sg N f .pick d st).2)
 chain:∀(U:Nat->Prop) (l d:Nat) (st:RdSt) (row:ON) (w:Ω),RdI { R with U:=U } d st row w->l<=6->Need R.n st (9-l) f->d+f<=100000->Δ π 261 #[P_ (σ ⟨R.T,0,ν⟩),I_ j_ l] w (QA_ { R with U:=U } d row w (I_ j_ (Qd_ R.sg N f (.chain l) d st).1) (Qd_ R.sg N f (.chain l) d st).2)
 end_:∀(U:Nat->Prop) (d:Nat) (st:RdSt) (row:ON) (w:Ω),RdI { R with U:=U } d st row w->Need R.n st 2 f->d+f<=100000->Δ π 281 #[P_ (σ ⟨R.T,0,ν⟩)] w (QA_ { R with U:=U } d row w (I_ j_ (Qd_ R.sg N f .end_ d st).1) (Qd_ R.sg N f .end_ d st).2)
 base:∀(U:Nat->Prop) (d:Nat) (st:RdSt) (row:ON) (w:Ω),RdI { R with U:=U } d st row w->Need R.n st 1 f->d+f<=100000->Δ π 294 #[P_ (σ ⟨R.T,0,ν⟩)] w (QA_ { R with U:=U } d row w (I_ j_ (Qd_ R.sg N f .base d st).1) (Qd_ R.sg N f .base d st).2)
 stmt:∀(U:Nat->Prop) (b:Bool) (d:Nat) (st:RdSt) (row:ON) (w:Ω),RdI { R with U:=U } d st row w->Need R.n st 12 f->d+f<=100000->Δ π 208 #[P_ (σ ⟨R.T,0,ν⟩),B_ b] w (QA_ { R with U:=U } d row w (I_ j_ (Qd_ R.sg N f (.stmt b) d st).1) (Qd_ R.sg N f (.stmt b) d st).2)
 block:∀(U:Nat->Prop) (d:Nat) (st:RdSt) (row:ON) (w:Ω),RdI { R with U:=U } d st row w->Need R.n st 13 f->d+f<=100000->Δ π 167 #[P_ (σ ⟨R.T,0,ν⟩)] w (QA_ { R with U:=U } d row w (I_ j_ (Qd_ R.sg N f .block d st).1) (Qd_ R.sg N f .block d st).2)
def EC.one {R:RC} {N f:Nat} (h:EC R N f) {d r:Nat} (hd:d+f<=100000) {s:PS} (hn:Need R.n (σ s) r (f+1)) (b:s.at_<R.n):OneC R 202 d (s.at_+1) (Qd_ R.sg N f .value d):=
 λU st row w hI a=>h.value U d st row w hI (by
  have h2:=hn.2 s rfl;refine⟨oo,λt e=>?_⟩;have:=a t e;have:R.n-t.at_<=R.n-s.at_-1:=oo;omega) hd
def qH_ {R:RC} {st:RdSt}   (hi:R.imp=τ) (h:RdI R (d+1) st v w):
  w.cell? ⟨R.T,3,ν⟩=σ (I_ j_ ((d:Int)+1))/\(∀i,w.frozen? ⟨R.T,i,ν⟩=φ)/\R.T<w.heap.size/\RdI R d st v (w.setCell ⟨R.T,3,ν⟩ (I_ j_ d))/\Kr R.T v w v (w.setCell ⟨R.T,3,ν⟩ (I_ j_ d)):=by
 obtain⟨a,b,AN,cN,l,hc,e,c⟩:=h;obtain⟨c0,c2,c3,c4,c5,cf,cz⟩:=hc.ci hi;have hF:=RdI.nest1 hi hc e c (u:=(d:Int)) (d':=d) rfl;exact⟨by rw[c3];simp,cf,cz,hF.1,hF.2⟩
def QdQ_ (R:RC) (hi:R.imp=τ) (N f:Nat) (U:EC R N f) (d:Nat) (st:RdSt) (row:ON) (w:Ω) (T:RdI R d st row w) (J:Need R.n st 10 (f+1)) (hd:d+(f+1)<=100000):
  Δ π 236 #[P_ (σ ⟨R.T,0,ν⟩)] w (QA_ R d row w (I_ j_ (Vq_ R.sg (Qd_ R.sg N f) d st).1) (Vq_ R.sg (Qd_ R.sg N f) d st).2):=by
 have D:=h_ T;have F:=h_<|Kr.refl R.T row w;have A:=J.same (r':=9) oo<|Xq_ d st;have B:=h_ (λ(row:ON) (W:Ω) (h:RdI R (d+1) (KI_ d st) row W)=>U.chain R.U 0 (d+1) (KI_ d st) row W h oo A oo);have a:=(Xq_ d st).trans (QB_ (sg:=R.sg) (N:=N) f (.chain 0) (d+1) (KI_ d st));have I:∀(d':Nat) (row:ON) (W:Ω) (t:PS),RdI R d' (σ t) row W->t.at_<=R.n:=λd' row W t h=>(h.le rfl).1
 have m:=T.ok.len;unfold QA_ at B |-
 unfold Vq_;dsimp only;generalize Qd_ R.sg N f (.chain 0) (d+1) (KI_ d st)=r at B a |-
 obtain⟨k0,c⟩:=r;dsimp only at B a |-
 rcases bft (isM R.sg c ⟨#[63]⟩)with j|j
 ·rw[ip_ j];have K:=Qy_ j;obtain⟨t,et,ae⟩:=Xe_ j;obtain⟨s,es,ha,_⟩:=a t et;subst es;have L:s.at_<R.n:=oo;have k:=h_ (λ(row:ON) (W:Ω) (h:RdI R (d+1) (Qf_ c) row W)=>U.pick R.U (d+1) (Qf_ c) row W h (J.next L (a.trans (Qh_ _)) oo) oo);have b:=(a.trans (Qh_ c)).trans (QB_ (sg:=R.sg) (N:=N) f .pick (d+1) (Qf_ c));unfold QA_ at k;generalize Qd_ R.sg N f .pick (d+1) (Qf_ c)=r2 at k b |-
  obtain⟨k1,st2⟩:=r2;dsimp only at k b |-
  have l:=h_ (λ(row:ON) (W:Ω) (h:RdI R (d+1) (Qn_ R.sg st2 ⟨#[58]⟩) row W)=>U.pick R.U (d+1) (Qn_ R.sg st2 ⟨#[58]⟩) row W h (J.next L (b.trans (Qq_ _ _)) oo) oo);unfold QA_ at l;generalize Qd_ R.sg N f .pick (d+1) (Qn_ R.sg st2 ⟨#[58]⟩)=r3 at l |-
  obtain⟨k2,af⟩:=r3;dsimp only at l |-
  have z:=h_ K;have y:=h_ j;go_in;go_wp2_with fail;refine pst (UT_ R hi d (σ s) row w D.o oo) F ?_;intro w1 O o q;go_wp2_with fail;refine pst (B.o _ _ o.o) q ?_;intro w2 row2 p v;go_wp2_with fail;refine(YP_ R hi (d+1) c row2 ⟨#[63]⟩ w2 p.o).mono ?_;rw[y.o,z.o];rintro e w3 ⟨rfl,n,H,M⟩;have x:=QS_ v M;have V:=h_ H;go_wp2_with fail;refine pst (k.o _ _ V.o) x ?_;intro w4 P X aa;go_wp2_with fail;refine pst (ZQ_ R hi (d+1) st2 P ⟨#[58]⟩ w4 X.o) aa ?_;intro w5 ah Y ab;go_wp2_with fail;refine pst (l.o _ _ Y.o) ab ?_;intro w6 Q E ac;have G:=h_ E.o.lo;go_wp2_with fail;refine pst (addK R hi (d+1) af Q 8 noT (σ ⟨w6.heap.size,0,ν⟩) 3 3 [k0,k1,k2] φ w6.heap.size _ (E.o.alloc _) (kid3 w6 k0 k1 k2) G.o) ac ?_;intro w7 S Z ad;obtain⟨c3,cf,cz,g,i⟩:=qH_ hi Z.o;have C:=h_<|ai_ g<|ad.o.trans i;go_wp2;go_ret;exact⟨rfl,S,C.o.1,C.o.2⟩
 rw[in_ (by rw[j];decide)];have z:=h_<|QD_ j;have y:=h_ j;go_in;go_wp2_with fail
 refine pst (UT_ R hi d st row w D.o oo) F ?_;intro w1 O o q;go_wp2_with fail;refine pst (B.o _ _ o.o) q ?_;intro w2 row2 p v;go_wp2_with fail;refine(YP_ R hi (d+1) c row2 ⟨#[63]⟩ w2 p.o).mono ?_;rw[y.o,z.o];rintro e w3 ⟨rfl,n,H,M⟩;have x:=QS_ v M;obtain⟨c3,cf,cz,g,i⟩:=qH_ hi H;have C:=h_<|ai_ g<|x.o.trans i;go_wp2;go_ret;exact⟨rfl,n,C.o.1,C.o.2⟩
def QfC_ {st:RdSt}:∀{l:List BA},(∀m∈l,(m.toList==[])=φ)->((Zz_ r st l).toList==[])=φ->isM r st (Zz_ r st l)=τ:=by
 intro l
 induction l with
 |nil=>intro _ h;exact absurd X8_ (by rw[show(noT.toList==[])=φ from h];decide)
 |cons m l ih=>
  intro hm h;unfold Zz_ at h |-
  rcases bft (isM r st m)with e|e
  ·rw[ip_ e];exact e
  rw[in_ (by rw[e];decide)]at h |-
  exact ih (λx hx=>hm x (by simp[hx])) h
def Wf_ {l:List UInt8} (h:(l==[])=φ):((⟨l.toArray⟩:BA).toList==[])=φ:=by rw[ByteArray.toList_eq];simpa using h
def qD_ (l:Nat):∀m∈Zg_ l,(m.toList==[])=φ:=by
 unfold Zg_;intro m a;split at a
 ·simp at a;subst a;exact Wf_ (l:=[124,124]) rfl
 split at a
 ·simp at a;subst a;exact Wf_ (l:=[38,38]) rfl
 split at a
 ·simp at a;subst a;exact Wf_ (l:=[61,61]) rfl
 split at a
 ·simp at a;subst a;exact Wf_ (l:=[60]) rfl
 split at a
 ·simp at a;rcases a with rfl|rfl
  ·exact Wf_ (l:=[43]) rfl
  exact Wf_ (l:=[45]) rfl
 simp at a;subst a;exact Wf_ (l:=[42]) rfl
def qC_ {st:RdSt} (h:((KY_ r st d).toList==[])=φ):isM r st (KY_ r st d)=τ:=QfC_ (qD_ d) h
def QaL_ (R:RC) (hi:R.imp=τ) (N f:Nat) (hN:R.n<N) (HE:EC R N f) (l d:Nat) (hl:l<=6) (st:RdSt) (row:ON) (w:Ω) (hI:RdI R d st row w) (hn:Need R.n st (9-l) (f+1)) (hd:d+(f+1)<=100000):
  Δ π 261 #[P_ (σ ⟨R.T,0,ν⟩),I_ j_ l] w (QA_ R d row w (I_ j_ (Xc_ R.sg (Qd_ R.sg N f) N l d st).1) (Xc_ R.sg (Qd_ R.sg N f) N l d st).2):=by
 have bd:=h_ hI;have ak:=h_<|Kr.refl R.T row w;have aM:=h_ hI.lo;unfold QA_;unfold Xc_;by_cases h6:l=6
 ·rw[ip_ h6];have B:=h_ (HE.end_ R.U d st row w hI (hn.same (r':=2) oo (Adv.refl st)) oo);unfold QA_ at B;subst h6;go_in;go_wp2_with fail;refine pst (B.o) ak ?_;intro w1 K P T;go_wp2;go_ret;exact⟨rfl,K,P.o,T.o⟩
 rw[in_ h6];have bq:l<6:=oo;have B:=HE.chain R.U (l+1) d st row w hI oo (hn.same (r':=9-(l+1)) oo (Adv.refl st)) oo;rw[show((l+1:Nat):Int)=(l:Int)+1 from oo]at B;have n:=QB_ (sg:=R.sg) (N:=N) f (.chain (l+1)) d st;have HA:=h_ (λst=>QB_ (sg:=R.sg) (N:=N) f (.chain (l+1)) d st);have bE:=hI.ok.len;unfold QA_ at B;have B:=h_ B;have HO:Ψ (∀(U:Nat->Prop) (st':RdSt) (row:ON) (w:Ω),RdI { R with U:=U } d st' row w->Adv 1 0 st st'->(∀s,st=σ s->s.at_<R.n)->(st=ν->st'=ν)->Δ π 261 #[P_ (σ ⟨R.T,0,ν⟩),I_ j_ ((l:Int)+1)] w (QA_ { R with U:=U } d row w (I_ j_ (Qd_ R.sg N f (.chain (l+1)) d st').1) (Qd_ R.sg N f (.chain (l+1)) d st').2)):=(show ∀U st' row w,_->_->_->_->_ from λU st' row w h ha bs bx=>by
  have:=HE.chain U (l+1) d st' row w h oo (by
   cases st with
   |none=>rw[bx rfl];exact hn.same oo<|Adv.refl ν
   |some s=>exact hn.next (bs s rfl) (ha.weak (i':=0+1) (j':=0) oo oo) oo) oo
  rwa[show((l+1:Nat):Int)=(l:Int)+1 from oo]at this)
 have bH:((l:Int)==6)=φ:=by rw[bn_];omega
 generalize Qd_ R.sg N f (.chain (l+1)) d=one at B n HA HO |-
 generalize hr:one st=r at B n |-
 obtain⟨k0,a3⟩:=r;dsimp only at B n |-
 have ab:=h_ n;obtain⟨Q,hQ⟩:=ex_ (Zw_ R.sg one l N N k0 a3);rw[hQ];have HQ:=h_ hQ;obtain⟨i0,aR,aX,aY,av⟩:=info_parts QY_;have S:=h_<|ai_ aR<|ai_ aX<|ai_ aY av;go_in;go_wp2_with fail
 refine pst (B.o) ak ?_;intro w1 K P T;go_upto_region 4 with fail
 go_loopw [5] (λv wr=>∃(M:Nat) (k:Int) (st':RdSt) (row':ON),v=I_ j_ k/\Ψ (Zw_ R.sg one l N M k st'=Q)/\Ψ (Adv 1 1 st st')/\Ψ (Enough R.n M st')/\Ψ (RdI R d st' row' wr)/\Ψ (Kr R.T row w row' wr)) (λ_ wr=>Z1_ R wr)
 ·exact⟨N,k0,a3,K,rfl,HQ,ab,(show Enough _ _ _ from QP_ hN _),P,T⟩
 obtain⟨M,k,st',row',rfl,HQ,ag,aG,HI,HK⟩:=hrel;have G:=h_<|qe_ R hi d st' row' l bq wr HI.o;rcases bft ((KY_ R.sg st' l).toList==[])with hM|hM
 ·have b:Q=(k,st'):=by
   have b:=HQ.o
   cases M with
   |zero=>exact b.symm
   |succ M=>unfold Zw_ at b;rw[ip_ hM]at b;exact b.symm
  subst b;generalize KY_ R.sg st' l=C at G hM;go_wp2_with fail;refine mb_ G.o ?_;intro w2 g2;go_wp2;go_ret;exact⟨rfl,row',HI.o.next g2,HK.o.below g2⟩
 have Z:=qC_ hM;obtain⟨s',y,aU⟩:=Xe_ Z;obtain⟨s,es,ha,bv⟩:=ag.o s' y;obtain⟨M,rfl⟩:∃M',M=M'+1:=⟨M-1,by
  have h1:=aG.o s' y;have h2:=(HI.o.le y).1;omega⟩
 have b:=HQ.o;unfold Zw_ at b;rw[in_ (by rw[hM];decide)]at b;have bz:s.at_<R.n:=oo;generalize KY_ R.sg st' l=C at G hM b Z;have H:=x1_ (sg:=R.sg) HA.o C N [k] st';obtain⟨q2,J⟩:=ex_ (GD_ R.sg one C N [k] st');rw[J]at b H;have bj:=h_ b;have p:=h_ J;have aK:=h_ Z;have aS:=(HI.o.le y).2;have ad:Ψ (KidB [k] st'):=(show KidB _ _ from⟨by simp,λt' e=>by rw[y]at e;obtain rfl:=oi_ e;simp;omega⟩);have bi:Ψ (∀(U:Nat->Prop) (st2:RdSt) (row:ON) (w:Ω),RdI { R with U:=U } d st2 row w->Adv 0 0 st' st2->Δ π 261 #[P_ (σ ⟨R.T,0,ν⟩),I_ j_ ((l:Int)+1)] w (QA_ { R with U:=U } d row w (I_ j_ (one st2).1) (one st2).2)):=(show ∀U st2 row w,_->_->_ from λU st2 row w h ha=>HO.o U st2 row w h ((ag.o.trans ha).weak oo oo) (λs2 e2=>by rw[es]at e2;obtain rfl:=oi_ e2;exact bz) (λe=>by rw[es]at e;cases e));have bF:((C.toList != [])=τ):=(by rw[bne,hM];rfl);go_wp2_with fail;refine mb_ G.o ?_;intro w2 g2;have m:=h_<|HI.o.next g2;have o:=h_<|HK.o.below g2;go_upto_region 8 with fail
 have av:=o.o.size;have an:=h_<|(GW_ w2 k).more (B':=w.heap.size) oo;have aj:=h_<|m.o.res_new (A:=σ ⟨w2.heap.size,0,ν⟩) (br.alloc (lr_ _) (C_ #[I_ j_ k] 3)) (λg hg=>by simp at hg;subst hg;simp);have al:=h_<|o.o.below<|br.alloc (lr_ _)<|C_ #[I_ j_ k] 3;generalize w2.alloc (C_ #[I_ j_ k] 3)=w3 at an aj al |-
 go_loopw [7] (λv wi=>∃(O:Nat) (ks:LI) (st2:RdSt) (row2:ON) (A:OA) (c:Nat),v=S_ A (η ks) c/\Ψ (GD_ R.sg one C O ks st2=q2)/\Ψ (Adv 0 0 st' st2)/\Ψ (st2=st'\/Adv 1 0 st' st2)/\Ψ (Enough R.n O st2)/\Ψ (KidB ks st2)/\Ψ (Mine wi w.heap.size 3 1 A (η ks) c (Qa_ ks))/\Ψ (RdI (R.res A) d st2 row2 wi)/\Ψ (Kr R.T row w row2 wi)) (λ_ wi=>Z1_ R wi)
 ·exact⟨N,[k],st',row',_,1,rfl,p,(show Adv 0 0 st' st' from Adv.refl _),(show st'=st'\/_ from .inl rfl),(show Enough _ _ _ from QP_ hN _),ad,an,aj,al⟩
 obtain⟨O,ks,st2,row2,A,c,rfl,p,E,HSt,ac,aL,HM,m,o⟩:=hrel;have HS:=h_<|Qao_ _ hi d st2 row2 C wr m.o;rcases bft (isM R.sg st2 C)with j|j
 ·obtain⟨s2,bn,aV⟩:=Xe_ j;subst bn;obtain⟨O,rfl⟩:∃M',O=M'+1:=⟨O-1,by
   have h1:=ac.o s2 rfl;have h2:=(m.o.le rfl).1;have:(R.res A).n=R.n:=rfl;omega⟩
  rw[j,Qy_ j]at HS;have b:=p.o;unfold GD_ at b;rw[ip_ j]at b;have a:=(Qh_ (σ s2)).trans (HA.o (Qf_ (σ s2)));have HC:=h_ (λ(row:ON) (W:Ω) h=>bi.o (λx=>R.U x\/A.map (·.block)=σ x) (Qf_ (σ s2)) row W h ((E.o.trans (Qh_ _)).weak oo oo));unfold QA_ at HC;generalize one (Qf_ (σ s2))=r3 at b a HC;obtain⟨kc,z⟩:=r3;dsimp only at b a HC;have bk:=h_ b;have aE:=h_ a;have bI:=(m.o.le rfl).2;have bD:=aL.o.2 s2 rfl;have bG:=aL.o.1;have a9:Ψ (KidB (ks++[kc]) z):=(show KidB _ _ from⟨by rw[lA];simp;omega,λt e=>by
   obtain⟨L,e2,_,h3⟩:=a t e;obtain rfl:=oi_ e2;rw[lA];simp;omega⟩)
  have ba:Ψ (Enough R.n O z):=ac.o.adv (i:=1) a;have a7:Ψ (Adv 0 0 st' z):=(E.o.trans a).weak oo oo;have a8:Ψ (z=st'\/Adv 1 0 st' z):=(show _\/_ from .inr ((E.o.trans a).weak oo oo));have aT:(ks++[kc]).length=η ks+1:=sm_;go_wp2_with fail;refine mb_ HS.o ?_;rintro w4 ⟨af,h4,k4⟩;have X:=h_<|m.o.keepI k4 HM.o;have F:=h_ h4;have V:=h_<|o.o.trans k4;go_wp2_with fail
  refine mb_ (HC.o _ _ F.o) ?_;rintro w6 ⟨a2,h6,k6⟩;have Y:=h_<|F.o.keepI k6 X.o;have aI:=h_ h6;have am:=h_<|V.o.trans k6;have bJ:=am.o.size;have bb:=h_ aM.o.1;go_wp2_with (at_builtin;(refine Qi_ _ rfl (.tmp 32) (.tmp 34) _ rfl w.heap.size 3 i0 (I_ j_ 0) 1 8 underlying83 S.o.1 S.o.2.1 S.o.2.2.1 S.o.2.2.2 rfl dc_ (S_ A (η ks) c) (η ks) (Qa_ ks) rfl (Mine.alloc Y.o _) ⟨w6.heap.size,0,ν⟩ 1 1 [I_ j_ kc] rfl rfl (K8_ _ kc _) (K9_ _) mx_ oo so_ ?_);intro v' w7 I ar ae;obtain⟨A7,c7,rfl,h7,m7⟩:=RdI.appended aI.o Y.o bb.o bra I ar ae)
  have bf:=h_<|(am.o.below bra).grown ar (λg hg=>by rw[Q3_]at hg;exact(Mine.blk Y.o hg).1);rw[<-Ke_]at m7;have aJ:=h_ h7;have bh:=h_ m7;go_wp2;go_roundw
  ·exact⟨O,ks++[kc],z,a2,A7,c7,by rw[aT],bk,a7,a8,ba,a9,by rw[aT];exact bh,aJ,bf⟩
  exact G2_ hi m.o aJ.o<|aE.o.weak (i':=1) (j':=0) oo oo
 rw[j,QD_ j]at HS;have b:=p.o;have J:q2=(ks,st2):=by
  cases O with
  |zero=>exact b.symm
  |succ O=>unfold GD_ at b;rw[j,in_ dc_]at b;exact b.symm
 subst J;have aO:Adv 1 0 st' st2:=by
  rcases HSt.o with e|e
  ·rw[e]at j;exact absurd (aK.o.symm.trans j) dc_
  exact e
 have D:=h_<|aO.trans<|Kg_ st2 ⟨7,C,ks,φ⟩;go_wp2_with fail
 refine mb_ HS.o ?_;rintro w4 ⟨af,h4,k4⟩;have X:=h_<|m.o.keepI k4 HM.o;have F:=h_ h4.unres;have V:=h_<|o.o.trans k4;have aa:=bj.o;have ai:Ψ (Enough R.n M (KP_ st2 ⟨7,C,ks,φ⟩).2):=aG.o.adv (i:=0) D.o;have ah:Ψ (Adv 1 1 st (KP_ st2 ⟨7,C,ks,φ⟩).2):=(ag.o.trans D.o).weak oo oo;have q:=addK R hi d st2 af 7 C A (η ks) c ks φ w.heap.size w4 F.o X.o aM.o;unfold QA_ at q;have q:=h_ q;generalize KP_ st2 ⟨7,C,ks,φ⟩=r5 at aa ai ah q D;obtain⟨k5,bC⟩:=r5;dsimp only at aa ai ah q D;have bl:=h_ aa;go_wp2_with fail
 refine mb_ q.o ?_;rintro w5 ⟨a1,h5,aZ⟩;have aH:=h_ h5;have be:=h_<|V.o.trans aZ;go_wp2;go_roundw
 ·exact⟨M,k5,bC,a1,rfl,bl,ah,ai,aH,be⟩
 have bp:∃L,st'=σ L:=by
  cases st' with
  |none=>exact absurd aK.o (by rw[ZM_];decide)
  |some L=>exact⟨L,rfl⟩
 obtain⟨L,rfl⟩:=bp;exact Wi_ hi HI.o aH.o<|D.o.weak (i':=1) (j':=0) oo oo
def Qh6_ {R:RC} (U:Nat->Prop) (hi:R.imp=τ) (d lo:Nat) (one:RdSt->PR) (HO:Ψ (OneC R 202 d lo one)) (h1:∀st,Adv 1 1 st (one st).2) (N:Nat) (k:Int) (st:RdSt) (row:ON) (w:Ω) (hI:RdI { R with U:=U } d st row w) (a:LoB lo st) (hN:R.n<N):
  Δ π 237 #[P_ (σ ⟨R.T,0,ν⟩),I_ j_ k] w λe w'=>e=R_ (I_ j_ (Yg_ R.sg one N k st).1)/\∃row',RdI { R with U:=U } d (Yg_ R.sg one N k st).2 row' w'/\Kr R.T row w row' w':=
 vC_ { R with U:=U } hi d lo one HO h1 N k st row w hI a hN
def Qcc_ (R:RC) (hi:R.imp=τ) (N f:Nat) (hN:R.n<N) (HE:EC R N f) (d:Nat) (st:RdSt) (row:ON) (w:Ω) (hI:RdI R d st row w) (hn:Need R.n st 11 (f+1)) (hd:d+(f+1)<=100000):
  Δ π 202 #[P_ (σ ⟨R.T,0,ν⟩)] w (QA_ R d row w (I_ j_ (Xi_ R.sg (Qd_ R.sg N f) N d st).1) (Xi_ R.sg (Qd_ R.sg N f) N d st).2):=by
 have aQ:=h_ hI;have V:=h_<|Kr.refl R.T row w;have aq:=h_ hI.lo;have ae:=hn.same (r':=10) oo<|Adv.refl st;have HP:=h_<|HE.pick R.U d st row w hI ae oo;have k:=QB_ (sg:=R.sg) (N:=N) f .pick d st;have h1:∀st,Adv 1 1 st (Qd_ R.sg N f .value d st).2:=λst=>QB_ f .value d st
 have K:=hI.ok.len;unfold QA_ at HP |-
 unfold Xi_;generalize Qd_ R.sg N f .pick d st=r at HP k |-
 obtain⟨k0,m⟩:=r;dsimp only at HP k |-
 rcases bft (isM R.sg m ⟨#[46,46]⟩)with b|b
 ·rw[ip_ b];obtain⟨t,et,aZ⟩:=Xe_ b;obtain⟨s,es,ha,a0⟩:=k t et;subst es;have a2:s.at_<R.n:=oo;have HO:=h_ (HE.one (d:=d) oo hn a2);have HA:=h_ h1;have ab:=h_ b;have q:Ψ (LoB (s.at_+1) m):=(show LoB _ _ from λt' e=>by rw[et]at e;obtain rfl:=oi_ e;omega);have I:Ψ (KidB [k0] m):=(show KidB _ _ from⟨by simp,λt' e=>by rw[et]at e;obtain rfl:=oi_ e;simp;omega⟩);obtain⟨Q,hQ⟩:=ex_ (Y2_ R.sg (Qd_ R.sg N f .value d) N N [k0] m);rw[hQ];have J:=h_ hQ;generalize Qd_ R.sg N f .value d=one at HO HA J;obtain⟨i0,ay,aB,aC,af⟩:=info_parts QY_;have z:=h_ (ai_ ay (ai_ aB (ai_ aC af)));go_in;go_wp2_with fail;refine pst (HP.o) V ?_;intro w1 l o B;go_wp2_with fail;refine(Vj_ R hi d m l ⟨#[46,46]⟩ w1 o.o).mono ?_;rw[ab.o];rintro e w2 ⟨rfl,h2⟩;have al:=h_<|o.o.next h2;have X:=h_<|B.o.below h2;go_upto_region 5 with fail
  have af:=X.o.size;have aa:=h_<|(GW_ w2 k0).more (B':=w.heap.size) oo;have T:=h_<|al.o.res_new (A:=σ ⟨w2.heap.size,0,ν⟩) (br.alloc (lr_ _) (C_ #[I_ j_ k0] 3)) (λg hg=>by simp at hg;subst hg;simp);have Y:=h_<|X.o.below<|br.alloc (lr_ _)<|C_ #[I_ j_ k0] 3;generalize w2.alloc (C_ #[I_ j_ k0] 3)=w3 at aa T Y |-
  go_loopw [4] (λv wr=>∃(M:Nat) (ks:LI) (st':RdSt) (row':ON) (A:OA) (c:Nat),v=S_ A (η ks) c/\Ψ (Y2_ R.sg one N M ks st'=Q)/\Ψ (LoB (s.at_+1) st')/\Ψ (Enough R.n M st')/\Ψ (KidB ks st')/\Ψ (Mine wr w.heap.size 3 1 A (η ks) c (Qa_ ks))/\Ψ (RdI (R.res A) d st' row' wr)/\Ψ (Kr R.T row w row' wr)) (λ_ wr=>Z1_ R wr)
  ·exact⟨N,[k0],m,l,_,1,rfl,J,q,(show Enough _ _ _ from QP_ hN _),I,aa,T,Y⟩
  obtain⟨M,ks,st',row',A,c,rfl,J,q,ak,ap,HM,S,HK⟩:=hrel;have HS:=h_<|Qao_ _ hi d st' row' ⟨#[46,46]⟩ wr S.o;rcases bft (isM R.sg st' ⟨#[46,46]⟩)with b|b
  ·obtain⟨G,aX,aA⟩:=Xe_ b;subst aX;obtain⟨M,rfl⟩:∃M',M=M'+1:=⟨M-1,by
    have h1:=ak.o G rfl;have h2:=(S.o.le rfl).1;have:(R.res A).n=R.n:=rfl;omega⟩
   rw[b,Qy_ b]at HS;have n:=J.o;unfold Y2_ at n;rw[ip_ b]at n;have a:=((Qh_ (σ G)).trans (QT_ (sg:=R.sg) _)).trans (VB_ (sg:=R.sg) HA.o N (Qj_ R.sg (Qf_ (σ G))).1 (Qj_ R.sg (Qf_ (σ G))).2);have j:=(Qh_ (σ G)).trans (QT_ (sg:=R.sg) (Qf_ (σ G)));have F:=h_ (λ(row:ON) (W:Ω) h=>QbC_ (λx=>R.U x\/A.map (·.block)=σ x) hi d (Qf_ (σ G)) row W h);generalize Qj_ R.sg (Qf_ (σ G))=r2 at n a j F;obtain⟨nm,st2⟩:=r2;dsimp only at n a j F;have HC:=h_ (λ(row:ON) (W:Ω) h=>Qh6_ (λx=>R.U x\/A.map (·.block)=σ x) hi d (s.at_+1) one HO HA.o N nm st2 row W h (q.o.adv j) hN);generalize Yg_ R.sg one N nm st2=r3 at n a HC;obtain⟨kc,H⟩:=r3;dsimp only at n a HC;have aV:=h_ n;have aL:=h_ a;have a7:=(S.o.le rfl).2;have a5:=ap.o.2 G rfl;have a6:=ap.o.1;have aM:Ψ (KidB (ks++[kc]) H):=(show KidB _ _ from⟨by rw[lA];simp;omega,λt e=>by
    obtain⟨a9,e2,_,h3⟩:=a t e;obtain rfl:=oi_ e2;rw[lA];simp;omega⟩)
   have aO:Ψ (Enough R.n M H):=ak.o.adv (i:=2) a;have aN:Ψ (LoB (s.at_+1) H):=q.o.adv a;have az:(ks++[kc]).length=η ks+1:=sm_;go_wp2_with fail;refine mb_ HS.o ?_;rintro w4 ⟨O,h4,k4⟩;have D:=h_<|S.o.keepI k4 HM.o;have p:=h_ h4;have C:=h_<|HK.o.trans k4;go_wp2_with fail
   refine mb_ (F.o _ _ p.o) ?_;rintro w5 ⟨P,h5,k5⟩;have ar:=h_<|p.o.keepI k5 D.o;have U:=h_ h5;have ao:=h_<|C.o.trans k5;go_wp2_with fail
   refine mb_ (HC.o _ _ U.o) ?_;rintro w6 ⟨aF,h6,k6⟩;have E:=h_<|U.o.keepI k6 ar.o;have am:=h_ h6;have Z:=h_<|ao.o.trans k6;have a8:=Z.o.size;have aP:=h_ aq.o.1;go_wp2_with (at_builtin;(refine Qi_ _ rfl (.tmp 22) (.tmp 24) _ rfl w.heap.size 3 i0 (I_ j_ 0) 1 8 underlying83 z.o.1 z.o.2.1 z.o.2.2.1 z.o.2.2.2 rfl dc_ (S_ A (η ks) c) (η ks) (Qa_ ks) rfl (Mine.alloc E.o _) ⟨w6.heap.size,0,ν⟩ 1 1 [I_ j_ kc] rfl rfl (K8_ _ kc _) (K9_ _) mx_ oo so_ ?_);intro v' w7 y ad L;obtain⟨A7,c7,rfl,h7,m7⟩:=RdI.appended am.o E.o aP.o bra y ad L)
   have aS:=h_<|(Z.o.below bra).grown ad (λg hg=>by rw[Q3_]at hg;exact(Mine.blk E.o hg).1);rw[<-Ke_]at m7;have an:=h_ h7;have aU:=h_ m7;go_wp2;go_roundw
   ·exact⟨M,ks++[kc],H,aF,A7,c7,by rw[az],aV,aN,aO,aM,by rw[az];exact aU,an,aS⟩
   exact G2_ hi S.o an.o<|aL.o.weak (i':=1) (j':=0) oo oo
  rw[b,QD_ b]at HS;have n:=J.o;have a1:Q=(ks,st'):=by
   cases M with
   |zero=>exact n.symm
   |succ M=>unfold Y2_ at n;rw[b,in_ dc_]at n;exact n.symm
  subst a1;go_wp2_with fail;refine mb_ HS.o ?_;rintro w4 ⟨O,h4,k4⟩;have D:=h_<|S.o.keepI k4 HM.o;have p:=h_ h4.unres;have C:=h_<|HK.o.trans k4;go_wp2_with fail
  refine mb_ (addK R hi d st' O 10 noT A (η ks) c ks φ w.heap.size w4 p.o D.o aq.o) ?_;rintro w5 ⟨P,h5,k5⟩;go_wp2;go_ret;exact⟨rfl,P,h5,C.o.trans k5⟩
 rw[in_ (by rw[b];decide)];have ab:=h_ b;go_in;go_wp2_with fail;refine pst (HP.o) V ?_;intro w1 l o B;go_wp2_with fail;refine(Vj_ R hi d m l ⟨#[46,46]⟩ w1 o.o).mono ?_;rw[ab.o];rintro e w2 ⟨rfl,h2⟩;go_wp2;go_ret;exact⟨rfl,l,o.o.next h2,B.o.below h2⟩
def Qfc_ (R:RC) (hi:R.imp=τ) (N f:Nat) (hN:R.n<N) (HE:EC R N f) (d:Nat) (st:RdSt) (row:ON) (w:Ω) (hI:RdI R d st row w) (hn:Need R.n st 2 (f+1)) (hd:d+(f+1)<=100000):
  Δ π 281 #[P_ (σ ⟨R.T,0,ν⟩)] w (QA_ R d row w (I_ j_ (endS R.sg (Qd_ R.sg N f) N d st).1) (endS R.sg (Qd_ R.sg N f) N d st).2):=by
 have aD:=h_ hI;have ak:=h_<|Kr.refl R.T row w;have ap:=hn.same (r':=1) oo<|Adv.refl st;have HP:=h_<|HE.base R.U d st row w hI ap oo;have B:=QB_ (sg:=R.sg) (N:=N) f .base d st;have HA:=h_ (λst=>QB_ (sg:=R.sg) (N:=N) f .value d st);have aU:=hI.ok.len;unfold QA_ at HP |-
 unfold endS;generalize Qd_ R.sg N f .base d st=r at HP B |-
 obtain⟨k0,ax⟩:=r;dsimp only at HP B |-
 have HO:Ψ (∀s,st=σ s->s.at_<R.n->OneC R 202 d (s.at_+1) (Qd_ R.sg N f .value d)):=(show ∀s,_->_->_ from λs e aO=>HE.one (d:=d) oo (by rw[<-e];exact hn) aO);have L:=h_ B;obtain⟨Q,hQ⟩:=ex_ (W0_ R.sg (Qd_ R.sg N f .value d) N N k0 ax);rw[hQ];have O:=h_ hQ;generalize Qd_ R.sg N f .value d=one at HO HA O;have aV:=ky_;go_in;go_wp2_with fail;refine pst (HP.o) ak ?_;intro w1 aq af al;go_upto_region 2 with fail
 go_loopw [3] (λv wr=>∃(M:Nat) (k:Int) (st':RdSt) (row':ON),v=I_ j_ k/\Ψ (W0_ R.sg one N M k st'=Q)/\Ψ (Adv 1 1 st st')/\Ψ (Enough R.n M st')/\Ψ (RdI R d st' row' wr)/\Ψ (Kr R.T row w row' wr)) (λ_ wr=>Z1_ R wr)
 ·exact⟨N,k0,ax,aq,rfl,O,L,(show Enough _ _ _ from QP_ hN _),af,al⟩
 obtain⟨M,k,st',row',rfl,O,T,X,C,HK⟩:=hrel
 cases st' with
 |none=>
  obtain⟨a,b,AN,cN,l,K,hb,o⟩:=C.o;obtain⟨c0,c2,c3,c4,c5,cf,cz⟩:=K.ci hi;obtain rfl:b=τ:=hb;have n:=O.o;rw[Ve_]at n;subst n;go_wp2;go_ret;exact⟨rfl,row',C.o,HK.o⟩
 |some g=>
  obtain⟨s,es,ha,aQ⟩:=T.o g rfl;obtain⟨M,rfl⟩:∃M',M=M'+1:=⟨M-1,by
   have h1:=X.o g rfl;have h2:=(C.o.le rfl).1;omega⟩
  have aT:=(C.o.le rfl).1;have aK:=h_<|HO.o s es oo;have aI:Ψ (LoB (s.at_+1) (σ g)):=(show LoB _ _ from λt' e=>by obtain rfl:=oi_ e;omega);obtain⟨a,b,AN,cN,l,K,hb,o⟩:=C.o;obtain⟨c0,c2,c3,c4,c5,cf,cz⟩:=K.ci hi;obtain⟨rfl,_,_⟩:=hb;have m:=h_<|Vj_ R hi d (σ g) row' ⟨#[40]⟩ wr C.o;have n:=O.o;unfold W0_ at n;rw[in_ (show ¬(σ g).isNone=τ by simp)]at n;rcases bft (isM R.sg (σ g) ⟨#[40]⟩)with J|J
  ·rw[J]at m;rw[ip_ J]at n;have c:=VB_ (sg:=R.sg) HA.o N k (σ g);have HC:=h_ (λ(row:ON) (W:Ω) h=>vC_ R hi d (s.at_+1) one aK HA.o N k (σ g) row W h aI.o hN);unfold QA_ at HC;generalize Yg_ R.sg one N k (σ g)=r3 at n c HC;obtain⟨kc,ab⟩:=r3;dsimp only at n c HC;have Z:=h_ n;have D:=h_ c;have V:Ψ (Enough R.n M ab):=X.o.adv (i:=0) c;have U:Ψ (Adv 1 1 st ab):=(T.o.trans c).weak oo oo;go_wp2_with fail;refine mb_ m.o ?_;intro w2 A;have y:=h_<|C.o.next A;have z:=h_<|HK.o.below A;go_wp2_with fail
   refine mb_ (HC.o _ _ y.o) ?_;rintro w3 ⟨j,G,I⟩;have p:=h_ G;have E:=h_<|z.o.trans I;go_wp2;go_roundw
   ·exact⟨M,kc,ab,j,rfl,Z,U,V,p,E⟩
   exact Wi_ hi C.o p.o<|D.o.weak (i':=1) (j':=0) oo oo
  rw[J]at m;rw[in_ (by rw[J];decide)]at n;have P:=h_ (λ(W:Ω) h=>YP_ R hi d (σ g) row' ⟨#[46]⟩ W h);unfold QA_ at P;rcases bft (isM R.sg (σ g) ⟨#[46]⟩)with H|H
  ·rw[H,Qy_ H]at P;rw[ip_ H]at n;have F:=h_ (λ(row:ON) (W:Ω) h=>KM_ R hi d (Qf_ (σ g)) row 0 W h oo);rcases bft (Kp_ R.sg (Qf_ (σ g)) 0)with q|q
   ·rw[ip_ q]at n;rw[q]at F;have S:∀t,Qf_ (σ g)=σ t->t.at_<R.n:=λt e=>by
     obtain⟨t',e',hl⟩:=Z7_ q;rw[e]at e';obtain rfl:=oi_ e';omega
    have HX:=h_ (λ(row:ON) (W:Ω) h=>Kl_ R hi d (Qf_ (σ g)) row W h);have c:=((Qh_ (σ g)).trans (Kg_ (Qf_ (σ g)) ⟨6,(Qx_ R.sg (Qf_ (σ g)) 0).2.1,[k],φ⟩)).trans (Qh_ _);generalize Qx_ R.sg (Qf_ (σ g)) 0=x at n HX c;obtain⟨xk,xt,xp,xz⟩:=x;dsimp only at n HX c;have aJ:Ψ (∀t,(KP_ (Qf_ (σ g)) ⟨6,xt,[k],φ⟩).2=σ t->t.at_<R.n):=(show ∀t,_->_ from λt e=>by
     rw[zk_ (s:=⟨g.at_+1,g.nodes⟩) rfl e];exact S _ rfl)
    have Z:=h_ n;have D:=h_ c;have V:Ψ (Enough R.n M (Qf_ (KP_ (Qf_ (σ g)) ⟨6,xt,[k],φ⟩).2)):=X.o.adv (i:=1) c;have U:Ψ (Adv 1 1 st (Qf_ (KP_ (Qf_ (σ g)) ⟨6,xt,[k],φ⟩).2)):=(T.o.trans c).weak oo oo;go_wp2_with fail;refine mb_ m.o ?_;intro w2 A;have y:=h_<|C.o.next A;have z:=h_<|HK.o.below A;go_wp2_with fail
    refine mb_ (P.o _ y.o) ?_;rintro w3 ⟨j,G,I⟩;have p:=h_ G;have E:=h_<|z.o.trans I;go_wp2_with fail
    refine mb_ (F.o _ _ p.o) ?_;intro w4 g4;have ag:=h_<|p.o.next g4;have Y:=h_<|E.o.below g4;go_wp2_with fail
    refine mb_ (HX.o _ _ ag.o) ?_;intro w5 g5;have ah:=h_<|ag.o.next g5;have aF:=h_<|Y.o.below g5;have am:=h_ ah.o.lo;go_wp2_with fail
    refine pst (addK R hi d (Qf_ (σ g)) j 6 xt (σ ⟨w5.heap.size,0,ν⟩) 1 1 [k] φ w5.heap.size _ (ah.o.alloc _) (GW_ w5 k) am.o) aF ?_;intro w6 ar aE aG;go_wp2_with fail;refine pst (Zo_ R hi d _ ar w6 aE.o aJ.o) aG ?_;intro w7 av ai aH;go_wp2;go_roundw
    ·exact⟨M,_,_,av,rfl,Z,U,V,ai,aH⟩
    exact Wi_ hi C.o ai.o<|D.o.weak (i':=1) (j':=0) oo oo
   rw[in_ (by rw[q];decide)]at n;rw[q]at F;subst n;go_wp2_with fail;refine mb_ m.o ?_;intro w2 A;have y:=h_<|C.o.next A;have z:=h_<|HK.o.below A;go_wp2_with fail
   refine mb_ (P.o _ y.o) ?_;rintro w3 ⟨j,G,I⟩;have p:=h_ G;have E:=h_<|z.o.trans I;go_wp2_with fail
   refine mb_ (F.o _ _ p.o) ?_;intro w4 g4;obtain⟨a,b,AN,cN,l,K,aR,o⟩:=p.o.next g4;obtain⟨c0,c2,c3,c4,c5,cf,cz⟩:=K.ci hi;have HF:=h_<|RdI.bad1 hi K o;have Y:=h_<|E.o.below g4;go_wp2;go_ret;exact⟨rfl,j,HF.o.1,Y.o.trans HF.o.2⟩
  rw[H,QD_ H]at P;rw[in_ (by rw[H];decide)]at n;subst n;go_wp2_with fail;refine mb_ m.o ?_;intro w2 A;have y:=h_<|C.o.next A;have z:=h_<|HK.o.below A;go_wp2_with fail
  refine mb_ (P.o _ y.o) ?_;rintro w3 ⟨j,G,I⟩;go_wp2;go_ret;exact⟨rfl,j,G,z.o.trans I⟩
def We_ {R:RC} (U:Nat->Prop) (hi:R.imp=τ) (d:Nat) (st:RdSt) (row:ON) (m:BA) (N:Nat) (w:Ω) (hI:RdI { R with U:=U } d st row w) (hN:R.n<N):
  Δ π 165 #[P_ (σ ⟨R.T,0,ν⟩),T_ m,.func (.func 166) #[P_ (σ ⟨R.T,0,ν⟩)] #[]] w λe w'=>∃(A:OA) (c:Nat),e=R_ (S_ A (QG_ R.sg (Qj_ R.sg) m N [] st).1.length c)/\Mine w' w.heap.size 3 1 A (QG_ R.sg (Qj_ R.sg) m N [] st).1.length c (Qa_ (QG_ R.sg (Qj_ R.sg) m N [] st).1)/\(QG_ R.sg (Qj_ R.sg) m N [] st).1.length<=301/\∃row',RdI (({ R with U:=U }:RC).res A) d (QG_ R.sg (Qj_ R.sg) m N [] st).2 row' w'/\Kr R.T row w row' w':=
 jF_ { R with U:=U } hi d 0 (Qj_ R.sg) (show OneC _ _ _ _ _ from λU st row w h _=>Vo_ { R with U:=U } hi d st row w h) QT_ m N st row w hI (λs _=>lz_ _) (QP_ hN _)
def QgV_ (R:RC) (hi:R.imp=τ) (N f:Nat) (hN:R.n<N) (HE:EC R N f) (d:Nat) (st:RdSt) (row:ON) (w:Ω) (hI:RdI R d st row w) (s:PS) (hs:st=σ s) (ac:s.at_<R.n) (hn:Need R.n st 1 (f+1)) (hd:d+(f+1)<=100000):
  Δ π 299 #[P_ (σ ⟨R.T,0,ν⟩)] w (QA_ R d row w (I_ j_ (fnS R.sg (Qd_ R.sg N f) N d st).1) (fnS R.sg (Qd_ R.sg N f) N d st).2):=by
 obtain⟨i0,E,F,l,G⟩:=info_parts QY_;have j:=h_<|ai_ E<|ai_ F<|ai_ l G;have O:=h_ hI;have T:=h_<|Kr.refl R.T row w;have z:=h_ hI.lo;subst hs;unfold QA_ fnS;dsimp only;have K:=h_ (λ(row:ON) (W:Ω) h=>We_ R.U hi d (Qn_ R.sg (σ s) ⟨#[40]⟩) row ⟨#[41]⟩ N W h hN);have a:=((Qq_ (sg:=R.sg) (σ s) ⟨#[40]⟩).trans (Yz_ (sg:=R.sg) (QT_ (sg:=R.sg)) ⟨#[41]⟩ N [] (Qn_ R.sg (σ s) ⟨#[40]⟩)).2);generalize QG_ R.sg (Qj_ R.sg) ⟨#[41]⟩ N [] (Qn_ R.sg (σ s) ⟨#[40]⟩)=q at K a |-
 obtain⟨ks,st2⟩:=q;dsimp only at K a |-
 have b:=(a.trans (Qq_ (sg:=R.sg) _ ⟨#[41]⟩)).trans (Qq_ (sg:=R.sg) _ ⟨#[61,62]⟩);have D:=h_ (λ(U:Nat->Prop) (row:ON) (W:Ω) h=>HE.pick U d (Qn_ R.sg (Qn_ R.sg st2 ⟨#[41]⟩) ⟨#[61,62]⟩) row W h (hn.next ac (b.weak (i':=1) (j':=0) oo oo) oo) oo);unfold QA_ at D;generalize Qd_ R.sg N f .pick d (Qn_ R.sg (Qn_ R.sg st2 ⟨#[41]⟩) ⟨#[61,62]⟩)=r at D |-
 obtain⟨k,ah⟩:=r;dsimp only at D |-
 go_in;go_wp2_with fail;refine pst (ZQ_ R hi d (σ s) row ⟨#[40]⟩ w O.o) T ?_;intro w1 ai P x;go_wp2_with fail;refine(K.o _ _ P.o).mono ?_;rintro e w2 ⟨A,c,rfl,m2,ak,row2,h2,k2⟩;have V:=QS_ x k2;have p:=h_ h2;have l:=x.o.size;have HM:=h_<|m2.more (B':=w.heap.size) l;go_wp2_with fail
 refine mb_ (Qat_ _ hi d st2 row2 ⟨#[41]⟩ w2 p.o) ?_;rintro w3 ⟨H,h3,k3⟩;have B:=h_<|p.o.keepI k3 HM.o;have t:=h_ h3;have X:=h_<|V.o.trans k3;go_wp2_with fail
 refine mb_ (Qat_ _ hi d _ H ⟨#[61,62]⟩ w3 t.o) ?_;rintro w4 ⟨aj,h4,k4⟩;have C:=h_<|t.o.keepI k4 B.o;have v:=h_ h4;have Y:=h_<|X.o.trans k4;go_wp2_with fail
 refine mb_ (D.o _ _ _ v.o) ?_;rintro w5 ⟨I,h5,k5⟩;have n:=h_<|v.o.keepI k5 C.o;have Q:=h_ h5;have y:=h_<|Y.o.trans k5;have am:=y.o.size;have M:=h_ z.o.1;have al:(ks++[k]).length=η ks+1:=by simp
 go_wp2_with (at_builtin;(refine Qi_ _ rfl (.tmp 18) (.tmp 20) _ rfl w.heap.size 3 i0 (I_ j_ 0) 1 8 underlying83 j.o.1 j.o.2.1 j.o.2.2.1 j.o.2.2.2 rfl dc_ (S_ A (η ks) c) (η ks) (Qa_ ks) rfl (Mine.alloc n.o _) ⟨w5.heap.size,0,ν⟩ 1 1 [I_ j_ k] rfl rfl (K8_ _ k _) (K9_ _) mx_ oo so_ ?_);intro v' w7 i o m;obtain⟨A7,c7,rfl,h7,m7⟩:=RdI.appended Q.o n.o M.o bra i o m);have Z:=h_<|(y.o.below bra).grown o (λg hg=>by rw[Q3_]at hg;exact(Mine.blk n.o hg).1);rw[<-Ke_]at m7;have S:=h_ h7.unres;have aa:=h_ m7;have hA:=addK R hi d ah I 9 noT A7 (η ks+1) c7 (ks++[k]) φ w.heap.size w7 S.o aa.o z.o;unfold QA_ at hA;have L:=h_ hA;go_wp2_with fail
 refine mb_ L.o ?_;rintro w8 ⟨J,h8,k8⟩;go_wp2;go_ret;exact⟨rfl,J,h8,Z.o.trans k8⟩
def Qct_ (R:RC) (hi:R.imp=τ) (N f:Nat) (hN:R.n<N) (HE:EC R N f) (d:Nat) (st:RdSt) (row:ON) (w:Ω) (I:RdI R d st row w) (V:Need R.n st 1 (f+1)) (hd:d+(f+1)<=100000):
  Δ π 294 #[P_ (σ ⟨R.T,0,ν⟩)] w (QA_ R d row w (I_ j_ (YB_ R.sg (Qd_ R.sg N f) N d st).1) (YB_ R.sg (Qd_ R.sg N f) N d st).2):=by
 have E:=h_ I;have F:=h_<|Kr.refl R.T row w;have Y:=h_<|Kl_ R hi d st row w I;have D:st=ν->(Qx_ R.sg st 0).1=0:=λe=>by rw[e];rfl
 have v:∀s,st=σ s->(Qx_ R.sg st 0).1≠0->s.at_<R.n:=λs e h=>by
  rcases Nat.lt_or_ge s.at_ (η R.sg) with hl|hl
  ·rw[<-I.ok.len];exact hl
  exact absurd (by rw[e,ZO_ (i:=0) hl]) h
 have C:∀m,isM R.sg st m=τ->(Qx_ R.sg st 0).1=4:=λm h=>by unfold isM at h;simp only[τa]at h;exact eq_of_beq h.1
 have B:=λm=>(show isM R.sg st m=(((Qx_ R.sg st 0).1==4)&&((Qx_ R.sg st 0).2.1.toList==m.toList))from rfl)
 unfold QA_;unfold YB_;generalize hx:Qx_ R.sg st 0=x at Y D v C B |-
 obtain⟨kd,xt,xp,xz⟩:=x;dsimp only at Y D v C B |-
 have aO:∀w1,Λ w w1->Λ w (w1.alloc (C_ #[I_ j_ kd,T_ xt,I_ j_ xp,B_ xz] 89)):=λw1 h=>h.alloc h.size _
 by_cases h1:kd=1
 ·rw[ip_ h1];subst h1;have p:=h_ (λ(row:ON) (W:Ω) h=>Vo_ R hi d st row W h);unfold QA_ at p;generalize Qj_ R.sg st=r at p |-
  obtain⟨k,st2⟩:=r;dsimp only at p |-
  go_in;go_wp2_with fail;refine rst (Y.o) E F ?_;intro w1 n o;go_wp2_with fail;refine pst (p.o _ _ (n.o.alloc _)) o ?_;intro w2 row2 g j;go_wp2;go_ret;exact⟨rfl,row2,g.o,j.o⟩
 rw[in_ h1];have an:(kd==1)=φ:=by rw[bn_];exact h1
 by_cases y:kd=2
 ·rw[ip_ y];subst y;have p:=h_ (λ(row:ON) (W:Ω) h=>Jc_ R hi d st row 2 W h (λs e=>v s e dc_));unfold QA_ at p;generalize YG_ R.sg 2 st=r at p |-
  obtain⟨k,st2⟩:=r;dsimp only at p |-
  go_in;go_wp2_with fail;refine rst (Y.o) E F ?_;intro w1 n o;go_wp2_with fail;refine pst (p.o _ _ (n.o.alloc _)) o ?_;intro w2 row2 g j;go_wp2;go_ret;exact⟨rfl,row2,g.o,j.o⟩
 rw[in_ y];have aF:(kd==2)=φ:=(by rw[bn_];exact y);by_cases S:kd=3
 ·rw[ip_ S];subst S;have p:=h_ (λ(row:ON) (W:Ω) h=>Jc_ R hi d st row 3 W h (λs e=>v s e dc_));unfold QA_ at p;generalize YG_ R.sg 3 st=r at p |-
  obtain⟨k,st2⟩:=r;dsimp only at p |-
  go_in;go_wp2_with fail;refine rst (Y.o) E F ?_;intro w1 n o;go_wp2_with fail;refine pst (p.o _ _ (n.o.alloc _)) o ?_;intro w2 row2 g j;go_wp2;go_ret;exact⟨rfl,row2,g.o,j.o⟩
 rw[in_ S];have aN:(kd==3)=φ:=(by rw[bn_];exact S);have HS:=h_ (λ(m:BA) (row:ON) (W:Ω) h=>YP_ R hi d st row m W h);unfold QA_ at HS;rcases bft (isM R.sg st ⟨#[91]⟩)with L|L
 ·rw[ip_ L];have K:=Qy_ L;obtain⟨s,es,J⟩:=Xe_ L;subst es;have Z:s.at_<R.n:=(by rw[<-I.ok.len];exact J);unfold Qdq_;dsimp only;have HO:=h_ (HE.one (d:=d) oo V Z);have HA:=(λst=>QB_ (sg:=R.sg) (N:=N) f .value d st);have ak:LoB (s.at_+1) (Qf_ (σ s)):=λt e=>by obtain rfl:=oi_ e;exact lr_ _
  have HL:=h_ (λ(row:ON) (W:Ω) h=>GZ_ R hi d (s.at_+1) (Qd_ R.sg N f .value d) HO HA ⟨#[93]⟩ N (Qf_ (σ s)) row W h ak (QP_ hN _));unfold Qci_ at HL;generalize QG_ R.sg (Qd_ R.sg N f .value d) ⟨#[93]⟩ N [] (Qf_ (σ s))=q at HL |-
  obtain⟨ks,aK⟩:=q;dsimp only at HL |-
  have O:=h_ L;have P:=h_ K;have aD:=h_ I.lo;go_in;go_wp2_with fail;refine rst (Y.o) E F ?_;intro w1 n o;go_wp2_with fail;refine(HS.o ⟨#[91]⟩ _ _ (n.o.alloc _)).mono ?_;rw[O.o,P.o];rintro e w2 ⟨rfl,row2,y,T⟩;have j:=QS_ o T;have g:=h_ y;have aJ:=j.o.size;go_wp2_with fail;refine(HL.o _ _ g.o).mono ?_;rintro e w3 ⟨A,c,rfl,m3,aP,ao,S,k3⟩;have G:=QS_ j k3;have z:=h_ S.unres;have aE:=h_<|m3.more (B':=w.heap.size) aJ;have hA:=KK_ R hi d aK ao ⟨#[93]⟩ 4 noT A (η ks) c ks φ w.heap.size w3 z.o aE.o aD.o;unfold QA_ at hA;have ay:=h_ hA;go_wp2_with fail
  refine mb_ ay.o ?_;rintro w4 ⟨U,h4,k4⟩;go_wp2;go_ret;exact⟨rfl,U,h4,G.o.trans k4⟩
 rw[in_ (by rw[L];decide)];have O:=h_ L;have P:=h_<|QD_ L;have HQ:=h_ (λ(row:ON) (W:Ω) h=>Vj_ R hi d st row ⟨#[40]⟩ W h);rcases bft (isM R.sg st ⟨#[40]⟩)with H|H
 ·rw[ip_ H];rw[H]at HQ;have K:=Qy_ H;obtain⟨s,es,J⟩:=Xe_ H;subst es;have Z:s.at_<R.n:=(by rw[<-I.ok.len];exact J);have X:=h_ (λ(row:ON) (W:Ω) h=>QaZ_ R hi d (σ s) row W h);rcases bft (fnB R.sg (σ s))with hF|hF
  ·rw[ip_ hF];rw[hF]at X;have p:=h_ (λ(row:ON) (W:Ω) h=>QgV_ R hi N f hN HE d (σ s) row W h s rfl Z V hd);unfold QA_ at p;generalize fnS R.sg (Qd_ R.sg N f) N d (σ s)=r at p |-
   obtain⟨k,ar⟩:=r;dsimp only at p |-
   go_in;go_wp2_with fail;refine rst (Y.o) E F ?_;intro w1 n o;go_wp2_with fail;refine(HS.o ⟨#[91]⟩ _ _ (n.o.alloc _)).mono ?_;rw[O.o,P.o];rintro e w2 ⟨rfl,row2,y,T⟩;have j:=QS_ o T;have g:=h_ y;go_wp2_with fail;refine rst (HQ.o _ _ g.o) g j ?_;intro w3 z G;go_wp2_with fail;refine rst (X.o _ _ z.o) z G ?_;intro w4 ad M;go_wp2_with fail;refine pst (p.o _ _ ad.o) M ?_;intro w5 ab ae af;go_wp2;go_ret;exact⟨rfl,ab,ae.o,af.o⟩
  rw[in_ (by rw[hF];decide)];rw[hF]at X;unfold parS;dsimp only;have p:=h_ (λ(row:ON) (W:Ω) h=>HE.value R.U d (Qf_ (σ s)) row W h (V.next Z (Qh_ _) oo) oo);unfold QA_ at p;generalize Qd_ R.sg N f .value d (Qf_ (σ s))=r at p |-
  obtain⟨k,ar⟩:=r;dsimp only at p |-
  have ac:=h_ H;have Q:=h_ K;go_in;go_wp2_with fail;refine rst (Y.o) E F ?_;intro w1 n o;go_wp2_with fail;refine(HS.o ⟨#[91]⟩ _ _ (n.o.alloc _)).mono ?_;rw[O.o,P.o];rintro e w2 ⟨rfl,row2,y,T⟩;have j:=QS_ o T;have g:=h_ y;go_wp2_with fail;refine rst (HQ.o _ _ g.o) g j ?_;intro w3 z G;go_wp2_with fail;refine rst (X.o _ _ z.o) z G ?_;intro w4 ad M;go_wp2_with fail;refine(HS.o ⟨#[40]⟩ _ _ ad.o).mono ?_;rw[ac.o,Q.o];rintro e w5 ⟨rfl,ab,h5,k5⟩;have af:=QS_ M k5;have ae:=h_ h5;go_wp2_with fail;refine pst (p.o _ _ ae.o) af ?_;intro w6 ap aj aB;have al:=h_ aj.o.lo;go_wp2_with fail;refine pst (KK_ R hi d ar ap ⟨#[41]⟩ 11 noT (σ ⟨w6.heap.size,0,ν⟩) 1 1 [k] φ w6.heap.size _ (aj.o.alloc _) (GW_ w6 k) al.o) aB ?_;intro w7 aq aA aC;go_wp2;go_ret;exact⟨rfl,aq,aA.o,aC.o⟩
 rw[in_ (by rw[H];decide)];rw[H]at HQ;have ac:=h_ H;have Q:=h_<|QD_ H;go_in;go_wp2_with fail
 refine rst (Y.o) E F ?_;intro w1 n o;go_wp2_with fail;refine(HS.o ⟨#[91]⟩ _ _ (n.o.alloc _)).mono ?_;rw[O.o,P.o];rintro e w2 ⟨rfl,row2,y,T⟩;have j:=QS_ o T;have g:=h_ y;go_wp2_with fail;refine rst (HQ.o _ _ g.o) g j ?_;intro w3 z G;go_wp2_with fail;refine(HS.o ⟨#[40]⟩ _ _ z.o).mono ?_;rw[ac.o,Q.o];rintro e w4 ⟨rfl,U,h4,k4⟩;have M:=QS_ G k4;obtain⟨a,b,AN,cN,l,hc,aI,aa⟩:=h4;obtain⟨c0,c2,c3,c4,c5,cf,cz⟩:=hc.ci hi;have HF:=h_<|RdI.bad1 hi hc aa;go_wp2;go_ret;exact⟨rfl,U,HF.o.1,M.o.trans HF.o.2⟩
section
variable {R:RC} {d:Nat} {st:RdSt} {row row' row0:ON} {w w' w0:Ω} {g:Nat} {cs:Array Υ}
def RdI.setBox (h:RdI R d st row w) (K:Blk w g 96 cs) (h2:σ g≠row) (n:R.w0.heap.size<=g) (i:Nat) (u:Υ):RdI R d st row (w.setCell ⟨g,i,ν⟩ u):=by
 obtain⟨a,b,AN,cN,l,⟨c1,c2,c3,c4,c5,c6,c7⟩,o,hr⟩:=h;refine⟨a,b,AN,cN,l,⟨c1.far (Kj_ c1 K R.ty_node) u,?_,⟨λx hx=>⟨(c3.1 x hx).1,Qt_ (c3.1 x hx).2 K dc_ _ _⟩,λg n=>by simpa[World.setCell]using c3.2 g n⟩,c4,c5,c6.setCell n _,c7⟩,o,hr⟩;have c:=c2.len;rcases c2.own with⟨f,e2,e3⟩|⟨g',f,j,hn,m,rest,k,hs⟩
 ·rw[f,e2,e3];exact⟨by rw[c,e2],.inl ⟨rfl,rfl⟩⟩
 rw[f];refine Mine.mk_own ⟨rest,k.far (λe=>?_) u,hs⟩ c j hn m;have e':g'=g:=e;apply h2;rw[hr,f,e'];rfl
def Kr.setBox {T:Nat} (h:Kr T row0 w0 row w) (hg:w0.heap.size<=g) (i:Nat) (u:Υ):Kr T row0 w0 row (w.setCell ⟨g,i,ν⟩ u):=
 ⟨lt_ h.1 (by simp[World.setCell]),h.2.1,λq hq ht hr=>(Below.heap_setCell w ⟨g,i,ν⟩ u q (by show q≠g;omega)).trans (h.2.2 q hq ht hr)⟩
def Qan_ (w:Ω) (p:Addr) (u:Υ):(w.setCell p u).heap.size=w.heap.size:=by simp[World.setCell]
def UG_ {T:Nat} {t:TypeId} (K:Blk w g t cs) (k:Kr T row w row' w') (h1:g≠T) (h2:σ g≠row):Blk w' g t cs/\σ g≠row':=
 ⟨K.kr k h1 h2,k.fresh h2 K.lt⟩
def Wx_ (h:RdI R d st row w):σ w.heap.size≠row:=λe=>by have:=h.row_lt e;omega
end
def Gd_ (R:RC) (hi:R.imp=τ) (N f:Nat) (HE:EC R N f) (d:Nat) (b:Bool) (s:PS) (row:ON) (w:Ω) (V:RdI R d (σ s) row w) (q:s.at_<R.n) {r:Nat} (hn:Need R.n (σ s) r (f+1)) (hd:d+f<=100000):
  Δ π 161 #[P_ (σ ⟨R.T,0,ν⟩),B_ b] w (QA_ R d row w (I_ j_ (Jx_ R.sg (Qd_ R.sg N f) d b (Qf_ (σ s))).1) (Jx_ R.sg (Qd_ R.sg N f) d b (Qf_ (σ s))).2):=by
 have J:=h_ V;have L:=h_<|Kr.refl R.T row w;have ab:=h_ V.lo;have HL:=h_ (λt (e:(σ s)=σ t)=>show t.at_<R.n by obtain rfl:=oi_ e;exact q);have j:=h_ (λ(row:ON) (W:Ω) h=>JW_ R hi d (Qf_ (σ s)) row W h);unfold QA_ at j |-
 unfold Jx_;dsimp only;have g:=(Qh_ (σ s)).trans (Jy_ (sg:=R.sg) (Qf_ (σ s)));generalize nmT R.sg (Qf_ (σ s))=X at j |-
 generalize nmS R.sg (Qf_ (σ s))=st2 at j g |-
 have HS:=h_ (λ(row:ON) (W:Ω) h=>YP_ R hi d st2 row ⟨#[61]⟩ W h);unfold QA_ at HS;rcases bft (isM R.sg st2 ⟨#[61]⟩)with p|p
 ·rw[ip_ p];have D:=h_ p;have E:=h_ (Qy_ p);have U:=h_ (λ(row:ON) (W:Ω) h=>HE.value R.U d (Qf_ st2) row W h (hn.next q (g.trans (Qh_ _)) oo) hd);unfold QA_ at U;generalize Qd_ R.sg N f .value d (Qf_ st2)=r4 at U |-
  obtain⟨k,ak⟩:=r4;dsimp only at U |-
  go_in;go_wp2_with fail;refine pst (Zo_ R hi d (σ s) row w J.o HL.o) L ?_;intro w1 S z A;go_wp2_with fail;refine pst (j.o _ _ z.o) A ?_;intro w2 row2 a i;have G:=i.o.size;have af:=a.o.lt;have c:=Wx_ a.o;have O:=Blk.new w2 96 #[I_ j_ 12,T_ X,S_ ν 0 0,B_ b];go_wp2_with fail;refine(HS.o _ _ (a.o.alloc _)).mono ?_;rw[D.o,E.o];rintro e w3 ⟨rfl,y,Q,v⟩;have B:=QS_ i v;have o:=h_ Q;obtain⟨x,m⟩:=UG_ O v oo c;go_wp2_with fail;refine mb_ (U.o _ _ o.o) ?_;rintro H ⟨T,h4,k4⟩;have Z:=QS_ B k4;have Y:=h_ h4;obtain⟨I,F⟩:=UG_ x k4 oo m;have K:=h_<|Y.o.setBox I F (lt_ ab.o.1 G) 2<|S_ (σ ⟨H.heap.size,0,ν⟩) 1 1;have aa:=h_<|Z.o.setBox G 2<|S_ (σ ⟨H.heap.size,0,ν⟩) 1 1;have P:=(I.set_ 2 (S_ (σ ⟨H.heap.size,0,ν⟩) 1 1)).alloc (C_ #[I_ j_ k] 3);have hm:=GW_ (H.setCell ⟨w2.heap.size,2,ν⟩ (S_ (σ ⟨H.heap.size,0,ν⟩) 1 1)) k;have l:=K.o.lo;rw[Qan_]at hm l;have ac:=h_ hm;have M:=h_ l;have j2:=I.cell 2;have jf:=I.frozen;have jz:=I.lt;have k0:=P.cell 0;have k1:=P.cell 1;have k2:=P.cell 2;have v:=P.cell 3;simp only[List.setIfInBounds_toArray,List.set_cons_succ,List.set_cons_zero,List.getElem?_toArray,List.getElem?_cons_zero,List.getElem?_cons_succ]at k0 k1 k2 v j2;go_wp2_with fail
  refine mb_ (KK_ R hi d ak T ⟨#[59]⟩ 12 X (σ ⟨H.heap.size,0,ν⟩) 1 1 [k] b H.heap.size _ (K.o.alloc _) ac.o M.o) ?_;rintro w6 ⟨n,h6,k6⟩;have C:=QS_ aa k6;go_wp2;go_ret;exact⟨rfl,n,h6,C.o⟩
 rw[in_ (by rw[p];decide)];have D:=h_ p;have E:=h_<|QD_ p;go_in;go_wp2_with fail
 refine pst (Zo_ R hi d (σ s) row w J.o HL.o) L ?_;intro w1 S z A;go_wp2_with fail;refine pst (j.o _ _ z.o) A ?_;intro w2 row2 a i;have G:=i.o.size;have af:=a.o.lt;have c:=Wx_ a.o;have O:=Blk.new w2 96 #[I_ j_ 12,T_ X,S_ ν 0 0,B_ b];go_wp2_with fail;refine(HS.o _ _ (a.o.alloc _)).mono ?_;rw[D.o,E.o];rintro e w3 ⟨rfl,y,Q,v⟩;have B:=QS_ i v;have o:=h_ Q;obtain⟨x,m⟩:=UG_ O v oo c;have k0:=x.q0;have k1:=x.q1;have k2:=x.q2;have al:=x.q3;go_wp2_with fail;refine mb_ (KK_ R hi d st2 y ⟨#[59]⟩ 12 X ν 0 0 [] b w3.heap.size _ o.o (Mine.mk_nil _ _ _ _) o.o.lo) ?_;rintro w6 ⟨n,h6,k6⟩;have C:=QS_ B k6;go_wp2;go_ret;exact⟨rfl,n,h6,C.o⟩
def Qbl_ (R:RC) (hi:R.imp=τ) (N f:Nat) (HE:EC R N f) (r:Nat) (b:Bool) (s:PS) (row:ON) (w:Ω) (M:RdI R r (σ s) row w) (n:s.at_<R.n) (X:Need R.n (σ s) d (f+1)) (hd:r+f<=100000):
  Δ π 239 #[P_ (σ ⟨R.T,0,ν⟩),B_ b] w (QA_ R r row w (I_ j_ (Yp_ R.sg (Qd_ R.sg N f) r b (Qf_ (σ s))).1) (Yp_ R.sg (Qd_ R.sg N f) r b (Qf_ (σ s))).2):=by
 have C:=h_ M;have E:=h_<|Kr.refl R.T row w;have S:=h_ M.lo;have HL:=h_ (λt (e:(σ s)=σ t)=>show t.at_<R.n by obtain rfl:=oi_ e;exact n);unfold QA_ Yp_;dsimp only;have c:=(Qh_ (σ s));have L:=h_ (λ(row:ON) (W:Ω) h=>Vj_ R hi r (Qf_ (σ s)) row ⟨#[59]⟩ W h);rcases bft (isM R.sg (Qf_ (σ s)) ⟨#[59]⟩)with x|x
 ·rw[ip_ x];rw[x]at L;go_in;go_wp2_with fail;refine pst (Zo_ R hi r (σ s) row w C.o HL.o) E ?_;intro w1 p a l;have G:=Blk.new w1 96 #[I_ j_ 15,T_ ⟨#[]⟩,S_ ν 0 0,B_ b];go_wp2_with fail;refine mb_ (L.o _ _ (a.o.alloc _)) ?_;intro w3 m;have q:=h_<|(l.o.below bra).below m;have j:=h_<|(a.o.alloc _).next m;have o:=G.next m;have k0:=o.q0;have k1:=o.q1;have k2:=o.q2;have ac:=o.q3;go_wp2_with fail
  refine mb_ (KK_ R hi r _ p ⟨#[59]⟩ 15 noT ν 0 0 [] b w3.heap.size _ j.o (Mine.mk_nil _ _ _ _) j.o.lo) ?_;rintro w6 ⟨i,U,Z⟩;have v:=QS_ q Z;go_wp2;go_ret;exact⟨rfl,i,U,v.o⟩
 rw[in_ (by rw[x];decide)];rw[x]at L;have K:=h_ (λ(row:ON) (W:Ω) h=>HE.value R.U r (Qf_ (σ s)) row W h (X.next n c oo) hd);unfold QA_ at K;generalize Qd_ R.sg N f .value r (Qf_ (σ s))=r4 at K |-
 obtain⟨k,aa⟩:=r4;dsimp only at K |-
 go_in;go_wp2_with fail;refine pst (Zo_ R hi r (σ s) row w C.o HL.o) E ?_;intro w1 p a l;have I:=l.o.size;have ab:=a.o.lt;have y:=Wx_ a.o;have G:=Blk.new w1 96 #[I_ j_ 15,T_ ⟨#[]⟩,S_ ν 0 0,B_ b];go_wp2_with fail;refine mb_ (L.o _ _ (a.o.alloc _)) ?_;intro w3 m;have q:=h_<|(l.o.below bra).below m;have j:=h_<|(a.o.alloc _).next m;have o:=G.next m;go_wp2_with fail
 refine mb_ (K.o _ _ j.o) ?_;rintro A ⟨J,h4,Y⟩;have P:=QS_ q Y;have O:=h_ h4;obtain⟨B,z⟩:=UG_ o Y oo y;have D:=h_<|O.o.setBox B z (lt_ S.o.1 I) 2<|S_ (σ ⟨A.heap.size,0,ν⟩) 1 1;have Q:=h_<|P.o.setBox I 2<|S_ (σ ⟨A.heap.size,0,ν⟩) 1 1;have H:=(B.set_ 2 (S_ (σ ⟨A.heap.size,0,ν⟩) 1 1)).alloc (C_ #[I_ j_ k] 3);have V:=GW_ (A.setCell ⟨w1.heap.size,2,ν⟩ (S_ (σ ⟨A.heap.size,0,ν⟩) 1 1)) k;have g:=D.o.lo;rw[Qan_]at V g;have T:=h_ V;have F:=h_ g;have j2:=B.cell 2;have jf:=B.frozen;have jz:=B.lt;have k0:=H.cell 0;have k1:=H.cell 1;have k2:=H.cell 2;have k3:=H.cell 3;simp only[List.setIfInBounds_toArray,List.set_cons_succ,List.set_cons_zero,List.getElem?_toArray,List.getElem?_cons_zero,List.getElem?_cons_succ]at k0 k1 k2 k3 j2;go_wp2_with fail
 refine mb_ (KK_ R hi r aa J ⟨#[59]⟩ 15 noT (σ ⟨A.heap.size,0,ν⟩) 1 1 [k] b A.heap.size _ (D.o.alloc _) T.o F.o) ?_;rintro w6 ⟨i,U,Z⟩;have v:=QS_ Q Z;go_wp2;go_ret;exact⟨rfl,i,U,v.o⟩
def VZ_ (R:RC) (hi:R.imp=τ) (N f:Nat) (HE:EC R N f) (d:Nat) (st:RdSt) (row:ON) (w:Ω) (hI:RdI R d st row w) (hn:Need R.n (Qn_ R.sg st ⟨#[40]⟩) 11 f) (hd:d+f<=100000):
  Δ π 241 #[P_ (σ ⟨R.T,0,ν⟩)] w λe w'=>∃A,e=R_ (S_ A 1 1)/\Mine w' w.heap.size 3 1 A 1 1 (Qa_ [(JJ_ R.sg (Qd_ R.sg N f) d st).1])/\∃row',RdI (R.res A) d (JJ_ R.sg (Qd_ R.sg N f) d st).2 row' w'/\Kr R.T row w row' w':=by
 have i:=h_ hI;have o:=h_<|Kr.refl R.T row w;unfold JJ_;dsimp only;have c:=h_ (λ(row:ON) (W:Ω) h=>HE.value R.U d (Qn_ R.sg st ⟨#[40]⟩) row W h hn hd);unfold QA_ at c;generalize Qd_ R.sg N f .value d (Qn_ R.sg st ⟨#[40]⟩)=r4 at c |-
 obtain⟨k,s⟩:=r4;dsimp only at c |-
 go_in;go_wp2_with fail;refine pst (ZQ_ R hi d st row ⟨#[40]⟩ w i.o) o ?_;intro w1 t j p;go_wp2_with fail;refine pst (c.o _ _ j.o) p ?_;intro w2 row2 l q;go_wp2_with fail;refine pst (ZQ_ R hi d s row2 ⟨#[41]⟩ w2 l.o) q ?_;intro w3 b m a;have hz:=a.o.size;have HM:=h_<|(GW_ w3 k).more (B':=w.heap.size) hz;have n:=h_<|m.o.res_new (A:=σ ⟨w3.heap.size,0,ν⟩) (br.alloc (lr_ _) (C_ #[I_ j_ k] 3)) (λg hg=>by simp at hg;subst hg;simp);have r:=h_<|a.o.below<|br.alloc (lr_ _)<|C_ #[I_ j_ k] 3;go_wp2;go_ret;exact⟨_,rfl,HM.o,b,n.o,r.o⟩
section
variable {R:RC} (U:Nat->Prop) (hi:R.imp=τ) (d:Nat) (st:RdSt) (row:ON)
include hi
def QdK_ (w:Ω) (hI:RdI { R with U:=U } d st row w):
 Δ π 119 #[P_ (σ ⟨R.T,0,ν⟩)] w (RB_ (A_ #[I_ j_ (Qx_ R.sg st 0).1,T_ (Qx_ R.sg st 0).2.1,I_ j_ (Qx_ R.sg st 0).2.2.1,B_ (Qx_ R.sg st 0).2.2.2]) w):=Kl_ { R with U:=U } hi d st row w hI
def Qfr_ (m:BA) (w:Ω) (hI:RdI { R with U:=U } d st row w):
 Δ π 160 #[P_ (σ ⟨R.T,0,ν⟩),T_ m] w (RB_ (B_ (isW R.sg st m)) w):=Qs_ { R with U:=U } hi d st row m w hI
def Qiv_ (w:Ω) (hI:RdI { R with U:=U } d st row w) (a:∀s,st=σ s->s.at_<R.n):
 Δ π 200 #[P_ (σ ⟨R.T,0,ν⟩)] w λe w'=>e=R_ (U_ #[])/\∃row',RdI { R with U:=U } d (Qf_ st) row' w'/\Kr R.T row w row' w':=Zo_ { R with U:=U } hi d st row w hI a
end
def U9_ {st:RdSt} (h:isW r st m=τ):∃s,st=σ s/\s.at_<η r:=by
 cases st with
 |none=>exact absurd h (by rw[vS_];decide)
 |some s=>
  refine⟨s,rfl,?_⟩;rcases Nat.lt_or_ge s.at_ (η r) with hl|hl
  ·exact hl
  unfold isW at h;rw[ZO_ (i:=0) hl,show(sgZero.1==1)=φ from rfl,φa]at h;exact absurd h dc_
def x9_ (R:RC) (hi:R.imp=τ) (N f:Nat) (HE:EC R N f) (r:Nat) (b:Bool) (s:PS) (row:ON) (w:Ω) (S:RdI R r (σ s) row w) (j:s.at_<R.n) (hn:Need R.n (σ s) d (f+1)) (hd:r+f<=100000):
  Δ π 240 #[P_ (σ ⟨R.T,0,ν⟩),B_ b] w (QA_ R r row w (I_ j_ (ifS R.sg (Qd_ R.sg N f) r b (Qf_ (σ s))).1) (ifS R.sg (Qd_ R.sg N f) r b (Qf_ (σ s))).2):=by
 obtain⟨i0,aC⟩:=iq_ QY_;have T:=h_ S;have X:=h_<|Kr.refl R.T row w;have Y:=h_ S.lo;have D:=h_ S.lo.1;have HL:=h_ (λt (e:(σ s)=σ t)=>show t.at_<R.n by obtain rfl:=oi_ e;exact j);have B:=S.ok.len;unfold QA_ ifS;dsimp only;have i:=Qh_<|some s;have P:=h_ (λ(row:ON) (W:Ω) h=>VZ_ R hi N f HE r (Qf_ (σ s)) row W h (hn.next j (i.trans (Qq_ _ _)) oo) hd);have a:=i.trans<|Yy_ (sg:=R.sg) (E:=Qd_ R.sg N f) (λm r st=>QB_ f m r st) r<|Qf_<|some s;generalize JJ_ R.sg (Qd_ R.sg N f) r (Qf_ (σ s))=rc at P a |-
 obtain⟨kc,O⟩:=rc;dsimp only at P a |-
 have L:=h_ (λ(U:Nat->Prop) (row:ON) (W:Ω) h=>HE.block U r O row W h (hn.next j a oo) hd);have c:=a.trans<|QB_ (sg:=R.sg) (N:=N) f .block r O;unfold QA_ at L;generalize Qd_ R.sg N f .block r O=rt at L c |-
 obtain⟨kt,st2⟩:=rt;dsimp only at L c |-
 have Q:=h_ (λ(U:Nat->Prop) (row:ON) (W:Ω) h=>Qfr_ (R:=R) U hi r st2 row ⟨#[101,108,115,101]⟩ W h);rcases bft (isW R.sg st2 ⟨#[101,108,115,101]⟩)with z|z
 ·rw[ip_ z];rw[z]at Q;have aq:=h_ (λt (e:st2=σ t)=>show t.at_<R.n by
   obtain⟨t',e',hl⟩:=U9_ z;rw[e]at e';obtain rfl:=oi_ e';omega)
  have p:=h_ (λ(U:Nat->Prop) (row:ON) (W:Ω) h=>HE.block U r (Qf_ st2) row W h (hn.next j (c.trans (Qh_ _)) oo) hd);unfold QA_ at p;generalize Qd_ R.sg N f .block r (Qf_ st2)=ro at p |-
  obtain⟨ko,az⟩:=ro;dsimp only at p |-
  go_in;go_wp2_with fail;refine pst (Zo_ R hi r (σ s) row w T.o HL.o) X ?_;intro w1 ai F n;go_wp2_with fail;refine(P.o _ _ F.o).mono ?_;rintro e w2 ⟨A,rfl,m2,row2,h2,k2⟩;have H:=QS_ n k2;have k:=h_ h2;have g:=h_<|m2.more (B':=w.heap.size) n.o.size;go_wp2_with fail
  refine mb_ (L.o _ _ _ k.o) ?_;rintro w3 ⟨q,h3,M⟩;replace g:=h_ (k.o.keepI M g.o);have G:=h_ h3;have I:=h_<|H.o.trans M;go_wp2_with (at_builtin;refine KA_ (.tmp 14) (.tmp 16) G I g D rfl rfl rfl rfl oo ?_;intro A4 c4 w4 l J o)
  replace g:=o;go_wp2_with fail;refine mb_ (Q.o _ _ _ l.o) ?_;intro w5 y;replace g:=h_ (g.o.next y);have x:=h_<|l.o.next y;have K:=h_<|J.o.below y;go_wp2_with fail
  refine mb_ (Qiv_ _ hi r st2 q w5 x.o aq.o) ?_;rintro w6 ⟨aB,h6,k6⟩;replace g:=h_ (x.o.keepI k6 g.o);have V:=h_ h6;have an:=h_<|K.o.trans k6;go_wp2_with fail
  refine mb_ (p.o _ _ _ V.o) ?_;rintro w7 ⟨aj,h7,k7⟩;replace g:=h_ (V.o.keepI k7 g.o);have al:=h_ h7;have ao:=h_<|an.o.trans k7;go_wp2_with (at_builtin;refine KA_ (.tmp 24) (.tmp 26) al ao g D rfl rfl rfl rfl oo ?_;intro A8 c8 w8 am ap Z)
  replace g:=Z;have hA:=addK R hi r az aj 16 noT A8 3 c8 [kc,kt,ko] b w.heap.size w8 am.o.unres g.o Y.o;unfold QA_ at hA;have C:=h_ hA;go_wp2_with fail;refine mb_ C.o ?_;rintro w9 ⟨v,h9,k9⟩;go_wp2;go_ret;exact⟨rfl,v,h9,ap.o.trans k9⟩
 rw[in_ (by rw[z];decide)];rw[z]at Q;go_in;go_wp2_with fail;refine pst (Zo_ R hi r (σ s) row w T.o HL.o) X ?_;intro w1 ai F n;go_wp2_with fail;refine(P.o _ _ F.o).mono ?_;rintro e w2 ⟨A,rfl,m2,row2,h2,k2⟩;have H:=QS_ n k2;have k:=h_ h2;have g:=h_<|m2.more (B':=w.heap.size) n.o.size;go_wp2_with fail
 refine mb_ (L.o _ _ _ k.o) ?_;rintro w3 ⟨q,h3,M⟩;replace g:=h_ (k.o.keepI M g.o);have G:=h_ h3;have I:=h_<|H.o.trans M;go_wp2_with (at_builtin;refine KA_ (.tmp 14) (.tmp 16) G I g D rfl rfl rfl rfl oo ?_;intro A4 c4 w4 l J o)
 replace g:=o;go_wp2_with fail;refine mb_ (Q.o _ _ _ l.o) ?_;intro w5 y;replace g:=h_ (g.o.next y);have x:=h_<|l.o.next y;have K:=h_<|J.o.below y;have hA:=addK R hi r st2 q 16 noT A4 2 c4 [kc,kt] b w.heap.size w5 x.o.unres g.o Y.o;unfold QA_ at hA;have C:=h_ hA;go_wp2_with fail
 refine mb_ C.o ?_;rintro w9 ⟨v,h9,k9⟩;go_wp2;go_ret;exact⟨rfl,v,h9,K.o.trans k9⟩
def QeS_ (R:RC) (d:Nat) (a:RdSt) (one:Bool->RdSt->PR) (C:Ω->Bool->(Ending->Ω->Prop)->Prop):Prop:=
 ∀(U:Nat->Prop) (b:Bool) (t:PS) (row:ON) (w:Ω),RdI { R with U:=U } d (σ t) row w->Adv 1 0 a (σ t)->C w b (QA_ { R with U:=U } d row w (I_ j_ (one b (σ t)).1) (one b (σ t)).2)
def QaI_ (R:RC) (hi:R.imp=τ) (N f:Nat) (hN:R.n<N) (HE:EC R N f) (d:Nat) (st:RdSt) (row:ON) (w:Ω) (hI:RdI R d st row w) (hn:Need R.n st 13 (f+1)) (hd:d+(f+1)<=100000):
  Δ π 167 #[P_ (σ ⟨R.T,0,ν⟩)] w (QA_ R d row w (I_ j_ (Ye_ R.sg (Qd_ R.sg N f) N d st).1) (Ye_ R.sg (Qd_ R.sg N f) N d st).2):=by
 obtain⟨i0,a0⟩:=iq_ QY_;have ay:=h_ hI;have aA:=h_ (Kr.refl R.T row w);have aP:=h_ hI.lo;have av:=h_ hI.lo.1;have aZ:=hI.ok.len;have HO:Ψ (QeS_ R (d+1) st (λb=>Qd_ R.sg N f (.stmt b) (d+1)) (λw b Q=>Δ π 208 #[P_ (σ ⟨R.T,0,ν⟩),B_ b] w Q)):=(show QeS_ _ _ _ _ _ from λU b t row w h ha=>HE.stmt U b (d+1) (σ t) row w h (by
  obtain⟨s,rfl,h1,_⟩:=ha t rfl;have h2:=(h.le rfl).1;have h3:({ R with U:=U }:RC).n=R.n:=rfl;exact hn.next oo (ha.weak (i':=0+1) (j':=0) oo oo) oo) oo)
 have HA:=h_ (λ(b:Bool) st=>QB_ (sg:=R.sg) (N:=N) f (.stmt b) (d+1) st);unfold QA_ Ye_;dsimp only;have ac:=(Xq_ d st).trans (Qq_ (sg:=R.sg) (KI_ d st) ⟨#[123]⟩);obtain⟨Q,hQ⟩:=ex_ (Zv_ R.sg (λb=>Qd_ R.sg N f (.stmt b) (d+1)) N [] (Qn_ R.sg (KI_ d st) ⟨#[123]⟩));rw[hQ];have X:=h_ hQ;have F:Ψ (Adv 1 0 st (Qn_ R.sg (KI_ d st) ⟨#[123]⟩)):=ac.weak oo oo;have ar:Ψ (∀b st,Adv 1 1 st ((λb=>Qd_ R.sg N f (.stmt b) (d+1)) b st).2):=(show ∀b st,_ from HA.o);generalize (λb=>Qd_ R.sg N f (.stmt b) (d+1))=one at HO X ar;have a1:=fld3;go_in;go_wp2_with fail;refine pst (UT_ R hi d st row w ay.o oo) aA ?_;intro w1 aL az aB;go_wp2_with fail;refine pst (ZQ_ R hi (d+1) (KI_ d st) aL ⟨#[123]⟩ w1 az.o) aB ?_;intro w2 row2 k n;generalize Qn_ R.sg (KI_ d st) ⟨#[123]⟩=st2 at X F k;go_upto_region 4 with fail
 go_loopw [3] (λv wr=>∃(M:Nat) (ks:LI) (st':RdSt) (row':ON) (A:OA) (c:Nat),v=S_ A (η ks) c/\Ψ (Zv_ R.sg one M ks st'=Q)/\Ψ (Adv 1 0 st st')/\Ψ (Enough R.n M st')/\Ψ (KidB ks st')/\Ψ (Mine wr w.heap.size 3 1 A (η ks) c (Qa_ ks))/\Ψ (RdI (R.res A) (d+1) st' row' wr)/\Ψ (Kr R.T row w row' wr)) (λ_ wr=>Z1_ R wr)
 ·exact⟨N,[],st2,row2,ν,0,rfl,X,F,(show Enough _ _ _ from QP_ hN _),⟨by simp,λs _=>by simp⟩,Mine.mk_nil _ _ _ _,k.o.res_new br (λg hg=>by cases hg),n⟩
 obtain⟨M,ks,st',row',A,c,rfl,X,ae,ah,aC,E,H,HK⟩:=hrel;have B:=h_ (λ(row:ON) (W:Ω) (hI:RdI R (d+1) st' row W) (hm:Mine W w.heap.size 3 1 A (η ks) c (Qa_ ks))=>KK_ R hi (d+1) st' row ⟨#[125]⟩ 18 noT A (η ks) c ks φ w.heap.size W hI hm aP.o);unfold QA_ at B
 cases st' with
 |none=>
  obtain⟨a,b,AN,cN,l,hc,hb,V⟩:=H.o;obtain⟨c2,c3,c4,cf,cz⟩:=hc.cu _ hi;obtain rfl:b=τ:=hb;have o:=X.o;rw[Xx_]at o;subst o;go_wp2_with fail;refine mb_ (B.o _ _ H.o.unres E.o) ?_;rintro w4 ⟨m,O,D⟩;obtain⟨d3,df,dz,P,S⟩:=qH_ hi O;have HF:=h_<|ai_ P<|(HK.o.trans D).trans S;go_wp2;go_ret;exact⟨rfl,m,HF.o.1,HF.o.2⟩
 |some t=>
  obtain⟨M,rfl⟩:∃M',M=M'+1:=⟨M-1,by
   have h1:=ah.o t rfl;have h2:=(H.o.le rfl).1;have:(R.res A).n=R.n:=rfl;omega⟩
  obtain⟨a,b,AN,cN,l,hc,hb,V⟩:=H.o;obtain⟨c2,c3,c4,cf,cz⟩:=hc.cu _ hi;obtain⟨rfl,_,_⟩:=hb;have y:=h_<|is_u _ hi (d+1) (σ t) row' ⟨#[125]⟩ wr H.o;have o:=X.o;unfold Zv_ at o;rw[in_ (show ¬(σ t).isNone=τ by simp)]at o;rcases bft (isM R.sg (σ t) ⟨#[125]⟩)with hM|hM
  ·rw[ip_ hM]at o;subst o;rw[hM]at y;go_wp2_with fail;refine mb_ y.o ?_;intro w2 C;have k:=h_<|H.o.next C;have z:=h_<|E.o.next C;have n:=h_<|HK.o.below C;go_wp2_with fail
   refine mb_ (B.o _ _ k.o.unres z.o) ?_;rintro w4 ⟨m,O,D⟩;obtain⟨d3,df,dz,P,S⟩:=qH_ hi O;have HF:=h_<|ai_ P<|(n.o.trans D).trans S;go_wp2;go_ret;exact⟨rfl,m,HF.o.1,HF.o.2⟩
  rw[in_ (by rw[hM];decide)]at o;rw[hM]at y;have HX:=h_ (λ(row:ON) (W:Ω) h=>QdK_ (R:=R) (λx=>R.U x\/A.map (·.block)=σ x) hi (d+1) (σ t) row W h);have aa:XI_ R.sg (σ t) ks=((Qx_ R.sg (σ t) 0).2.2.2&&decide (0<η ks)):=rfl;rw[aa]at o;generalize Qx_ R.sg (σ t) 0=x at HX o aa;obtain⟨xk,xt,xp,xz⟩:=x;dsimp only at HX o aa;have aY:=aC.o.2 t rfl;have a3:=(H.o.le rfl).2;have a2:=aC.o.1;have Y:Ψ (∀bb:Bool,(xz&&decide (0<η ks))=bb->∃r:PR,Zv_ R.sg one M (ks++[r.1]) r.2=Q/\Adv 1 1 (σ t) r.2/\∀(row:ON) (W:Ω),RdI { R with U:=λx=>R.U x\/A.map (·.block)=σ x } (d+1) (σ t) row W->Δ π 208 #[P_ (σ ⟨R.T,0,ν⟩),B_ bb] W (λe w'=>e=R_ (I_ j_ r.1)/\∃row',RdI { R with U:=λx=>R.U x\/A.map (·.block)=σ x } (d+1) r.2 row' w'/\Kr R.T row W row' w')):=(show ∀bb,_->_ from λbb e=>⟨one bb (σ t),by rw[<-e];exact o,ar.o bb (σ t),λrow W h=>HO.o _ bb t row W h ae.o⟩)
  cases xz with
  |false=>
   obtain⟨r,o,j,hC⟩:=Y.o φ rfl;obtain⟨kc,p⟩:=r;dsimp only at o j hC;have al:=h_ o;have HC:=h_ hC;have G:=h_ j;have af:Ψ (KidB (ks++[kc]) p):=(show KidB _ _ from⟨by rw[lA];simp;omega,λt2 e=>by
    obtain⟨aU,e2,_,h3⟩:=j t2 e;obtain rfl:=oi_ e2;rw[lA];simp;omega⟩)
   have ag:Ψ (Enough R.n M p):=ah.o.adv (i:=0) j;have ad:Ψ (Adv 1 0 st p):=(ae.o.trans j).weak oo oo;have T:(ks++[kc]).length=η ks+1:=sm_;go_wp2_with fail;refine mb_ y.o ?_;intro w2 C;have k:=h_<|H.o.next C;have z:=h_<|E.o.next C;have n:=h_<|HK.o.below C;go_wp2_with fail
   refine mb_ (HX.o _ _ k.o) ?_;intro w3 Z;have q:=h_<|k.o.next Z;have K:=h_<|z.o.next Z;have J:=h_<|n.o.below Z;go_wp2_with fail
   refine mb_ (HC.o _ _ q.o) ?_;rintro w4 ⟨m,O,D⟩;have E:=h_<|q.o.keepI D K.o;have ai:=h_ O;have aj:=h_<|J.o.trans D;go_wp2_with (at_builtin;refine KA_ (.tmp 30) (.tmp 32) ai aj E av rfl rfl rfl rfl oo ?_;intro A5 c5 w5 I ak L)
   replace E:=L;go_wp2;go_roundw
   ·exact⟨M,ks++[kc],p,m,A5,c5,by rw[T],al,ad,ag,af,by rw[T];exact E,I,ak⟩
   exact G2_ hi H.o I.o<|G.o.weak (i':=1) (j':=0) oo oo
  |true=>
   obtain⟨r,o,j,hC⟩:=Y.o _ rfl;obtain⟨kc,p⟩:=r;dsimp only at o j hC;rw[τb]at hC;have al:=h_ o;have HC:=h_ hC;have G:=h_ j;have af:Ψ (KidB (ks++[kc]) p):=(show KidB _ _ from⟨by rw[lA];simp;omega,λt2 e=>by
    obtain⟨aU,e2,_,h3⟩:=j t2 e;obtain rfl:=oi_ e2;rw[lA];simp;omega⟩)
   have ag:Ψ (Enough R.n M p):=ah.o.adv (i:=0) j;have ad:Ψ (Adv 1 0 st p):=(ae.o.trans j).weak oo oo;have T:(ks++[kc]).length=η ks+1:=sm_;go_wp2_with fail;refine mb_ y.o ?_;intro w2 C;have k:=h_<|H.o.next C;have z:=h_<|E.o.next C;have n:=h_<|HK.o.below C;go_wp2_with fail
   refine mb_ (HX.o _ _ k.o) ?_;intro w3 Z;have q:=h_<|k.o.next Z;have K:=h_<|z.o.next Z;have J:=h_<|n.o.below Z;go_wp2_with fail
   refine mb_ (HC.o _ _ q.o) ?_;rintro w4 ⟨m,O,D⟩;have E:=h_<|q.o.keepI D K.o;have ai:=h_ O;have aj:=h_<|J.o.trans D;go_wp2_with (at_builtin;refine KA_ (.tmp 30) (.tmp 32) ai aj E av rfl rfl rfl rfl oo ?_;intro A5 c5 w5 I ak L)
   replace E:=L;go_wp2;go_roundw
   ·exact⟨M,ks++[kc],p,m,A5,c5,by rw[T],al,ad,ag,af,by rw[T];exact E,I,ak⟩
   exact G2_ hi H.o I.o<|G.o.weak (i':=1) (j':=0) oo oo
end Go.Proofs.YtbiijipkgfpgoaaGreatDoor

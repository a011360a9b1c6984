/-
  Put together by program.
-/
import Derived.Test.YtbiijipkgfpgoaaGreatDoorMfJ
set_option maxRecDepth 100000
set_option linter.all false
set_option maxHeartbeats 25600000
open Go.Proofs.Tryz
open Go.Value renaming int→I_,slice→S_,string→T_,bool→B_,pointer→P_,tuple→U_
open Go.IntKind renaming i64→j_
open Go.Obj renaming cells→C_
open Go.Ending renaming returned→R_
namespace Go.Proofs.YtbiijipkgfpgoaaGreatDoor
open Go.RowKit
section
variable {R:RC} (U:Nat->Prop) (hi:R.imp=false) (d lo:Nat) (one:RdSt->PR) (HO:Hid (QeU_ R 93 d lo one)) (h1:∀st,Adv 1 1 st (one st).2) (m:BA) (N:Nat) (st:RdSt) (row:ON) (w:World)
 (hI:RdI { R with U:=U } d st row w) (hlo:LoB lo st) (hN:R.n < N)
include hi HO h1 hI hlo hN
theorem QeM_ (k:Int):Calls prog 109 #[P_ (some ⟨R.T,0,none⟩),T_ m,S_ (some ⟨w.heap.size,0,none⟩) 1 1] (w.alloc (C_ #[I_ j_ k] 3)) fun e w'=>∃(A:OA) (n c:Nat),e=R_ (S_ A n c)/\Mine w' w.heap.size 3 1 A n c (Qa_ (k::(QG_ R.sg one m N [] st).1))/\∃row',RdI { R with U:=U } d (Qn_ R.sg (QG_ R.sg one m N [] st).2 m) row' w'/\Kr R.T row w row' w':=by
 refine(z5_ { R with U:=U } hi d lo one HO h1 m N st row row (w.alloc (C_ #[I_ j_ k] 3)) w [k] (some ⟨w.heap.size,0,none⟩) 1 (hI.res_new bra (fun g hg=>by simp at hg;subst hg;simp)) (GW_ w k) (Kr.of_below bra) hI.lo.1 sm_ hlo (QP_ hN _)).mono ?_;rintro e w' ⟨A,n,c,rfl,_,hm,_,row',h,k'⟩;exact⟨A,n,c,rfl,hm,row',h.unres,k'⟩
theorem QhU_:Calls prog 109 #[P_ (some ⟨R.T,0,none⟩),T_ m,S_ (some ⟨w.heap.size,0,none⟩) 0 0] (w.alloc (C_ #[] 3)) fun e w'=>∃(A:OA) (n c:Nat),e=R_ (S_ A n c)/\Mine w' w.heap.size 3 1 A n c (Qa_ (QG_ R.sg one m N [] st).1)/\∃row',RdI { R with U:=U } d (Qn_ R.sg (QG_ R.sg one m N [] st).2 m) row' w'/\Kr R.T row w row' w':=by
 refine(z5_ { R with U:=U } hi d lo one HO h1 m N st row row (w.alloc (C_ #[] 3)) w [] (some ⟨w.heap.size,0,none⟩) 0 (hI.res_new bra (fun g hg=>by simp at hg;subst hg;simp)) (Y3_ w) (Kr.of_below bra) hI.lo.1 sm_ hlo (QP_ hN _)).mono ?_;rintro e w' ⟨A,n,c,rfl,_,hm,_,row',h,k'⟩;exact⟨A,n,c,rfl,hm,row',h.unres,k'⟩
end
theorem vB_ {sg:List SgP} (one:RdSt->PR) (N:Nat) (k:Int) (st:RdSt):KP_ (Qn_ sg (QG_ sg one ⟨#[41]⟩ N [] (Qn_ sg st ⟨#[40]⟩)).2 ⟨#[41]⟩) ⟨5,noT,k::(QG_ sg one ⟨#[41]⟩ N [] (Qn_ sg st ⟨#[40]⟩)).1,false⟩=Yg_ sg one N k st:=rfl
theorem vd_ (R:RC) (hi:R.imp=false) (N f:Nat) (hN:R.n < N) (HE:SC R N f) (d:Nat) (st:RdSt) (row:ON) (w:World) (hI:RdI R d st row w) (hn:Need R.n st 11 (f+1)) (hd:d+(f+1)<=100000) (L:Deep d st):
  Calls prog 93 #[P_ (some ⟨R.T,0,none⟩)] w (QA_ R d row w (I_ j_ (Xi_ R.sg (Qd_ R.sg N f) N d st).1) (Xi_ R.sg (Qd_ R.sg N f) N d st).2):=by
 have ba:=h_ hI;have ae:=h_ (Kr.refl R.T row w);have aF:=h_ hI.lo;have am:=hn.same (r':=10) oo (Adv.refl st);have HP:=h_ (HE.pick R.U d st row w hI am oo L);have j:=QB_ (sg:=R.sg) (N:=N) f .pick d st;have h1:∀st,Adv 1 1 st (Qd_ R.sg N f .value d st).2:=fun st=>QB_ f .value d st
 have V:=hI.ok.len;unfold PosS at HP;unfold QA_;unfold Xi_;generalize Qd_ R.sg N f .pick d st=r at HP j |-
 obtain⟨k0,l⟩:=r;dsimp only at HP j |-
 rcases bft (isM R.sg l ⟨#[46,46]⟩)with b|b
 ·rw[ip_ b];obtain⟨t,et,bj⟩:=Xe_ b;obtain⟨s,es,ha,bk⟩:=j t et;subst es;have bm:s.at_ < R.n:=oo;have HO:=h_ (HE.one (d:=d) oo hn bm (L s rfl));have HA:=h_ h1;have aj:=h_ b;have q:Hid (LoB (s.at_+1) l):=(show LoB _ _ from fun t' e=>by rw[et]at e;obtain rfl:=oi_ e;omega);have P:Hid (KidB [k0] l):=(show KidB _ _ from⟨by simp,fun t' e=>by rw[et]at e;obtain rfl:=oi_ e;simp;omega⟩);obtain⟨Q,hQ⟩:=ex_ (Y2_ R.sg (Qd_ R.sg N f .value d) N N [k0] l);rw[hQ];have U:=h_ hQ;generalize Qd_ R.sg N f .value d=one at HO HA U;obtain⟨i0,aO,aR,aS,an⟩:=info_parts QY_;have E:=h_ (ai_ aO (ai_ aR (ai_ aS an)));clear aO aR aS an hI hn j V b et ha bj am hQ h1 bk L;go_enter func93,ntmps93;go_wp2_with fail
  refine pst (HP.o) ae ?_;intro w1 k n F;go_wp2_with fail
  refine(GF_ R hi d l k 4 dc_ ⟨#[46,46]⟩ w1 n.o).mono ?_;rw[JO_,aj.o];rintro e w2 ⟨rfl,h2⟩;have ax:=h_ (n.o.next h2);have af:=h_ (F.o.below h2);clear h2;go_upto_region 5 with fail
  have an:=af.o.size;have ai:=h_ ((GW_ w2 k0).more (B':=w.heap.size) oo);have ab:=h_ (ax.o.res_new (A:=some ⟨w2.heap.size,0,none⟩) (br.alloc (lr_ _) (C_ #[I_ j_ k0] 3)) (fun g hg=>by simp at hg;subst hg;simp));have ag:=h_ (af.o.below (br.alloc (lr_ _) (C_ #[I_ j_ k0] 3)));generalize w2.alloc (C_ #[I_ j_ k0] 3)=w3 at ai ab ag |-
  go_loopw [4] (fun v wr=>∃(M:Nat) (ks:LI) (st':RdSt) (row':ON) (A:OA) (c:Nat),v=S_ A ks.length c/\Hid (Y2_ R.sg one N M ks st'=Q)/\Hid (LoB (s.at_+1) st')/\Hid (Enough R.n M st')/\Hid (KidB ks st')/\Hid (Mine wr w.heap.size 3 1 A ks.length c (Qa_ ks))/\Hid (RdI (R.res A) d st' row' wr)/\Hid (Kr R.T row w row' wr)) (fun _ wr=>Jn_ R wr)
  case atStart=>exact⟨N,[k0],l,k,_,1,rfl,U,q,(show Enough _ _ _ from QP_ hN _),P,ai,ab,ag⟩
  case round=>
   clear U q ba n ax ab ae F af ag ai P HP;obtain⟨M,ks,st',row',A,c,rfl,U,q,av,aE,HM,HI,HK⟩:=hrel;have HS:=h_ (X2_ _ hi d st' row' ⟨#[46,46]⟩ wr HI.o);rcases bft (isM R.sg st' ⟨#[46,46]⟩)with b|b
   ·obtain⟨o,bh,aQ⟩:=Xe_ b;subst bh;obtain⟨M,rfl⟩:∃M',M=M'+1:=⟨M - 1,by
     have h1:=av.o o rfl;have h2:=(HI.o.le rfl).1;have:(R.res A).n=R.n:=rfl;omega⟩
    rw[b,Qy_ b]at HS;have m:=U.o;unfold Y2_ at m;rw[ip_ b]at m;have a:=((Qh_ (some o)).trans (QT_ (sg:=R.sg) _)).trans (VB_ (sg:=R.sg) HA.o N (Qj_ R.sg (Qf_ (some o))).1 (Qj_ R.sg (Qf_ (some o))).2);have h:=(Qh_ (some o)).trans (QT_ (sg:=R.sg) (Qf_ (some o)));have Y:=h_ (Jo_ (sg:=R.sg) (Qf_ (some o)));generalize Qj_ R.sg (Qf_ (some o))=r2 at m a h Y;obtain⟨nm,st2⟩:=r2;dsimp only at m a h;have Z:=h_ (vB_ (sg:=R.sg) one N nm st2);generalize Yg_ R.sg one N nm st2=r3 at m a Z;obtain⟨kc,O⟩:=r3;dsimp only at m a;have bg:=h_ m;have a5:=h_ a;have bB:=(HI.o.le rfl).2;have bz:=aE.o.2 o rfl;have bA:=aE.o.1;have a6:Hid (KidB (ks++[kc]) O):=(show KidB _ _ from⟨by rw[lA];simp;omega,fun t e=>by
     obtain⟨bD,e2,_,h3⟩:=a t e;obtain rfl:=oi_ e2;rw[lA];simp;omega⟩)
    have a8:Hid (Enough R.n M O):=av.o.adv (i:=2) a;have a7:Hid (LoB (s.at_+1) O):=q.o.adv a;have bd:Hid (LoB (s.at_+1) (Qn_ R.sg st2 ⟨#[40]⟩)):=(q.o.adv h).adv (Qq_ _ _);have aP:(ks++[kc]).length=ks.length+1:=sm_;clear m b U a h aQ;go_wp2_with fail
    refine HS.o.mono ?_;rintro e w4 ⟨rfl,z,h4,k4⟩;have H:=h_ (HI.o.keepI k4 HM.o);have p:=h_ h4;have G:=h_ (HK.o.trans k4);clear h4 k4 HS;go_wp2_with fail
    refine(YU_ _ hi d (Qf_ (some o)) z w4 p.o).mono ?_;rintro e w5 ⟨rfl,B,h5,k5⟩;have aG:=h_ (p.o.keepI k5 H.o);have C:=h_ h5;have aA:=h_ (G.o.trans k5);have S:=h_ C.o.lo;clear h5 k5 H p G;have J:=h_ (Yu_ (fun x=>R.U x\/A.map (·.block)=some x) hi d (nmS R.sg (Qf_ (some o))) B 1 (nmT R.sg (Qf_ (some o))) _ 0 0 [] w5.heap.size (w5.alloc (C_ #[] 3)) (C.o.next bra) (Y3_ w5) S.o);rw[Y.o]at J;dsimp only at J;go_wp2_with fail
    refine J.o.mono ?_;rintro e w6 ⟨rfl,aV,h6,k6⟩;have aH:=VE_ C k6 aG;have aB:=QS_ aA k6;have ac:=h_ h6;clear h6 k6 J aG C aA Y S;go_wp2_with fail
    refine(Yc_ _ hi d st2 aV ⟨#[40]⟩ w6 ac.o).mono ?_;rintro e w7 ⟨rfl,aX,h7,k7⟩;have aI:=h_ (ac.o.keepI k7 aH.o);have D:=h_ h7;have aC:=h_ (aB.o.trans k7);have T:=h_ D.o.lo;clear h7 k7 aH ac aB;go_wp2_with fail
    refine(QeM_ _ hi d (s.at_+1) one HO HA.o ⟨#[41]⟩ N _ aX w7 D.o bd.o hN nm).mono ?_;rintro e w8 ⟨A8,n8,c8,rfl,m8,aY,h8,k8⟩;have aJ:=h_ (D.o.keepI k8 aI.o);have aK:=h_ m8;have ad:=h_ h8;have aD:=h_ (aC.o.trans k8);clear h8 k8 m8 aI D aC;have K:=h_ (Yu_ (fun x=>R.U x\/A.map (·.block)=some x) hi d _ aY 5 noT A8 n8 c8 _ w7.heap.size w8 ad.o aK.o T.o);rw[Z.o]at K;dsimp only at K;go_wp2_with fail
    refine K.o.mono ?_;rintro e w9 ⟨rfl,aZ,h9,k9⟩;have I:=h_ (ad.o.keepI k9 aJ.o);have ay:=h_ h9;have ah:=h_ (aD.o.trans k9);clear h9 k9 K aJ ad aD aK Z T;have bC:=ah.o.size;have a9:=h_ aF.o.1;go_wp2_with (at_builtin;(refine Qi_ _ rfl (.tmp 28) (.tmp 32) _ rfl w.heap.size 3 i0 (I_ j_ 0) 1 8 underlying83 E.o.1 E.o.2.1 E.o.2.2.1 E.o.2.2.2 rfl dc_ (S_ A ks.length c) ks.length (Qa_ ks) rfl (Mine.alloc I.o _) ⟨w9.heap.size,0,none⟩ 1 1 [I_ j_ kc] rfl rfl (K8_ _ kc _) (K9_ _) mx_ oo so_ ?_);intro v' wA y al X;obtain⟨A7,c7,rfl,h7,m7⟩:=RdI.appended ay.o I.o a9.o bra y al X)
    have bc:=h_ ((ah.o.below bra).grown al (fun g hg=>by rw[Q3_]at hg;exact(Mine.blk I.o hg).1));rw[<-Ke_]at m7;have az:=h_ h7;have bf:=h_ m7;clear y al X h7 m7 ay I ah;go_wp2;go_roundw
    case rel=>exact⟨M,ks++[kc],O,aZ,A7,c7,by rw[aP],bg,a7,a8,a6,by rw[aP];exact bf,az,bc⟩
    case measure=>exact ZG_ hi HI.o az.o (a5.o.weak (i':=1) (j':=0) oo oo)
   ·rw[b,QD_ b]at HS;have m:=U.o;have bl:Q=(ks,st'):=by
     cases M with
     |zero=>exact m.symm
     |succ M=>unfold Y2_ at m;rw[b,in_ dc_]at m;exact m.symm
    subst bl;clear U m b;go_wp2_with fail
    refine HS.o.mono ?_;rintro e w4 ⟨rfl,z,h4,k4⟩;have H:=h_ (HI.o.keepI k4 HM.o);have p:=h_ h4.unres;have G:=h_ (HK.o.trans k4);clear h4 k4 HS HM HI HK;go_wp2_with fail
    refine(Yu_ R.U hi d st' z 10 noT A ks.length c ks w.heap.size w4 p.o H.o aF.o).mono ?_;rintro e w5 ⟨rfl,B,h5,k5⟩;go_wp2;go_ret;exact⟨rfl,B,h5,G.o.trans k5⟩
 ·rw[in_ (by rw[b];decide)];have aj:=h_ b;clear hI hn j V b am h1 L;go_enter func93,ntmps93;go_wp2_with fail
  refine pst (HP.o) ae ?_;intro w1 k n F;go_wp2_with fail
  refine(GF_ R hi d l k 4 dc_ ⟨#[46,46]⟩ w1 n.o).mono ?_;rw[JO_,aj.o];rintro e w2 ⟨rfl,h2⟩;go_wp2;go_ret;exact⟨rfl,k,n.o.next h2,F.o.below h2⟩
theorem QgQ_ {sg:List SgP} (one:RdSt->PR) (N n:Nat) (k:Int) (s:PS) (h1:isM sg (some s) ⟨#[40]⟩=false) (h2:isM sg (some s) ⟨#[46]⟩=true):
  W0_ sg one N (n+1) k (some s)=W0_ sg one N n (KP_ (nmS sg (Qf_ (some s))) ⟨6,nmT sg (Qf_ (some s)),[k],false⟩).1 (KP_ (nmS sg (Qf_ (some s))) ⟨6,nmT sg (Qf_ (some s)),[k],false⟩).2:=by
 rw[W0_,in_ (show ¬(some s).isNone=true by simp),in_ (by rw[h1];decide),ip_ h2];unfold nmS nmT;by_cases a:Kp_ sg (Qf_ (some s)) 0=true
 ·rw[ip_ a,ip_ a,ip_ a,VA_ (Qf_ (some s))]
 ·rw[in_ a,in_ a,in_ a,Z8_,Ve_]
theorem Qd9_ (R:RC) (hi:R.imp=false) (N f:Nat) (hN:R.n < N) (HE:SC R N f) (d:Nat) (st:RdSt) (row:ON) (w:World) (hI:RdI R d st row w) (hn:Need R.n st 2 (f+1)) (hd:d+(f+1)<=100000) (ah:Deep d st):
  Calls prog 181 #[P_ (some ⟨R.T,0,none⟩)] w (QA_ R d row w (I_ j_ (endS R.sg (Qd_ R.sg N f) N d st).1) (endS R.sg (Qd_ R.sg N f) N d st).2):=by
 have aG:=h_ hI;have al:=h_ (Kr.refl R.T row w);have ar:=hn.same (r':=1) oo (Adv.refl st);have HP:=h_ (HE.base R.U d st row w hI ar oo ah);have t:=QB_ (sg:=R.sg) (N:=N) f .base d st;have HA:=h_ (fun st=>QB_ (sg:=R.sg) (N:=N) f .value d st);have aV:=hI.ok.len;unfold PosS at HP;unfold QA_;unfold endS;generalize Qd_ R.sg N f .base d st=r at HP t |-
 obtain⟨k0,az⟩:=r;dsimp only at HP t |-
 have HO:Hid (∀s,st=some s->s.at_ < R.n->QeU_ R 93 d (s.at_+1) (Qd_ R.sg N f .value d)):=(show ∀s,_->_->_ from fun s e aP=>HE.one (d:=d) oo (by rw[<-e];exact hn) aP (ah s e));have O:=h_ t;obtain⟨Q,hQ⟩:=ex_ (W0_ R.sg (Qd_ R.sg N f .value d) N N k0 az);rw[hQ];have x:=h_ hQ;generalize Qd_ R.sg N f .value d=one at HO HA x;clear hI hn t ar hQ ah;go_enter func181,ntmps181;go_wp2_with fail
 refine pst (HP.o) al ?_;intro w1 ax aj am;go_upto_region 2 with fail
 go_loopw [3] (fun v wr=>∃(M:Nat) (k:Int) (st':RdSt) (row':ON),v=I_ j_ k/\Hid (W0_ R.sg one N M k st'=Q)/\Hid (Adv 1 1 st st')/\Hid (Enough R.n M st')/\Hid (RdI R d st' row' wr)/\Hid (Kr R.T row w row' wr)) (fun _ wr=>Jn_ R wr)
 case atStart=>exact⟨N,k0,az,ax,rfl,x,O,(show Enough _ _ _ from QP_ hN _),aj,am⟩
 case round=>
  clear x O aG aj al am HP;obtain⟨M,k,st',row',rfl,x,X,ab,P,HK⟩:=hrel
  cases st' with
  |none=>
   obtain⟨a,b,AN,cN,l,hc,hb,G⟩:=P.o;obtain⟨c0,c1,c2,c3,c4,cf,cz⟩:=hc.cs hi;obtain rfl:b=true:=hb;have o:=x.o;rw[Ve_]at o;subst o;clear hc c0 c1 c3 c4 G x;go_wp2;go_ret;exact⟨rfl,row',P.o,HK.o⟩
  |some j=>
   obtain⟨s,es,ha,aR⟩:=X.o j rfl;obtain⟨M,rfl⟩:∃M',M=M'+1:=⟨M - 1,by
    have h1:=ab.o j rfl;have I:=(P.o.le rfl).1;omega⟩
   have aU:=(P.o.le rfl).1;have aK:=h_ (HO.o s es oo);have aJ:Hid (LoB (s.at_+1) (some j)):=(show LoB _ _ from fun t' e=>by obtain rfl:=oi_ e;omega);obtain⟨a,b,AN,cN,l,hc,hb,G⟩:=P.o;obtain⟨c0,c1,c2,c3,c4,cf,cz⟩:=hc.cs hi;obtain⟨rfl,_,_⟩:=hb;have m:=h_ (X2_ R.U hi d (some j) row' ⟨#[40]⟩ wr P.o);clear hc c0 c1 c3 c4 G es ha aR;rcases bft (isM R.sg (some j) ⟨#[40]⟩)with y|y
   ·rw[y,Qy_ y]at m;have o:=x.o;rw[W0_,in_ (show ¬(some j).isNone=true by simp),ip_ y]at o;have g:=VB_ (sg:=R.sg) HA.o N k (some j);have ag:=vB_ (sg:=R.sg) one N k (some j);rw[Zr_ y]at ag;have aa:=h_ ag;generalize Yg_ R.sg one N k (some j)=r3 at o g aa;obtain⟨kc,q⟩:=r3;dsimp only at o g;have ae:=h_ o;have z:=h_ g;have Z:Hid (Enough R.n M q):=ab.o.adv (i:=0) g;have Y:Hid (Adv 1 1 st q):=(X.o.trans g).weak oo oo;have aI:Hid (LoB (s.at_+1) (Qf_ (some j))):=aJ.o.adv (Qh_ _);clear o y g ag x;go_wp2_with fail
    refine m.o.mono ?_;rintro e w2 ⟨rfl,row2,I,T⟩;have C:=h_ I;have E:=h_ (HK.o.trans T);have an:=h_ I.lo;clear I T m c2 cf cz;go_wp2_with fail
    refine(QeM_ R.U hi d (s.at_+1) one aK HA.o ⟨#[41]⟩ N _ row2 w2 C.o aI.o hN k).mono ?_;rintro e w3 ⟨A3,n3,c3,rfl,m3,p,S,V⟩;have aL:=h_ m3;have D:=h_ S;have F:=h_ (E.o.trans V);clear S V m3;have K:=h_ (Yu_ R.U hi d _ p 5 noT A3 n3 c3 _ w2.heap.size w3 D.o aL.o an.o);rw[aa.o]at K;dsimp only at K;go_wp2_with fail
    refine K.o.mono ?_;rintro e w4 ⟨rfl,H,h4,k4⟩;have J:=h_ h4;have ac:=h_ (F.o.trans k4);clear h4 k4 K aa;go_wp2;go_roundw
    case rel=>exact⟨M,kc,q,H,rfl,ae,Y,Z,J,ac⟩
    case measure=>exact ZG_ (U:=R.U) (U':=R.U) hi P.o J.o (z.o.weak (i':=1) (j':=0) oo oo)
   ·rw[y,QD_ y]at m;rcases bft (isM R.sg (some j) ⟨#[46]⟩)with L|L
    ·have HS:=h_ (fun(row:ON) (W:World) h=>X2_ R.U hi d (some j) row ⟨#[46]⟩ W h);rw[L,Qy_ L]at HS;have o:=x.o;rw[QgQ_ one N M k j y L]at o;have g:=((Qh_ (some j)).trans (Jy_ (sg:=R.sg) (Qf_ (some j)))).trans (Kg_ (nmS R.sg (Qf_ (some j))) ⟨6,nmT R.sg (Qf_ (some j)),[k],false⟩);have ad:=h_ (fun(row:ON) (B:Nat) (W:World) (A:OA) (n c:Nat) h hm hB=>Yu_ R.U hi d (nmS R.sg (Qf_ (some j))) row 6 (nmT R.sg (Qf_ (some j))) A n c [k] B W h hm hB);generalize KP_ (nmS R.sg (Qf_ (some j))) ⟨6,nmT R.sg (Qf_ (some j)),[k],false⟩=r3 at o g ad;obtain⟨kc,q⟩:=r3;dsimp only at o g ad;have ae:=h_ o;have z:=h_ g;have Z:Hid (Enough R.n M q):=ab.o.adv (i:=1) g;have Y:Hid (Adv 1 1 st q):=(X.o.trans g).weak oo oo;clear o y L g x;go_wp2_with fail
     refine m.o.mono ?_;rintro e w2 ⟨rfl,row2,I,T⟩;have C:=h_ I;have E:=h_ (HK.o.trans T);clear I T m c2 cf cz;go_wp2_with fail
     refine(HS.o _ _ C.o).mono ?_;rintro e w3 ⟨rfl,p,S,V⟩;have D:=h_ S;have F:=h_ (E.o.trans V);clear S V HS;go_wp2_with fail
     refine(YU_ R.U hi d (Qf_ (some j)) p w3 D.o).mono ?_;rintro e w4 ⟨rfl,H,h4,k4⟩;have J:=h_ h4;have ac:=h_ (F.o.trans k4);have ao:=h_ h4.lo;clear h4 k4;go_wp2_with fail
     refine pst (ad.o H w4.heap.size (w4.alloc (C_ #[I_ j_ k] 3)) (some ⟨w4.heap.size,0,none⟩) 1 1 (J.o.alloc _) (GW_ w4 k) ao.o) ac ?_;intro w5 ay ak aH;go_wp2;go_roundw
     case rel=>exact⟨M,kc,q,ay,rfl,ae,Y,Z,ak,aH⟩
     case measure=>exact ZG_ (U:=R.U) (U':=R.U) hi P.o ak.o (z.o.weak (i':=1) (j':=0) oo oo)
    ·have HS:=h_ (fun(row:ON) (W:World) h=>X2_ R.U hi d (some j) row ⟨#[46]⟩ W h);rw[L,QD_ L]at HS;have o:=x.o;rw[W0_,in_ (show ¬(some j).isNone=true by simp),in_ (by rw[y];decide),in_ (by rw[L];decide)]at o;subst o;clear y L x;go_wp2_with fail
     refine m.o.mono ?_;rintro e w2 ⟨rfl,row2,I,T⟩;have C:=h_ I;have E:=h_ (HK.o.trans T);clear I T m c2 cf cz;go_wp2_with fail
     refine(HS.o _ _ C.o).mono ?_;rintro e w3 ⟨rfl,p,S,V⟩;have D:=h_ S;have F:=h_ (E.o.trans V);clear S V HS;go_wp2;go_ret;exact⟨rfl,p,D.o,F.o⟩
theorem Qgm_ {sg:List SgP} {s t:PS} (h:t.at_=s.at_) (m:BA):isM sg (some t) m=isM sg (some s) m:=by unfold isM Qx_;simp only[h]
theorem QfA_ {sg:List SgP} {s t:PS} (h:t.at_=s.at_) (l:List BA):Zz_ sg (some t) l=Zz_ sg (some s) l:=by
 induction l with
 |nil=>rfl
 |cons m l ih=>unfold Zz_;rw[Qgm_ h,ih]
theorem v0_ {sg:List SgP} {s t:PS} (h:t.at_=s.at_) (l:Nat):KY_ sg (some t) l=KY_ sg (some s) l:=QfA_ h _
theorem QgK_ {a b:BA} (h:a.toList=b.toList):a=b:=by
 rw[ByteArray.toList_eq,ByteArray.toList_eq]at h;obtain⟨⟨a⟩⟩:=a;obtain⟨⟨b⟩⟩:=b;simp at h;subst h
 rfl
theorem vR_ {sg:List SgP} {st:RdSt} {m:BA} (h:isM sg st m=true):(Qx_ sg st 0).2.1.toList=m.toList:=by
 unfold isM at h;rw[Bool.and_eq_true]at h;exact eq_of_beq h.2
theorem vQ_ {sg:List SgP} {st:RdSt} {m m':BA} (h:isM sg st m=true) (h':isM sg st m'=true):m=m':=QgK_ ((vR_ h).symm.trans (vR_ h'))
theorem QfB_ {sg:List SgP} {st:RdSt} {m:BA} (h:isM sg st m=true):∀l:List BA,m∈l->Zz_ sg st l=m:=by
 intro l
 induction l with
 |nil=>intro a;cases a
 |cons x l ih=>
  intro a;unfold Zz_;by_cases b:isM sg st x=true
  ·rw[ip_ b];exact vQ_ b h
  ·rw[in_ b];rcases List.mem_cons.1 a with rfl|a
   ·exact absurd h b
   ·exact ih a
theorem xe_ {sg:List SgP} {st:RdSt}:∀l:List BA,((Zz_ sg st l).toList==[])=false->Zz_ sg st l∈l:=by
 intro l
 induction l with
 |nil=>intro h;exact absurd X8_ (by rw[show(noT.toList==[])=false from h];decide)
 |cons x l ih=>
  intro h;unfold Zz_ at h |-
  by_cases hx:isM sg st x=true
  ·rw[ip_ hx];exact List.mem_cons_self
  ·rw[in_ hx]at h |-; exact List.mem_cons_of_mem _ (ih h)
def ChR (sg:List SgP) (one:RdSt->PR) (l N n:Nat) (Q:PR) (tx:BA) (ks:LI) (st:RdSt):Prop:=
 (tx=noT/\∃M k,ks=[k]/\Zw_ sg one l N M k st=Q/\Enough n M st)\/
 (tx∈Zg_ l/\2<=ks.length/\∃a M2,Enough n a st/\Enough n M2 st/\Zw_ sg one l N M2 (KP_ (GD_ sg one tx a ks st).2 ⟨7,tx,(GD_ sg one tx a ks st).1,false⟩).1 (KP_ (GD_ sg one tx a ks st).2 ⟨7,tx,(GD_ sg one tx a ks st).1,false⟩).2=Q)
section
variable {sg:List SgP} {one:RdSt->PR} {l N n:Nat} {Q:PR} {tx:BA} {ks:LI} {st:RdSt} {s:PS}
theorem Qak_ (h:isM sg st tx=false) (M:Nat) (ks:LI):GD_ sg one tx M ks st=(ks,st):=by
 cases M with
 |zero=>rfl
 |succ M=>unfold GD_;rw[h,in_ dc_]
theorem zl_ (h:KY_ sg st l=noT) (M:Nat) (k:Int):Zw_ sg one l N M k st=(k,st):=by
 cases M with
 |zero=>rfl
 |succ M=>unfold Zw_;rw[h,ip_ X8_]
theorem v5_ (h:noT∈Zg_ l):False:=absurd X8_ (by rw[qD_ l noT h];decide)
theorem QcD_ (b:KY_ sg st l=noT) (h:ChR sg one l N n Q tx ks st):(∃k,ks=[k]/\Q=(k,st))\/(2<=ks.length/\Q=KP_ st ⟨7,tx,ks,false⟩):=by
 rcases h with⟨_,M,k,rfl,a,_⟩|⟨hx,hl,M1,M2,_,_,a⟩
 ·left;rw[zl_ b]at a;exact⟨k,rfl,a.symm⟩
 ·right;have hi:isM sg st tx=false:=by
   rcases bft (isM sg st tx)with e|e
   ·have:=QfB_ e (Zg_ l) hx;exact absurd (this.symm.trans b ▸ hx) (fun h=>v5_ h)
   ·exact e
  rw[Qak_ hi]at a;refine⟨hl,?_⟩
  cases st with
  |none=>rw[Z8_,ZX_]at a;rw[Z8_];exact a.symm
  |some s=>
   rcases hA:KP_ (some s) ⟨7,tx,ks,false⟩with⟨k,_|t⟩
   ·rw[hA,ZX_]at a;exact a.symm
   ·rw[hA,zl_ (by rw[v0_ (zk_ rfl (by rw[hA]))];exact b)]at a;exact a.symm
theorem Qd6_ (a:isM sg (some s) tx=true) (M:Nat) (ks:LI):GD_ sg one tx (M+1) ks (some s)=GD_ sg one tx M (ks++[(one (Qf_ (some s))).1]) (one (Qf_ (some s))).2:=by
 rw[GD_,ip_ a]
theorem Gm_ {M:Nat} (h:Enough n M (some s)) (hs:s.at_<=n):∃M',M=M'+1:=⟨M - 1,by have:=h s rfl;omega⟩
theorem Qe9_ (hN:n < N) (h1:∀st,Adv 1 1 st (one st).2) (hs:s.at_<=n) (c:((KY_ sg (some s) l).toList==[])=false) (h:ChR sg one l N n Q tx ks (some s)) (j:tx=noT\/tx=KY_ sg (some s) l):
  ChR sg one l N n Q (KY_ sg (some s) l) (ks++[(one (Qf_ (some s))).1]) (one (Qf_ (some s))).2:=by
 have i:KY_ sg (some s) l∈Zg_ l:=xe_ _ c;have b:=qC_ c;have a:Adv (0+1) 0 (some s) (one (Qf_ (some s))).2:=((Qh_ (some s)).trans (h1 _)).weak oo oo;right;rcases h with⟨_,M,k,rfl,e,he⟩|⟨hx,hl,M1,M2,d,g,e⟩
 ·obtain⟨M,rfl⟩:=Gm_ he hs;obtain⟨f,rfl⟩:∃f,N=f+1:=⟨N - 1,oo⟩;rw[Zw_,in_ (by rw[c];decide),Qd6_ b]at e;exact⟨i,by simp,f,M,(QP_ hN (some s)).adv a,he.adv a,e⟩
 ·rcases j with rfl|j
  ·exact(v5_ hx).elim
  ·rw[<-j]at b |-
   obtain⟨M1,rfl⟩:=Gm_ d hs;rw[Qd6_ b]at e;exact⟨hx,by rw[lA];omega,M1,M2,d.adv a,g.mono a,e⟩
theorem QgN_ (hN:n < N) (h1:∀st,Adv 1 1 st (one st).2) (h0:one none=(0,none)) (hs:s.at_<=n) (b:((KY_ sg (some s) l).toList==[])=false) (h:ChR sg one l N n Q tx ks (some s)) (ht:tx≠noT) (p:tx≠KY_ sg (some s) l):
  ChR sg one l N n Q (KY_ sg (some s) l) ([(KP_ (Qf_ (some s)) ⟨7,tx,ks,false⟩).1]++[(one (KP_ (Qf_ (some s)) ⟨7,tx,ks,false⟩).2).1]) (one (KP_ (Qf_ (some s)) ⟨7,tx,ks,false⟩).2).2:=by
 have i:KY_ sg (some s) l∈Zg_ l:=xe_ _ b;have d:=qC_ b;right;rcases h with⟨e,_⟩|⟨hx,hl,M1,M2,q,g,c⟩
 ·exact absurd e ht
 ·have hi:isM sg (some s) tx=false:=by
   rcases bft (isM sg (some s) tx)with e|e
   ·exact absurd (vQ_ e d) p
   ·exact e
  rw[Qak_ hi]at c;rw[VA_];rcases hA:KP_ (some s) ⟨7,tx,ks,false⟩with⟨k,_|t⟩
  ·have hk:k=0:=by
    unfold KP_ at hA;simp only at hA;split at hA
    ·injection hA with e1 e2;exact e1.symm
    ·injection hA with e1 e2;cases e2
   rw[hA,ZX_]at c;dsimp only;rw[zY_,h0];refine⟨i,by simp,0,0,(fun t e=>by cases e),(fun t e=>by cases e),?_⟩;rw[Qd4_,Z8_,ZX_,<-c,hk]
  ·have f:t.at_=s.at_:=zk_ (st:=some s) (x:=⟨7,tx,ks,false⟩) rfl (by rw[hA]);obtain⟨M2,rfl⟩:=Gm_ g hs;obtain⟨j,rfl⟩:∃j,N=j+1:=⟨N - 1,oo⟩;have o:KY_ sg (some t) l=KY_ sg (some s) l:=v0_ f l;have m:isM sg (some t) (KY_ sg (some s) l)=true:=(by rw[Qgm_ f];exact d);have a:Adv (0+1) 0 (some s) (one (Qf_ (some t))).2:=by
    have ha:=Kg_ (some s) ⟨7,tx,ks,false⟩;rw[hA]at ha;exact((ha.trans (Qh_ (some t))).trans (h1 _)).weak oo oo
   rw[hA]at c;dsimp only at c |-
   rw[Zw_,o,in_ (by rw[b];decide),Qd6_ m]at c;exact⟨i,by simp,j,M2,(QP_ hN (some s)).adv a,g.adv a,c⟩
end
theorem Qdo_ (l:Nat) (hl:l < 6) (w:World):Calls prog 182 #[I_ j_ l] w fun e w'=>∃B,e=R_ (S_ (some ⟨B,0,none⟩) (Zg_ l).length (Zg_ l).length)/\Blk w' B 9 ((Zg_ l).map T_).toArray/\w.heap.size<=B/\Below w.heap.size w w':=by
 rcases (show l=0\/l=1\/l=2\/l=3\/l=4\/l=5 from oo)with rfl|rfl|rfl|rfl|rfl|rfl
 all_goals
  go_enter func182,ntmps182;go_wp2;go_ret;exact⟨w.heap.size,rfl,Blk.new _ _ _,lr_ _,grow_⟩
theorem RC.ty_str (R:RC):R.ty≠9:=by unfold RC.ty;cases R.imp<;>decide
def InR (sg:List SgP) (ms:List BA) (a:BA) (s:PS) (j:Nat) (mm:BA) (st2:RdSt):Prop:=
 ((mm.toList==[])=true/\st2=some s/\Zz_ sg (some s) (ms.drop j)=a)\/(mm=a/\(a.toList==[])=false/\st2=Qf_ (some s))
theorem QdB_ (l:Nat):(Zg_ l).length<=2:=by
 unfold Zg_
 repeat' split
 all_goals simp
theorem Qhs_ {m:BA} (h:(m.toList==[])=true):m=noT:=QgK_ ((eq_of_beq h).trans (eq_of_beq X8_).symm)
theorem xr_ {w:World} {B:Nat} {A:OA} {c:Nat} {k:Int} (h:Mine w B 3 1 A 1 c (Qa_ [k])):∃g,A=some ⟨g,0,none⟩/\w.cell? ⟨g,0,none⟩=some (I_ j_ k)/\g < w.heap.size:=by
 rcases h.own with⟨_,h0,_⟩|⟨g,rfl,hB,hn,hc,rest,hb,hs⟩
 ·cases h0
 ·exact⟨g,rfl,hb.cell 0,hb.lt⟩
theorem jT_ (R:RC) (hi:R.imp=false) (N f:Nat) (hN:R.n < N) (HE:SC R N f) (l d:Nat) (hl:l<=6) (st:RdSt) (row:ON) (w:World) (hI:RdI R d st row w) (hn:Need R.n st (9 - l) (f+1)) (hd:d+(f+1)<=100000) (aB:Deep d st):
  Calls prog 128 #[P_ (some ⟨R.T,0,none⟩),I_ j_ l] w (QA_ R d row w (I_ j_ (Xc_ R.sg (Qd_ R.sg N f) N l d st).1) (Xc_ R.sg (Qd_ R.sg N f) N l d st).2):=by
 have bM:=h_ hI;have aS:=h_ (Kr.refl R.T row w);have ah:=h_ hI.lo;unfold QA_;unfold Xc_;by_cases h6:l=6
 ·rw[ip_ h6];have HP:=h_ (HE.end_ R.U d st row w hI (hn.same (r':=2) oo (Adv.refl st)) oo aB);unfold PosS at HP;clear hI hn;subst h6;go_enter func128,ntmps128;go_wp2_with fail
  refine pst (HP.o) aS ?_;intro w1 ak aq ag;go_wp2;go_ret;exact⟨rfl,ak,aq.o,ag.o⟩
 ·rw[in_ h6];have bZ:l < 6:=oo;have HP:=HE.chain R.U (l+1) d st row w hI oo (hn.same (r':=9 - (l+1)) oo (Adv.refl st)) oo aB;rw[show((l+1:Nat):Int)=(l:Int)+1 from oo]at HP;have H:=QB_ (sg:=R.sg) (N:=N) f (.chain (l+1)) d st;have HA:=h_ (fun st=>QB_ (sg:=R.sg) (N:=N) f (.chain (l+1)) d st);have HZ:=h_ (Xy_ (sg:=R.sg) (N:=N) f (.chain (l+1)) d);have cl:=hI.ok.len;unfold PosS at HP;have HP:=h_ HP;have HO:Hid (∀(U:Nat->Prop) (st':RdSt) (row:ON) (w:World),RdI { R with U:=U } d st' row w->Adv 1 0 st st'->(∀s,st=some s->s.at_ < R.n)->(st=none->st'=none)->Calls prog 128 #[P_ (some ⟨R.T,0,none⟩),I_ j_ ((l:Int)+1)] w (fun e w'=>e=R_ (I_ j_ (Qd_ R.sg N f (.chain (l+1)) d st').1)/\∃row',RdI { R with U:=U } d (Qd_ R.sg N f (.chain (l+1)) d st').2 row' w'/\Kr R.T row w row' w')):=(show ∀U st' row w,_->_->_->_->_ from fun U st' row w h ha Z b5=>by
   have:=HE.chain U (l+1) d st' row w h oo (by
    cases st with
    |none=>rw[b5 rfl];exact hn.same oo (Adv.refl none)
    |some s=>exact hn.next (Z s rfl) (ha.weak (i':=0+1) (j':=0) oo oo) oo) oo (aB.adv ha)
   rwa[show((l+1:Nat):Int)=(l:Int)+1 from oo]at this)
  have cr:decide ((5:Int) < (l:Int))=false:=df_ oo;have ck:¬(5:Int) < (l:Int):=oo;have cB:IntKind.i64.wrap ((l:Int)+1)=(l:Int)+1:=IntWalk.i64_in _ oo;generalize Qd_ R.sg N f (.chain (l+1)) d=one at HP H HA HO HZ |-
  generalize hr:one st=r at HP H |-
  obtain⟨k0,ao⟩:=r;dsimp only at HP H |-
  have aH:=h_ H;obtain⟨Q,hQ⟩:=ex_ (Zw_ R.sg one l N N k0 ao);rw[hQ];have HQ:Hid (ChR R.sg one l N R.n Q noT [k0] ao):=(show ChR R.sg one l N R.n Q noT [k0] ao from .inl ⟨rfl,N,k0,rfl,hQ,QP_ hN _⟩);have aJ:Hid (KidB [k0] ao):=(show KidB _ _ from⟨by simp,fun t' e=>by obtain⟨s,_,_,h2⟩:=H t' e;simp;omega⟩);obtain⟨i0,bz,bB,aE,bC⟩:=info_parts QY_;have K:=h_ (ai_ bz (ai_ bB (ai_ aE bC)));have HV:=h_ (fun(W:World)=>Qdo_ l bZ W);have bo:=h_ (qD_ l);obtain⟨G,a4⟩:=ex_ (Zg_ l);have bP:=h_ a4;have bn:=h_ (QdB_ l);rw[a4]at HV bo bn;clear bz bB aE bC hI hn H hQ hr a4 aB;go_enter func128,ntmps128;go_wp2_with fail
  refine pst (HP.o) aS ?_;intro w1 ak aq ag;have aE:=ag.o.size;go_wp2_with fail
  refine(HV.o _).mono ?_;rintro e w2 ⟨B,rfl,KB,bU,g2⟩;have bk:=h_ ((GW_ w1 k0).more (B':=w.heap.size) oo);have bh:=h_ ((aq.o.res_new (A:=some ⟨w1.heap.size,0,none⟩) (br.alloc (lr_ _) (C_ #[I_ j_ k0] 3)) (fun g hg=>by simp at hg;subst hg;simp)).next g2);have bl:=h_ (bk.o.next g2);have bj:=h_ ((ag.o.below (br.alloc (lr_ _) (C_ #[I_ j_ k0] 3))).below g2);have bf:=h_ KB;clear bU g2 bk KB;go_upto_region 6 with fail
  go_loopw [5,6] (fun v x wr=>∃(tx:BA) (ks:LI) (st':RdSt) (row':ON) (A:OA) (n c:Nat),v=S_ A n c/\x=T_ tx/\Hid (n=ks.length)/\Hid (ChR R.sg one l N R.n Q tx ks st')/\Hid (Adv 1 1 st st')/\Hid (KidB ks st')/\Hid (Mine wr w.heap.size 3 1 A n c (Qa_ ks))/\Hid (RdI (R.res A) d st' row' wr)/\Hid (Kr R.T row w row' wr)/\Hid (Blk wr B 9 (G.map T_).toArray)) (fun _ _ wr=>Jn_ R wr)
  case atStart=>exact⟨noT,[k0],ao,ak,_,1,1,rfl,rfl,(show 1=1 from rfl),HQ,aH,aJ,bl,bh,bj,bf⟩
  case round=>
   clear HQ aH aJ bM aq bh aS ag bj bl bf HP HV aE;obtain⟨tx,ks,st',row',A,n,c,rfl,rfl,HL,HC,ap,bN,V,y,T,HB⟩:=hrel
   cases st' with
   |none=>
    obtain⟨a,b,AN,cN,l',hc,hb,aj⟩:=y.o;obtain⟨c1,c2,c3,cf,cz⟩:=hc.csu _ hi;obtain rfl:b=true:=hb;clear hc c1 c3 aj;rcases QcD_ (zD_ l) HC.o with⟨kE,rfl,rfl⟩|⟨b0,rfl⟩
    ·have a5:n=1:=HL.o;subst a5;obtain⟨gE,rfl,cE,zE⟩:=xr_ V.o;go_wp2;go_ret;exact⟨rfl,row',y.o.unres,T.o⟩
    ·have b2:((n:Int)==1)=false:=(by rw[bn_];have:=HL.o;omega);have aR:=h_ y.o.unres;go_wp2_with fail
     refine(Yu_ R.U hi d none row' 7 tx A n c ks w.heap.size _ aR.o V.o ah.o).mono ?_;rintro e w9 ⟨rfl,an,h9,k9⟩;go_wp2;go_ret;exact⟨rfl,an,h9,T.o.trans k9⟩
   |some o=>
    obtain⟨s,es,ha,b3⟩:=ap.o o rfl;obtain⟨a,b,AN,cN,l',hc,hb,aj⟩:=y.o;obtain⟨c1,c2,c3,cf,cz⟩:=hc.csu _ hi;obtain⟨rfl,_,_⟩:=hb;have aK:o.at_<=R.n:=(y.o.le rfl).1;have b6:s.at_ < R.n:=oo;have cx:o.nodes.length<=300:=(y.o.le rfl).2;have bp:Hid (∀(U:Nat->Prop) (st2:RdSt) (row:ON) (w:World),RdI { R with U:=U } d st2 row w->Adv 0 0 (some o) st2->Calls prog 128 #[P_ (some ⟨R.T,0,none⟩),I_ j_ ((l:Int)+1)] w (fun e w'=>e=R_ (I_ j_ (one st2).1)/\∃row',RdI { R with U:=U } d (one st2).2 row' w'/\Kr R.T row w row' w')):=(show ∀U st2 row w,_->_->_ from fun U st2 row w h ha=>HO.o U st2 row w h ((ap.o.trans ha).weak oo oo) (fun s2 e2=>by rw[es]at e2;obtain rfl:=oi_ e2;exact b6) (fun e=>by rw[es]at e;cases e));obtain⟨MK,a1⟩:=ex_ (KY_ R.sg (some o) l);have av:=h_ a1;have aI:Hid (InR R.sg G MK o 0 noT (some o)):=(show InR _ _ _ _ _ _ _ from .inl ⟨X8_,rfl,by rw[List.drop_zero,<-bP.o];exact a1⟩);have cv:G.length=G.length:=rfl;clear hc c1 c3 aj ha b3 a1;go_upto_region 9 with fail
    clear c2 cf cz;go_loopw [8,9] (fun m i wi=>∃(j:Nat) (J:BA) (st2:RdSt) (row2:ON),m=T_ J/\i=I_ j_ j/\j<=G.length/\Hid (InR R.sg G MK o j J st2)/\Hid (Mine wi w.heap.size 3 1 A n c (Qa_ ks))/\Hid (RdI (R.res A) d st2 row2 wi)/\Hid (Kr R.T row w row2 wi)/\Hid (Blk wi B 9 (G.map T_).toArray)) (fun _ i _=>G.length - (intOf i).toNat)
    case atStart=>exact⟨0,noT,some o,row',rfl,rfl,lz_ _,aI,V,y,T,HB⟩
    case round=>
     rename_i wo v0 x0 y0;have bi:=y;clear aI V y T HB;obtain⟨j,J,st2,row2,rfl,rfl,hj,HIn,V,y,T,HB⟩:=hrel;rcases Nat.lt_or_ge j G.length with Z|cp
     ·obtain⟨x,hx⟩:∃x,G[j]? =some x:=⟨_,List.getElem?_eq_getElem Z⟩;have cm:(j:Int) < (G.length:Int):=oo;have ct:=bn.o;have cA:IntKind.i64.wrap ((j:Int)+1)=(j:Int)+1:=IntWalk.i64_in _ oo;have kj:=HB.o.cell j;have kz:=HB.o.lt;simp only[List.getElem?_toArray,List.getElem?_map,hx,Option.map_some]at kj;rcases HIn.o with⟨E,rfl,D⟩|⟨rfl,E,rfl⟩
      ·have X:(J.toList != [])=false:=(by rw[bne,E];rfl);have a2:G.drop j=x::G.drop (j+1):=by
        obtain⟨h1,h2⟩:=gs_.1 hx;rw[<-h2];exact List.drop_eq_getElem_cons h1
       rw[a2]at D;unfold Zz_ at D;have HS:=h_ (X2_ _ hi d (some o) row2 x _ y.o);rcases bft (isM R.sg (some o) x)with hM|hM
       ·rw[ip_ hM]at D;subst D;rw[hM,Qy_ hM]at HS;have b9:(x.toList==[])=false:=bo.o x (lm_ hx);have L:Hid (InR R.sg G x o (j+1) x (Qf_ (some o))):=(show InR _ _ _ _ _ _ _ from .inr ⟨rfl,b9,rfl⟩);clear hM a2;go_wp2_with fail
        refine HS.o.mono ?_;rintro e w3 ⟨rfl,al,h3,k3⟩;have aX:=h_ (y.o.keepI k3 V.o);have ad:=h_ (y.o.keep k3 HB.o (Ne.symm R.ty_str) dc_);have aQ:=h_ h3;have aT:=h_ (T.o.trans k3);clear h3 k3 kj kz;have kj:=ad.o.cell j;have kz:=ad.o.lt;simp only[List.getElem?_toArray,List.getElem?_map,hx,Option.map_some]at kj;go_wp2;go_roundw
        case rel=>exact⟨j+1,x,Qf_ (some o),al,rfl,by go_num,Z,L,aX,aQ,aT,ad⟩
        case measure=>exact ms_
       ·rw[in_ (by rw[hM];decide)]at D;rw[hM,QD_ hM]at HS;have L:Hid (InR R.sg G MK o (j+1) J (some o)):=(show InR _ _ _ _ _ _ _ from .inl ⟨E,rfl,D⟩);clear hM a2 D;go_wp2_with fail
        refine HS.o.mono ?_;rintro e w3 ⟨rfl,al,h3,k3⟩;have aX:=h_ (y.o.keepI k3 V.o);have ad:=h_ (y.o.keep k3 HB.o (Ne.symm R.ty_str) dc_);have aQ:=h_ h3;have aT:=h_ (T.o.trans k3);clear h3 k3 kj kz;go_wp2;go_roundw
        case rel=>exact⟨j+1,J,some o,al,rfl,by go_num,Z,L,aX,aQ,aT,ad⟩
        case measure=>exact ms_
      ·have L:Hid (InR R.sg G J o (j+1) J (Qf_ (some o))):=(show InR _ _ _ _ _ _ _ from .inr ⟨rfl,E,rfl⟩);have X:(J.toList != [])=true:=(by rw[bne,E];rfl);clear kj kz;go_wp2;go_roundw
       case rel=>exact⟨j+1,J,Qf_ (some o),row2,rfl,by go_num,Z,L,V,y,T,HB⟩
       case measure=>exact ms_
     ·have bx:¬(j:Int) < (G.length:Int):=oo;have cj:decide ((j:Int) < (G.length:Int))=false:=df_ bx;obtain rfl:j=G.length:=oo;rcases HIn.o with⟨E,rfl,D⟩|⟨rfl,E,rfl⟩
      ·rw[List.drop_length]at D;have X:(J.toList != [])=false:=(by rw[bne,E];rfl);have b4:KY_ R.sg (some o) l=noT:=av.o.trans D.symm;clear HIn D;rcases QcD_ b4 HC.o with⟨kE,rfl,rfl⟩|⟨b0,rfl⟩
       ·have a5:n=1:=HL.o;subst a5;obtain⟨gE,rfl,cE,zE⟩:=xr_ V.o;go_wp2;go_ret;exact⟨rfl,row2,y.o.unres,T.o⟩
       ·have b2:((n:Int)==1)=false:=(by rw[bn_];have:=HL.o;omega);have aR:=h_ y.o.unres;go_wp2_with fail
        refine(Yu_ R.U hi d (some o) row2 7 tx A n c ks w.heap.size _ aR.o V.o ah.o).mono ?_;rintro e w9 ⟨rfl,an,h9,k9⟩;go_wp2;go_ret;exact⟨rfl,an,h9,T.o.trans k9⟩
      ·have X:(J.toList != [])=true:=(by rw[bne,E];rfl);have aC:((KY_ R.sg (some o) l).toList==[])=false:=(by rw[av.o];exact E);have bA:=bN.o.2 o rfl;by_cases p:tx=noT\/tx=KY_ R.sg (some o) l
       ·have q:=Qe9_ hN HA.o aK aC HC.o p;rw[av.o]at q p;have k:=(Qh_ (some o)).trans (HA.o (Qf_ (some o)));have HX:=h_ (fun(row:ON) (W:World) h=>bp.o (fun x=>R.U x\/A.map (·.block)=some x) (Qf_ (some o)) row W h ((Qh_ _).weak oo oo));generalize one (Qf_ (some o))=r3 at q k HX;obtain⟨Y,S⟩:=r3;dsimp only at q k HX;have aP:=h_ q;have aM:Hid (KidB (ks++[Y]) S):=(show KidB _ _ from⟨by rw[lA];simp;omega,fun t e=>by
         obtain⟨ce,e2,_,h3⟩:=k t e;obtain rfl:=oi_ e2;rw[lA];simp;omega⟩)
        have aL:Hid (Adv 1 1 st S):=(ap.o.trans k).weak oo oo;have ac:=h_ k;have bO:Hid (n+1=(ks++[Y]).length):=(show _=_ by rw[lA,HL.o];simp);have cq:n<=300:=by rw[HL.o];omega
        -- the tests of the mark
        have b8:((tx.toList != [])=false/\(tx.toList==[])=true)\/((tx.toList != [])=true/\(tx.toList==[])=false/\(J.toList != tx.toList)=false/\(J.toList==tx.toList)=true):=by
         rcases p with e|e
         ·left;rw[e];exact⟨by rw[bne,X8_];rfl,X8_⟩
         ·right;rw[e];exact⟨X,E,by rw[bne,beq_self_eq_true];rfl,beq_self_eq_true _⟩
        clear q k p aC bA HIn;rcases b8 with⟨t1,t2⟩|⟨t1,t2,t3,t4⟩
        all_goals
         go_wp2_with fail
         refine(HX.o _ _ y.o).mono ?_;rintro e w6 ⟨rfl,am,h6,k6⟩;have z:=h_ (y.o.keepI k6 V.o);have O:=h_ (y.o.keep k6 HB.o (Ne.symm R.ty_str) dc_);have ae:=h_ h6;have P:=h_ (T.o.trans k6);clear h6 k6 HX V y T HB;have ca:=P.o.size;have aN:=h_ ah.o.1;go_wp2_with (at_builtin;(refine Qi_ _ rfl (.tmp 61) (.tmp 66) _ rfl w.heap.size 3 i0 (I_ j_ 0) 1 8 underlying83 K.o.1 K.o.2.1 K.o.2.2.1 K.o.2.2.2 rfl dc_ (S_ A n c) n (Qa_ ks) rfl (Mine.alloc z.o _) ⟨w6.heap.size,0,none⟩ 1 1 [I_ j_ Y] rfl rfl (K8_ _ Y _) (K9_ _) mx_ oo so_ ?_);intro v' w7 F I M;obtain⟨A7,c7,rfl,h7,m7⟩:=RdI.appended ae.o z.o aN.o bra F I M)
         have aV:=h_ ((P.o.below bra).grown I (fun g hg=>by rw[Q3_]at hg;exact(Mine.blk z.o hg).1));have aO:=h_ ((O.o.alloc (C_ #[I_ j_ Y] 3)).grown (Q3_ _ _ _ ▸ I) (fun e=>by obtain⟨bS,a3⟩:=Qw_ (Mine.alloc z.o (C_ #[I_ j_ Y] 3)) e.symm;exact Kj_ (O.o.alloc _) a3 dc_ rfl));rw[<-Ke_]at m7;have af:=h_ h7;have aY:=h_ m7;clear F I M h7 m7 ae z P O;go_wp2;go_roundw
         case rel=>exact⟨J,ks++[Y],S,am,A7,n+1,c7,rfl,rfl,bO,aP,aL,aM,aY,af,aV,aO⟩
         case measure=>exact ZG_ hi bi.o af.o (ac.o.weak (i':=1) (j':=0) oo oo)
       ·have a6:tx≠noT:=fun e=>p (.inl e)
        have aD:tx≠KY_ R.sg (some o) l:=fun e=>p (.inr e)
        have q:=QgN_ hN HA.o HZ.o aK aC HC.o a6 aD;rw[av.o]at q aD;have C:=(Qh_ (some o)).trans (Kg_ (Qf_ (some o)) ⟨7,tx,ks,false⟩);have ax:=h_ (fun(row:ON) (W:World) (A:OA) (n c:Nat) h hm=>Yu_ R.U hi d (Qf_ (some o)) row 7 tx A n c ks w.heap.size W h hm ah.o);generalize KP_ (Qf_ (some o)) ⟨7,tx,ks,false⟩=r2 at q C ax;obtain⟨kp,a8⟩:=r2;dsimp only at q C ax;have k:=C.trans (HA.o a8);have HX:=h_ (fun(U:Nat->Prop) (row:ON) (W:World) h=>bp.o U a8 row W h (C.weak oo oo));generalize one a8=r3 at q k HX;obtain⟨Y,S⟩:=r3;dsimp only at q k HX;have aP:=h_ q;have aM:Hid (KidB ([kp]++[Y]) S):=(show KidB _ _ from⟨by simp,fun t e=>by
         obtain⟨ce,e2,_,h3⟩:=k t e;obtain rfl:=oi_ e2;simp;omega⟩)
        have aL:Hid (Adv 1 1 st S):=(ap.o.trans k).weak oo oo;have ac:=h_ k;have b1:(J.toList==tx.toList)=false:=by
         rw[bn_];exact fun e=>aD (QgK_ e).symm
        have cn:(J.toList != tx.toList)=true:=(by rw[bne,b1];rfl);have b7:(tx.toList==[])=false:=by
         rcases bft (tx.toList==[])with e|e
         ·exact absurd (Qhs_ e) a6
         ·exact e
        have cy:(tx.toList != [])=true:=(by rw[bne,b7];rfl);clear q k C p a6 aD aC bA HIn;go_wp2_with fail
        refine(ax.o _ _ _ _ _ y.o.unres V.o).mono ?_;rintro e w5 ⟨rfl,co,h5,k5⟩;have bg:=h_ (y.o.keep k5 HB.o (Ne.symm R.ty_str) dc_);have aU:=h_ (T.o.trans k5);have cC:=aU.o.size;have ar:=h_ (h5.res_new (A:=some ⟨w5.heap.size,0,none⟩) (br.alloc (lr_ _) (C_ #[I_ j_ kp] 3)) (fun g hg=>by simp at hg;subst hg;simp));have bm:=h_ ((GW_ w5 kp).more (B':=w.heap.size) oo);clear h5 k5 ax V y T HB;go_wp2_with fail
        refine(HX.o _ _ _ ar.o).mono ?_;rintro e w6 ⟨rfl,am,h6,k6⟩;have z:=h_ (ar.o.keepI k6 bm.o);have O:=h_ (ar.o.keep k6 (bg.o.alloc _) (Ne.symm R.ty_str) dc_);have ae:=h_ h6;have P:=h_ ((aU.o.below bra).trans k6);clear h6 k6 HX bm ar aU bg;have ca:=P.o.size;have aN:=h_ ah.o.1;go_wp2_with (at_builtin;(refine Qi_ _ rfl (.tmp 61) (.tmp 66) _ rfl w.heap.size 3 i0 (I_ j_ 0) 1 8 underlying83 K.o.1 K.o.2.1 K.o.2.2.1 K.o.2.2.2 rfl dc_ (S_ (some ⟨w5.heap.size,0,none⟩) 1 1) 1 (Qa_ [kp]) rfl (Mine.alloc z.o _) ⟨w6.heap.size,0,none⟩ 1 1 [I_ j_ Y] rfl rfl (K8_ _ Y _) (K9_ _) mx_ oo so_ ?_);intro v' w7 F I M;obtain⟨A7,c7,rfl,h7,m7⟩:=RdI.appended ae.o z.o aN.o bra F I M)
        have aV:=h_ ((P.o.below bra).grown I (fun g hg=>by rw[Q3_]at hg;exact(Mine.blk z.o hg).1));have aO:=h_ ((O.o.alloc (C_ #[I_ j_ Y] 3)).grown (Q3_ _ _ _ ▸ I) (fun e=>by obtain⟨bS,a3⟩:=Qw_ (Mine.alloc z.o (C_ #[I_ j_ Y] 3)) e.symm;exact Kj_ (O.o.alloc _) a3 dc_ rfl));rw[<-Ke_]at m7;have af:=h_ h7;have aY:=h_ m7;clear F I M h7 m7 ae z P O;go_wp2;go_roundw
        case rel=>exact⟨J,[kp]++[Y],S,am,A7,2,c7,rfl,rfl,(show 2=2 from rfl),aP,aL,aM,aY,af,aV,aO⟩
        case measure=>exact ZG_ hi bi.o af.o (ac.o.weak (i':=1) (j':=0) oo oo)
theorem Qfp_ {sg:List SgP} {st:RdSt} {m:BA} (h:isM sg st m=true):(Qx_ sg st 0).1=4:=by
 unfold isM at h;rw[Bool.and_eq_true]at h;exact eq_of_beq h.1
theorem QbD_ {sg:List SgP} {st:RdSt} (h:Kp_ sg st 0=true):(Qx_ sg st 0).1=1:=by
 unfold Kp_ at h;rw[Bool.and_eq_true]at h;exact eq_of_beq h.1
theorem qb_ {sg:List SgP} {st:RdSt} (h:x7_ sg st=true):isM sg st ⟨#[40]⟩=true:=by
 unfold x7_ at h;rw[Bool.and_eq_true]at h;exact h.1
theorem Qhe_ {sg:List SgP} {st:RdSt} {k:Int} (h:(Qx_ sg st 0).1=k) (hk:k≠4) (m:BA):isM sg st m=false:=by
 rcases bft (isM sg st m)with e|e
 ·exact absurd (h.symm.trans (Qfp_ e)) hk
 ·exact e
theorem QaG_ {sg:List SgP} {N f:Nat} (hm:XC_ sg) (d:Nat) (st:RdSt):YB_ sg (Qd_ sg N f) N d st=
  if Kp_ sg st 0=true then Qj_ sg st else if ((Qx_ sg st 0).1==2)=true then YG_ sg 2 st else if ((Qx_ sg st 0).1==3)=true then YG_ sg 3 st
  else if isM sg st ⟨#[91]⟩=true then Qdq_ sg (Qd_ sg N f) N d st else if x7_ sg st=true then fnS sg (Qd_ sg N f) N d st else if isM sg st ⟨#[40]⟩=true then parS sg (Qd_ sg N f) d st else (0,none):=by
 unfold YB_;by_cases h1:(Qx_ sg st 0).1=1
 ·rw[ip_ h1];by_cases k:Kp_ sg st 0=true
  ·rw[ip_ k]
  ·have j:∀m,isM sg st m=false:=fun m=>Qhe_ h1 dc_ m
   rw[in_ k,in_ (by rw[h1];decide),in_ (by rw[h1];decide),in_ (by rw[j];decide),in_ (fun e=>by have:=qb_ e;rw[j]at this;exact absurd this dc_),in_ (by rw[j];decide)];unfold Qj_;rw[in_ k]
 ·rw[in_ h1,in_ (fun e=>h1 (QbD_ e))];by_cases h:(Qx_ sg st 0).1=2
  ·rw[ip_ h,ip_ (by rw[h];decide)]
  ·rw[in_ h,in_ (fun e=>h (eq_of_beq e))];by_cases i:(Qx_ sg st 0).1=3
   ·rw[ip_ i,ip_ (by rw[i];decide)]
   ·rw[in_ i,in_ (fun e=>i (eq_of_beq e))];by_cases b:isM sg st ⟨#[91]⟩=true
    ·rw[ip_ b,ip_ b]
    ·rw[in_ b,in_ b];rcases bft (x7_ sg st)with g|g
     ·rw[ip_ g,ip_ (qb_ g)];rcases bft (fnB sg st)with c|c
      ·rw[ip_ c]
      ·rw[in_ (by rw[c];decide)];obtain⟨e1,e2⟩:=QaF_ (N:=N) (f:=f) hm d st g c;rw[e1,e2]
     ·rw[in_ (show ¬x7_ sg st=true by rw[g];decide)];by_cases a:isM sg st ⟨#[40]⟩=true
      ·rw[ip_ a,ip_ a];rcases bft (fnB sg st)with c|c
       ·rw[Qe8_ hm st a c]at g;cases g
       ·rw[in_ (by rw[c];decide)]
      ·rw[in_ a,in_ a]
theorem QbQ_ (R:RC) (hi:R.imp=false) (hm:XC_ R.sg) (N f:Nat) (hN:R.n < N) (HE:SC R N f) (d:Nat) (st:RdSt) (row:ON) (w:World) (Z:RdI R d st row w) (hn:Need R.n st 1 (f+1)) (hd:d+(f+1)<=100000) (H:Deep d st):
  Calls prog 228 #[P_ (some ⟨R.T,0,none⟩)] w (QA_ R d row w (I_ j_ (YB_ R.sg (Qd_ R.sg N f) N d st).1) (YB_ R.sg (Qd_ R.sg N f) N d st).2):=by
 have t:=h_ Z;have L:=h_ (Kr.refl R.T row w);unfold QA_
 cases st with
 |none=>
  have hz:YB_ R.sg (Qd_ R.sg N f) N d none=(0,none):=GI_ (N:=N) (fun m d=>Xy_ f m d) .base d;rw[hz];obtain⟨a,b,AN,cN,l,hc,hb,af⟩:=Z;obtain⟨c0,c1,c2,c3,c4,cf,cz⟩:=hc.cs hi;obtain rfl:b=true:=hb;clear hc af c0 c1 c3 c4 hz;go_enter func228,ntmps228;go_wp2;go_ret;exact⟨rfl,row,t.o,L.o⟩
 |some s=>
  obtain⟨a,b,AN,cN,l,hc,hb,af⟩:=id Z;obtain⟨c0,c1,c2,c3,c4,cf,cz⟩:=hc.cs hi;obtain⟨rfl,_,_⟩:=hb;clear hc af c0 c1 c3 c4;have D:=Z.ok.len;have a2:=H s rfl;rw[QaG_ hm];have T1:=h_ (fun(W:World) h=>kU_ R hi d (some s) row W h);rcases bft (Kp_ R.sg (some s) 0)with V|V
  ·-- a name
   rw[ip_ V];rw[V]at T1;have E:=h_ (Jo_ (sg:=R.sg) (some s));generalize Qj_ R.sg (some s)=r at E |-
   obtain⟨k,st2⟩:=r;dsimp only;clear Z hn H V D;go_enter func228,ntmps228;go_wp2_with fail
   refine(T1.o _ t.o).mono ?_;rintro e w1 ⟨rfl,h1⟩;have i:=h_ (t.o.next h1);have x:=h_ (L.o.below h1);clear h1 c2 cf cz;go_wp2_with fail
   refine pst (YU_ R.U hi d (some s) row w1 i.o) x ?_;intro w2 row2 j y;have aS:=h_ j.o.lo;have M:=h_ (Yu_ R.U hi d (nmS R.sg (some s)) row2 1 (nmT R.sg (some s)) _ 0 0 [] w2.heap.size (w2.alloc (C_ #[] 3)) (j.o.next bra) (Y3_ w2) aS.o);rw[E.o]at M;dsimp only at M;go_wp2_with fail
   refine pst (M.o) y ?_;intro w3 ag v z;go_wp2;go_ret;exact⟨rfl,ag,v.o,z.o⟩
  ·rw[in_ (by rw[V];decide)];rw[V]at T1;have T2:=h_ (fun(W:World) h=>Yn_ R hi d (some s) row 2 dc_ dc_ W h);rcases bft ((Qx_ R.sg (some s) 0).1==2)with X|X
   ·rw[ip_ X];rw[X]at T2;have X2:=h_ (fun(W:World) h=>Vy_ R hi d (some s) row 2 dc_ dc_ W h (eq_of_beq X));unfold QA_ at X2;have E:=h_ (Qdj_ (sg:=R.sg) 2 (some s));generalize YG_ R.sg 2 (some s)=r at E |-
    obtain⟨k,st2⟩:=r;generalize (Qx_ R.sg (some s) 0).2.1=tx at X2 E;dsimp only;clear Z hn H V X D;go_enter func228,ntmps228;go_wp2_with fail
    refine(T1.o _ t.o).mono ?_;rintro e w1 ⟨rfl,h1⟩;have i:=h_ (t.o.next h1);have x:=h_ (L.o.below h1);clear h1 c2 cf cz;go_wp2_with fail
    refine(T2.o _ i.o).mono ?_;rintro e w2 ⟨rfl,B⟩;have j:=h_ (i.o.next B);have y:=h_ (x.o.below B);clear B;go_wp2_with fail
    refine pst (X2.o w2 j.o) y ?_;intro w3 ag v z;have aT:=h_ v.o.lo;have M:=h_ (Yu_ R.U hi d (Qf_ (some s)) ag 2 tx _ 0 0 [] w3.heap.size (w3.alloc (C_ #[] 3)) (v.o.next bra) (Y3_ w3) aT.o);rw[E.o]at M;dsimp only at M;go_wp2_with fail
    refine pst (M.o) z ?_;intro w4 p o C;go_wp2;go_ret;exact⟨rfl,p,o.o,C.o⟩
   ·rw[in_ (by rw[X];decide)];rw[X]at T2;have T3:=h_ (fun(W:World) h=>Yn_ R hi d (some s) row 3 dc_ dc_ W h);rcases bft ((Qx_ R.sg (some s) 0).1==3)with g3|g3
    ·rw[ip_ g3];rw[g3]at T3;have X2:=h_ (fun(W:World) h=>Vy_ R hi d (some s) row 3 dc_ dc_ W h (eq_of_beq g3));unfold QA_ at X2;have E:=h_ (Qdj_ (sg:=R.sg) 3 (some s));generalize YG_ R.sg 3 (some s)=r at E |-
     obtain⟨k,st2⟩:=r;generalize (Qx_ R.sg (some s) 0).2.1=tx at X2 E;dsimp only;clear Z hn H V X g3 D;go_enter func228,ntmps228;go_wp2_with fail
     refine(T1.o _ t.o).mono ?_;rintro e w1 ⟨rfl,h1⟩;have i:=h_ (t.o.next h1);have x:=h_ (L.o.below h1);clear h1 c2 cf cz;go_wp2_with fail
     refine(T2.o _ i.o).mono ?_;rintro e w2 ⟨rfl,B⟩;have j:=h_ (i.o.next B);have y:=h_ (x.o.below B);clear B;go_wp2_with fail
     refine(T3.o _ j.o).mono ?_;rintro e w3 ⟨rfl,K⟩;have v:=h_ (j.o.next K);have z:=h_ (y.o.below K);clear K;go_wp2_with fail
     refine pst (X2.o w3 v.o) z ?_;intro w4 p o C;have aa:=h_ o.o.lo;have M:=h_ (Yu_ R.U hi d (Qf_ (some s)) p 3 tx _ 0 0 [] w4.heap.size (w4.alloc (C_ #[] 3)) (o.o.next bra) (Y3_ w4) aa.o);rw[E.o]at M;dsimp only at M;go_wp2_with fail
     refine pst (M.o) C ?_;intro w5 ah J G;go_wp2;go_ret;exact⟨rfl,ah,J.o,G.o⟩
    ·rw[in_ (by rw[g3];decide)];rw[g3]at T3;have T4:=h_ (fun(W:World) h=>X2_ R.U hi d (some s) row ⟨#[91]⟩ W h);rcases bft (isM R.sg (some s) ⟨#[91]⟩)with Y|Y
     ·rw[ip_ Y];rw[Y,Qy_ Y]at T4;have ad:s.at_ < R.n:=by
       obtain⟨s2,e2,B⟩:=Xe_ Y;obtain rfl:=oi_ e2;omega
      have HO:=h_ (HE.one (d:=d) oo hn ad a2);have HA:=h_ (fun st=>QB_ (sg:=R.sg) (N:=N) f .value d st);have bf:Hid (LoB (s.at_+1) (Qf_ (some s))):=(show LoB _ _ from fun t' e=>by obtain rfl:=oi_ e;exact lr_ _);unfold Qdq_;generalize Qd_ R.sg N f .value d=one at HO HA |-
      have HV:=h_ (fun(row:ON) (W:World) h=>QhU_ R.U hi d (s.at_+1) one HO HA.o ⟨#[93]⟩ N (Qf_ (some s)) row W h bf.o hN);generalize QG_ R.sg one ⟨#[93]⟩ N [] (Qf_ (some s))=q at HV |-
      obtain⟨ks,st2⟩:=q;dsimp only at HV |-
      clear Z hn H V X g3 Y D;go_enter func228,ntmps228;go_wp2_with fail
      refine(T1.o _ t.o).mono ?_;rintro e w1 ⟨rfl,h1⟩;have i:=h_ (t.o.next h1);have x:=h_ (L.o.below h1);clear h1 c2 cf cz;go_wp2_with fail
      refine(T2.o _ i.o).mono ?_;rintro e w2 ⟨rfl,B⟩;have j:=h_ (i.o.next B);have y:=h_ (x.o.below B);clear B;go_wp2_with fail
      refine(T3.o _ j.o).mono ?_;rintro e w3 ⟨rfl,K⟩;have v:=h_ (j.o.next K);have z:=h_ (y.o.below K);clear K;go_wp2_with fail
      refine pst (T4.o w3 v.o) z ?_;intro w4 p o C;have aa:=h_ o.o.lo;go_wp2_with fail
      refine(HV.o p w4 o.o).mono ?_;rintro e w5 ⟨A5,n5,c5,rfl,m5,ah,S,k5⟩;have bh:=h_ m5;have J:=h_ S;have G:=h_ (C.o.trans k5);clear S k5 m5;go_wp2_with fail
      refine pst (Yu_ R.U hi d _ ah 4 noT A5 n5 c5 ks w4.heap.size w5 J.o bh.o aa.o) G ?_;intro w6 I F O;go_wp2;go_ret;exact⟨rfl,I,F.o,O.o⟩
     ·rw[in_ (by rw[Y];decide)];rw[Y,QD_ Y]at T4;have T5:=h_ (fun(row:ON) (W:World) h=>Qcs_ R hi d (some s) row W h);rcases bft (x7_ R.sg (some s))with g5|g5
      ·rw[ip_ g5];rw[g5]at T5;have ad:s.at_ < R.n:=by
        obtain⟨s2,e2,B⟩:=Xe_ (qb_ g5);obtain rfl:=oi_ e2;omega
       obtain⟨i0,a3,a4,a5,a7⟩:=info_parts QY_;have an:=h_ (ai_ a3 (ai_ a4 (ai_ a5 a7)));clear a3 a4 a5 a7;have aR:=h_ Z.lo;unfold fnS;dsimp only;have HL:=h_ (fun(row:ON) (W:World) h=>Wn_ R hi d N (some s) row W h hN);have T:=((Qq_ (sg:=R.sg) (some s) ⟨#[40]⟩).trans (Yz_ (sg:=R.sg) (QT_ (sg:=R.sg)) ⟨#[41]⟩ N [] (Qn_ R.sg (some s) ⟨#[40]⟩)).2);generalize QG_ R.sg (Qj_ R.sg) ⟨#[41]⟩ N [] (Qn_ R.sg (some s) ⟨#[40]⟩)=q at HL T |-
       obtain⟨ks,st2⟩:=q;dsimp only at HL T |-
       have P:=(T.trans (Qq_ (sg:=R.sg) _ ⟨#[41]⟩)).trans (Qq_ (sg:=R.sg) _ ⟨#[61,62]⟩);have M:=h_ (fun(U:Nat->Prop) (row:ON) (W:World) h=>HE.pick U d (Qn_ R.sg (Qn_ R.sg st2 ⟨#[41]⟩) ⟨#[61,62]⟩) row W h (hn.next ad (P.weak (i':=1) (j':=0) oo oo) oo) oo (H.adv P));unfold PosS at M;generalize Qd_ R.sg N f .pick d (Qn_ R.sg (Qn_ R.sg st2 ⟨#[41]⟩) ⟨#[61,62]⟩)=r at M |-
       obtain⟨k,bo⟩:=r;dsimp only at M |-
       clear Z hn H V X g3 Y g5 D T P;go_enter func228,ntmps228;go_wp2_with fail
       refine(T1.o _ t.o).mono ?_;rintro e w1 ⟨rfl,h1⟩;have i:=h_ (t.o.next h1);have x:=h_ (L.o.below h1);clear h1 c2 cf cz;go_wp2_with fail
       refine(T2.o _ i.o).mono ?_;rintro e w2 ⟨rfl,B⟩;have j:=h_ (i.o.next B);have y:=h_ (x.o.below B);clear B;go_wp2_with fail
       refine(T3.o _ j.o).mono ?_;rintro e w3 ⟨rfl,K⟩;have v:=h_ (j.o.next K);have z:=h_ (y.o.below K);clear K;go_wp2_with fail
       refine pst (T4.o w3 v.o) z ?_;intro w4 p o C;go_wp2_with fail
       refine(T5.o _ _ o.o).mono ?_;rintro e w5 ⟨rfl,S⟩;have J:=h_ (o.o.next S);have G:=h_ (C.o.below S);clear S;go_wp2_with fail
       refine(HL.o _ _ J.o).mono ?_;rintro e w6 ⟨A,n,c,rfl,rfl,m6,bs,I,h6,k6⟩;have bl:=G.o.size;have aV:=h_ (m6.more (B':=w.heap.size) bl);have F:=h_ h6;have O:=h_ (G.o.trans k6);clear h6 k6 m6 HL;go_wp2_with fail
       refine(Yc_ _ hi d _ I ⟨#[61,62]⟩ w6 F.o).mono ?_;rintro e w7 ⟨rfl,aC,h7,k7⟩;have aX:=h_ (F.o.keepI k7 aV.o);have al:=h_ h7;have aE:=h_ (O.o.trans k7);clear h7 k7 aV;go_wp2_with fail
       refine(M.o _ _ _ al.o).mono ?_;rintro e w8 ⟨rfl,ai,h8,k8⟩;have aG:=h_ (al.o.keepI k8 aX.o);have am:=h_ h8;have ao:=h_ (aE.o.trans k8);clear h8 k8 aX M;have bv:=ao.o.size;have bd:=h_ aR.o.1;go_wp2_with (at_builtin;(refine Qi_ _ rfl (.tmp 50) (.tmp 53) _ rfl w.heap.size 3 i0 (I_ j_ 0) 1 8 underlying83 an.o.1 an.o.2.1 an.o.2.2.1 an.o.2.2.2 rfl dc_ (S_ A ks.length c) ks.length (Qa_ ks) rfl (Mine.alloc aG.o _) ⟨w8.heap.size,0,none⟩ 1 1 [I_ j_ k] rfl rfl (K8_ _ k _) (K9_ _) mx_ oo so_ ?_);intro v' w9 ae aK aB;obtain⟨A7,c7,rfl,h7,m7⟩:=RdI.appended am.o aG.o bd.o bra ae aK aB)
       have aF:=h_ ((ao.o.below bra).grown aK (fun g hg=>by rw[Q3_]at hg;exact(Mine.blk aG.o hg).1));rw[<-Ke_]at m7;have aD:=h_ h7.unres;have bg:=h_ m7;clear ae aK aB h7 m7;go_wp2_with fail
       refine pst (Yu_ R.U hi d bo ai 9 noT A7 (ks.length+1) c7 (ks++[k]) w.heap.size w9 aD.o bg.o aR.o) aF ?_;intro bx aL aP aQ;go_wp2;go_ret;exact⟨rfl,aL,aP.o,aQ.o⟩
      ·rw[in_ (by rw[g5];decide)];rw[g5]at T5;rcases bft (isM R.sg (some s) ⟨#[40]⟩)with g6|g6
       ·rw[ip_ g6];have T6:=h_ (fun(row:ON) (W:World) h=>Yc_ R.U hi d (some s) row ⟨#[40]⟩ W h);rw[Zr_ g6]at T6;have ad:s.at_ < R.n:=by
         obtain⟨s2,e2,B⟩:=Xe_ g6;obtain rfl:=oi_ e2;omega
        unfold parS;dsimp only;have HV:=h_ (fun(row:ON) (W:World) h=>HE.value R.U d (Qf_ (some s)) row W h (hn.next ad (Qh_ (some s)) oo) oo (H.adv (Qh_ _)));unfold PosS at HV;generalize Qd_ R.sg N f .value d (Qf_ (some s))=r at HV |-
        obtain⟨k,st2⟩:=r;dsimp only at HV |-
        clear Z hn H V X g3 Y g5 g6 D;go_enter func228,ntmps228;go_wp2_with fail
        refine(T1.o _ t.o).mono ?_;rintro e w1 ⟨rfl,h1⟩;have i:=h_ (t.o.next h1);have x:=h_ (L.o.below h1);clear h1 c2 cf cz;go_wp2_with fail
        refine(T2.o _ i.o).mono ?_;rintro e w2 ⟨rfl,B⟩;have j:=h_ (i.o.next B);have y:=h_ (x.o.below B);clear B;go_wp2_with fail
        refine(T3.o _ j.o).mono ?_;rintro e w3 ⟨rfl,K⟩;have v:=h_ (j.o.next K);have z:=h_ (y.o.below K);clear K;go_wp2_with fail
        refine pst (T4.o w3 v.o) z ?_;intro w4 p o C;go_wp2_with fail
        refine(T5.o _ _ o.o).mono ?_;rintro e w5 ⟨rfl,S⟩;have J:=h_ (o.o.next S);have G:=h_ (C.o.below S);clear S;go_wp2_with fail
        refine pst (T6.o p w5 J.o) G ?_;intro w6 I F O;obtain⟨a6,b6,bc,bj,l6,ac,aJ,Q⟩:=F.o;obtain⟨x0,x1,x2,x3,x4,xf,xz⟩:=ac.cs hi;obtain⟨rfl,_,_⟩:=aJ;clear ac Q x0 x1 x3 x4;go_wp2_with fail
        refine(HV.o _ _ F.o).mono ?_;rintro e w7 ⟨rfl,aC,h7,k7⟩;have al:=h_ h7;have aE:=h_ (O.o.trans k7);clear h7 k7 x2 xf xz;go_wp2_with fail
        refine pst (Yc_ R.U hi d st2 aC ⟨#[41]⟩ w7 al.o) aE ?_;intro w8 ai am ao;have aU:=h_ am.o.lo;go_wp2_with fail
        refine pst (Yu_ R.U hi d _ ai 11 noT (some ⟨w8.heap.size,0,none⟩) 1 1 [k] w8.heap.size _ (am.o.alloc _) (GW_ w8 k) aU.o) ao ?_;intro w9 a8 aD aF;go_wp2;go_ret;exact⟨rfl,a8,aD.o,aF.o⟩
       ·rw[in_ (by rw[g6];decide)];have T6:=h_ (fun(row:ON) (W:World) h=>Yc_ R.U hi d (some s) row ⟨#[40]⟩ W h);rw[GK_ g6]at T6;dsimp only;clear Z hn H V X g3 Y g5 g6 D;go_enter func228,ntmps228;go_wp2_with fail
        refine(T1.o _ t.o).mono ?_;rintro e w1 ⟨rfl,h1⟩;have i:=h_ (t.o.next h1);have x:=h_ (L.o.below h1);clear h1 c2 cf cz;go_wp2_with fail
        refine(T2.o _ i.o).mono ?_;rintro e w2 ⟨rfl,B⟩;have j:=h_ (i.o.next B);have y:=h_ (x.o.below B);clear B;go_wp2_with fail
        refine(T3.o _ j.o).mono ?_;rintro e w3 ⟨rfl,K⟩;have v:=h_ (j.o.next K);have z:=h_ (y.o.below K);clear K;go_wp2_with fail
        refine pst (T4.o w3 v.o) z ?_;intro w4 p o C;go_wp2_with fail
        refine(T5.o _ _ o.o).mono ?_;rintro e w5 ⟨rfl,S⟩;have J:=h_ (o.o.next S);have G:=h_ (C.o.below S);clear S;go_wp2_with fail
        refine pst (T6.o p w5 J.o) G ?_;intro w6 I F O;obtain⟨a6,b6,bc,bj,l6,ac,aJ,Q⟩:=F.o;obtain⟨x0,x1,x2,x3,x4,xf,xz⟩:=ac.cs hi;obtain rfl:b6=true:=aJ;clear ac Q x0 x1 x3 x4;go_wp2;go_ret;exact⟨rfl,I,F.o,O.o⟩
theorem jw_ (R:RC) (hi:R.imp=false) (d:Nat) (st:RdSt) (row:ON) (w:World) (b:RdI R d st row w):
  Calls prog 69 #[P_ (some ⟨R.T,0,none⟩),I_ j_ 1] w fun e w'=>e=R_ (B_ (Kp_ R.sg st 0))/\∃m,w'=w.drewN m:=by
 unfold Kp_;rcases b.see hi with⟨rfl,c2,hs,cz,cf⟩|⟨s,a,rfl,ha,o,c,c0,c1,c2,hs,cz,cf⟩|⟨s,a,b1,off,x,rfl,ha,p,c,c0,c1,c2,hx,hs,cz,cf,f,n,e0,e1,e2,e3⟩
 ·rw[hs,show((sgZero.1==1)&&!X5_ sgZero.2.1)=false from rfl];clear b;go_enter func69,ntmps69;go_wp2;go_quiet (fail);go_wp2;go_ret;exact⟨rfl,_,rfl⟩
 ·rw[hs,show((sgZero.1==1)&&!X5_ sgZero.2.1)=false from rfl];have j:decide ((a:Int) < (R.n:Int))=false:=by rw[decide_eq_false_iff_not];omega
  have g:¬(a:Int) < R.n:=oo;have i:¬a < R.n:=oo;have k:(R.n:Int)<=a:=oo;clear b hs;go_enter func69,ntmps69;go_wp2;go_quiet (fail);go_wp2;go_ret;exact⟨rfl,_,rfl⟩
 ·rw[hs];obtain⟨kd,xt,xp,xz⟩:=x;dsimp only at e0 e1 e2 e3 |-
  have l:(a:Int) < R.n:=oo;clear b hs hx;rcases bft (kd==1)with h1|h1
  ·obtain rfl:kd=1:=eq_of_beq h1;rw[show((1:Int)==1)=true from h1,Bool.true_and];clear h1;have HK:=h_ (fun W=>Ju_ xt W);generalize X5_ xt=kb at HK |-
   go_enter func69,ntmps69;go_wp2;go_quiet ((go_at_call 91;exact Calls.quiet_of_same ((HK.o _).mono fun _ _ h=>⟨h.1,h.2.symm⟩)));go_wp2;go_ret;exact⟨rfl,_,rfl⟩
  ·rw[h1,Bool.false_and];go_enter func69,ntmps69;go_wp2;go_quiet (fail);go_wp2;go_ret;exact⟨rfl,_,rfl⟩
theorem VO_ (R:RC) (hi:R.imp=false) (d:Nat) (s:PS) (row:ON) (w:World) (b:RdI R d (some s) row w):
  Calls prog 51 #[P_ (some ⟨R.T,0,none⟩)] w fun e w'=>e=R_ (B_ (Qx_ R.sg (some s) 0).2.2.2)/\Below w.heap.size w w':=by
 rcases b.see hi with⟨h,_⟩|⟨s',a,h,ha,n,c,c0,c1,c2,hs,cz,cf⟩|⟨s',a,b1,off,x,h,ha,o,c,c0,c1,c2,hx,hs,cz,cf,f,m,e0,e1,e2,e3⟩
 ·cases h
 ·rw[hs,show sgZero.2.2.2=false from rfl];have j:decide ((a:Int) < (R.n:Int))=false:=by rw[decide_eq_false_iff_not];omega
  have g:¬(a:Int) < R.n:=oo;have i:¬a < R.n:=oo;have k:(R.n:Int)<=a:=oo;clear b hs;go_enter func51,ntmps51;go_wp2;go_quiet (fail);go_wp2;go_ret;exact⟨rfl,grow_⟩
 ·rw[hs];have l:(a:Int) < R.n:=oo;clear b hs hx;go_enter func51,ntmps51;go_wp2;go_quiet (fail);go_wp2;go_ret;exact⟨rfl,grow_⟩
theorem QaY_ (v:Bool):∀(l:List Nd) (k:Nat),k < l.length->(l.flatMap Qv_).set (k * 4+3) (B_ v)=(l.modify k (fun x=>{ x with blank:=v })).flatMap Qv_:=by
 intro l
 induction l with
 |nil=>intro k h;cases h
 |cons x l ih=>
  intro k h
  cases k with
  |zero=>rfl
  |succ k=>
   have e:(k+1) * 4+3=(k * 4+3)+4:=oo;rw[e,List.flatMap_cons,List.modify_succ_cons,List.flatMap_cons,<-ih k (by simpa using h)]
   rfl
theorem QbB_ {α:Type} {f:α->α}:∀{l:List α} {k:Nat} {x:α},x∈l.modify k f->x∈l\/∃y∈l,x=f y:=by
 intro l
 induction l with
 |nil=>intro k x h;simp at h
 |cons a l ih=>
  intro k x h
  cases k with
  |zero=>
   simp at h;rcases h with rfl|h
   ·exact .inr ⟨a,by simp,rfl⟩
   ·exact .inl (by simp[h])
  |succ k=>
   simp at h;rcases h with rfl|h
   ·exact .inl sm_
   ·rcases ih h with h|⟨y,hy,rfl⟩
    ·exact .inl (by simp[h])
    ·exact .inr ⟨y,by simp[hy],rfl⟩
theorem QbA_ (v:Bool):∀(l:List Nd) (k:Nat),(l.modify k (fun x=>{ x with blank:=v })).map Nd.pn=(l.map Nd.pn).modify k (fun x=>⟨x.kind,x.text,x.kids,v⟩):=by
 intro l
 induction l with
 |nil=>intro k;simp
 |cons a l ih=>
  intro k
  cases k with
  |zero=>rfl
  |succ k=>simp only[List.modify_succ_cons,List.map_cons,ih]
theorem RdC.blanked {R:RC} {a d:Nat} {b:Bool} {AN:OA} {cN:Nat} {l:List Nd} {w:World} (h:RdC R a d b AN cN l w) {k:Nat} (hk:k < l.length) (v:Bool):
  ∃g,AN=some ⟨g,0,none⟩/\(∃u,w.cell? ⟨g,k * 4+3,none⟩=some u)/\(∀i,w.frozen? ⟨g,i,none⟩=false)/\g < w.heap.size/\RdC R a d b AN cN (l.modify k (fun x=>{ x with blank:=v })) (w.setCell ⟨g,k * 4+3,none⟩ (B_ v))/\Kr R.T (AN.map (·.block)) w (AN.map (·.block)) (w.setCell ⟨g,k * 4+3,none⟩ (B_ v)):=by
 obtain⟨h1,h2,n,h4,h5,h6,h7⟩:=h;have t:=h2.len;rcases h2.own with⟨_,e,_⟩|⟨g,rfl,hB,hn,hc,rest,f,hs⟩
 ·omega
 ·have r:R.T≠g:=Kj_ h1 f R.ty_node;have m:(l.flatMap Qv_).length=l.length * 4:=Xs_ Qv_ K1_ l;have c:(l.modify k (fun x=>{ x with blank:=v })).length=l.length:=by simp
  have o:=f.set_ (k * 4+3) (B_ v);have p:((l.flatMap Qv_++rest).toArray).setIfInBounds (k * 4+3) (B_ v)=((l.modify k (fun x=>{ x with blank:=v })).flatMap Qv_++rest).toArray:=by
   rw[<-QaY_ v l k hk];simp only[List.setIfInBounds_toArray];rw[List.set_append_left _ _ (by rw[m];omega)]
  rw[p]at o;have j:∃u,w.cell? ⟨g,k * 4+3,none⟩=some u:=by
   rw[f.cell];exact⟨_,by rw[List.getElem?_toArray];exact List.getElem?_eq_getElem (l:=l.flatMap Qv_++rest) (i:=k * 4+3) (by rw[lA,m];omega)⟩
  refine⟨g,rfl,j,f.frozen,f.lt,⟨?_,?_,⟨fun x q=>?_,fun g hg=>by simpa[World.setCell]using n.2 g hg⟩,by rw[c];exact h4,h5,h6.setCell hB _,h7⟩,?_⟩
  ·rw[c];exact h1.far r _
  ·rw[c];exact Mine.mk_own ⟨rest,o,by
    have:=hs;simp only[lA,m,Xs_ Qv_ K1_,c]at this |-
    exact this⟩ (by rw[Xs_ Qv_ K1_,c]) hB hn hc
  ·rcases QbB_ q with q|⟨y,hy,rfl⟩
   ·exact⟨(n.1 x q).1,Qt_ (n.1 x q).2 f dc_ _ _⟩
   ·exact⟨(n.1 y hy).1,Qt_ (n.1 y hy).2 f dc_ _ _⟩
  ·exact⟨by simp[World.setCell],.inl rfl,fun g' s ht hr=>Below.heap_setCell w ⟨g,k * 4+3,none⟩ _ g' (fun e=>hr (by rw[e];rfl))⟩
theorem Ze_ (R:RC) (hi:R.imp=false) (d:Nat) (st:RdSt) (row:ON) (k:Int) (hk:0<=k) (b:Bool) (w:World) (hI:RdI R d st row w):
  Calls prog 53 #[P_ (some ⟨R.T,0,none⟩),I_ j_ k,B_ b] w (QA_ R d row w (U_ #[]) (Zs_ k b st)):=by
 unfold QA_;have f:=h_ hI;obtain⟨a,bb,AN,cN,l,h,j,c⟩:=hI;obtain⟨c0,c1,c2,c3,c4,cf,cz⟩:=h.cs hi;obtain⟨k,rfl⟩:∃k':Nat,k=k':=⟨k.toNat,oo⟩;clear hk
 cases st with
 |none=>
  obtain rfl:bb=true:=j;rw[show Zs_ (k:Int) b none=none from rfl];clear h c c0 c1 c3 c4;go_enter func53,ntmps53;go_wp2;go_end0;exact⟨rfl,row,f.o,Kr.refl _ _ _⟩
 |some s=>
  obtain⟨rfl,ha,e⟩:=j;rcases Nat.lt_or_ge k l.length with n|m
  ·obtain⟨g,rfl,⟨u,hu⟩,hf,hz,hC,hK⟩:=h.blanked n b;have q:(k:Int) < (l.length:Int):=oo;have HC:=h_ hC;have HK:=h_ hK;have HH:Hid (StOk (Zs_ (k:Int) b (some s)) false a (l.modify k (fun x=>{ x with blank:=b }))):=(show StOk _ _ _ _ from⟨rfl,ha,by rw[QbA_,<-e];simp⟩);subst c;clear h hC hK c0 c1 c3 f e;go_enter func53,ntmps53;go_wp2;go_end0;exact⟨rfl,_,⟨a,false,_,_,_,HC.o,HH.o,rfl⟩,HK.o⟩
  ·have p:decide ((k:Int) < (l.length:Int))=false:=df_ oo;have o:¬(k:Int) < (l.length:Int):=oo;have i:Zs_ (k:Int) b (some s)=some s:=by
    unfold Zs_;rw[Option.map_some,it_,List.modify_eq_self (by rw[e,List.length_map];exact m)]
   rw[i];clear h c c0 c1 c3 e i;go_enter func53,ntmps53;go_wp2;go_end0;exact⟨rfl,row,f.o,Kr.refl _ _ _⟩
end Go.Proofs.YtbiijipkgfpgoaaGreatDoor

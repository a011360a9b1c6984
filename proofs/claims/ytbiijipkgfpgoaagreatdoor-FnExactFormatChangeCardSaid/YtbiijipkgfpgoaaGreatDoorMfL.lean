/-
  Put together by program.
-/
import Derived.Test.YtbiijipkgfpgoaaGreatDoorMfK
set_option maxRecDepth 100000
set_option linter.all false
set_option maxHeartbeats 25600000
open Go.Proofs.Tryz
open Go.Value renaming int→I_,slice→S_,bool→B_,pointer→P_
open Go.IntKind renaming i64→j_
open Go.Obj renaming cells→C_
open Go.Ending renaming returned→R_
namespace Go.Proofs.YtbiijipkgfpgoaaGreatDoor
open Go.RowKit
theorem vL_ (R:RC) (hi:R.imp=false) (N f:Nat) (HE:SC R N f) (d:Nat) (st:RdSt) (row:ON) (w:World) (hI:RdI R d st row w) (hn:Need R.n (Qn_ R.sg st ⟨#[40]⟩) 11 f) (hd:d+f<=100000) (a:Deep d st):
  Calls prog 110 #[P_ (some ⟨R.T,0,none⟩)] w (QA_ R d row w (I_ j_ (JJ_ R.sg (Qd_ R.sg N f) d st).1) (JJ_ R.sg (Qd_ R.sg N f) d st).2):=by
 have e:=h_ hI;have l:=h_ (Kr.refl R.T row w);unfold QA_ JJ_;dsimp only;have c:=h_ (fun(row:ON) (W:World) h=>HE.value R.U d (Qn_ R.sg st ⟨#[40]⟩) row W h hn hd (a.adv (Qq_ _ _)));unfold PosS at c;generalize Qd_ R.sg N f .value d (Qn_ R.sg st ⟨#[40]⟩)=r at c |-
 obtain⟨k,st2⟩:=r;dsimp only at c |-
 clear hI hn a;go_enter func110,ntmps110;go_wp2_with fail
 refine pst (KN_ R hi d st row ⟨#[40]⟩ w e.o) l ?_;intro w1 p g m;go_wp2_with fail
 refine pst (c.o _ _ g.o) m ?_;intro w2 row2 i n;go_wp2_with fail
 refine pst (KN_ R hi d st2 row2 ⟨#[41]⟩ w2 i.o) n ?_;intro w3 b j o;go_wp2;go_ret;exact⟨rfl,b,j.o,o.o⟩
theorem YS_ (R:RC) (hi:R.imp=false) (N f:Nat) (HE:SC R N f) (d:Nat) (st:RdSt) (row:ON) (w:World) (O:RdI R d st row w) (hn:Need R.n (Qf_ (nmS R.sg st)) 11 f) (hd:d+f<=100000) (F:Deep d st):
  Calls prog 72 #[P_ (some ⟨R.T,0,none⟩)] w (QA_ R d row w (I_ j_ (Jx_ R.sg (Qd_ R.sg N f) d false st).1) (Jx_ R.sg (Qd_ R.sg N f) d false st).2):=by
 have ao:=h_ O;have K:=h_ (Kr.refl R.T row w);have B:=h_ O.lo;unfold QA_ Jx_;have b:=(F.adv (Jy_ (sg:=R.sg) st)).adv (Qh_ _);have HX:=h_ (YU_ R.U hi d st row w O);generalize nmT R.sg st=tx at HX |-
 generalize nmS R.sg st=o at HX hn b |-
 have HS:=h_ (fun(U:Nat->Prop) (row:ON) (W:World) h=>X2_ U hi d o row ⟨#[61]⟩ W h);rcases bft (isM R.sg o ⟨#[61]⟩)with s|s
 ·rw[ip_ s];rw[s,Qy_ s]at HS;dsimp only;obtain⟨i0,Q,S,t,T⟩:=info_parts QY_;have p:=h_ (ai_ Q (ai_ S (ai_ t T)));have HV:=h_ (fun(U:Nat->Prop) (row:ON) (W:World) h=>HE.value U d (Qf_ o) row W h hn hd b);unfold PosS at HV;generalize Qd_ R.sg N f .value d (Qf_ o)=r at HV |-
  obtain⟨k,st2⟩:=r;dsimp only at HV |-
  clear O hn F b s Q S t T;go_enter func72,ntmps72;go_wp2_with fail
  refine pst (HX.o) K ?_;intro w1 V x i;have t:=i.o.size;have C:=h_ ((Y3_ w1).more (B':=w.heap.size) oo);have a:=h_ (x.o.res_new (A:=some ⟨w1.heap.size,0,none⟩) (br.alloc (lr_ _) (C_ #[] 3)) (fun g P=>by simp at P;subst P;simp));have j:=h_ (i.o.below (br.alloc (lr_ _) (C_ #[] 3)));go_wp2_with fail
  refine(HS.o _ _ _ a.o).mono ?_;rintro e w2 ⟨rfl,row2,L,H⟩;have l:=h_ (a.o.keepI H C.o);have c:=h_ L;have z:=h_ (j.o.trans H);clear L H;go_wp2_with fail
  refine(HV.o _ _ _ c.o).mono ?_;rintro e w3 ⟨rfl,n,M,I⟩;have D:=h_ (c.o.keepI I l.o);have y:=h_ M;have q:=h_ (z.o.trans I);clear M I;have ap:=q.o.size;have ae:=h_ B.o.1;go_wp2_with (at_builtin;(refine Qi_ _ rfl (.tmp 10) (.tmp 13) _ rfl w.heap.size 3 i0 (I_ j_ 0) 1 8 underlying83 p.o.1 p.o.2.1 p.o.2.2.1 p.o.2.2.2 rfl dc_ (S_ (some ⟨w1.heap.size,0,none⟩) 0 0) 0 (Qa_ []) rfl (Mine.alloc D.o _) ⟨w3.heap.size,0,none⟩ 1 1 [I_ j_ k] rfl rfl (K8_ _ k _) (K9_ _) mx_ oo so_ ?_);intro v' w7 m G v;obtain⟨A7,c7,rfl,h7,m7⟩:=RdI.appended y.o D.o ae.o bra m G v)
  have aj:=h_ ((q.o.below bra).grown G (fun g P=>by rw[Q3_]at P;exact(Mine.blk D.o P).1));rw[<-Ke_]at m7;have J:=h_ h7.unres;have E:=h_ m7;clear m G v h7 m7;go_wp2_with fail
  refine(KN_ R hi d st2 n ⟨#[59]⟩ w7 J.o).mono ?_;rintro e w8 ⟨rfl,Y,h8,k8⟩;replace E:=VE_ J k8 E;have ak:=QS_ aj k8;have ag:=h_ h8;clear h8 k8;go_wp2_with fail
  refine pst (Yu_ R.U hi d _ Y 12 tx A7 (0+1) c7 [k] w.heap.size w8 ag.o E.o B.o) ak ?_;intro w9 Z ah al;go_wp2;go_ret;exact⟨rfl,Z,ah.o,al.o⟩
 ·rw[in_ (by rw[s];decide)];rw[s,QD_ s]at HS;clear O hn F b s;go_enter func72,ntmps72;go_wp2_with fail
  refine pst (HX.o) K ?_;intro w1 V x i;have t:=i.o.size;have C:=h_ ((Y3_ w1).more (B':=w.heap.size) oo);have a:=h_ (x.o.next (br.alloc (lr_ _) (C_ #[] 3)));have j:=h_ (i.o.below (br.alloc (lr_ _) (C_ #[] 3)));go_wp2_with fail
  refine(HS.o _ _ _ a.o).mono ?_;rintro e w2 ⟨rfl,row2,L,H⟩;have l:=h_ (a.o.keepI H C.o);have c:=h_ L;have z:=h_ (j.o.trans H);clear L H;go_wp2_with fail
  refine(KN_ R hi d o row2 ⟨#[59]⟩ w2 c.o).mono ?_;rintro e w3 ⟨rfl,n,M,I⟩;replace l:=VE_ c I l;have q:=QS_ z I;have y:=h_ M;clear M I;go_wp2_with fail
  refine pst (Yu_ R.U hi d _ n 12 tx _ 0 0 [] w.heap.size w3 y.o l.o B.o) q ?_;intro w4 X af ai;go_wp2;go_ret;exact⟨rfl,X,af.o,ai.o⟩
theorem QfI_ {R:RC} {d:Nat} {st:RdSt} {row:ON} {w:World} (hi:R.imp=false) (h:RdI R d st row w) (hd:d < 20):
  RdI R (d+1) (KI_ d st) row (w.setCell ⟨R.T,3,none⟩ (I_ j_ ((d:Int)+1)))/\Kr R.T row w row (w.setCell ⟨R.T,3,none⟩ (I_ j_ ((d:Int)+1))):=by
 obtain⟨a,b,AN,cN,l,hc,e,c⟩:=h;unfold KI_;rw[in_ oo];exact RdI.snest1 hi hc e c oo
theorem QdI_ {R:RC} {d:Nat} {st:RdSt} {row:ON} {w:World} (hi:R.imp=false) (h:RdI R d st row w):
  RdI R (d+1) none row ((w.setCell ⟨R.T,3,none⟩ (I_ j_ ((d:Int)+1))).setCell ⟨R.T,2,none⟩ (B_ true))/\Kr R.T row w row ((w.setCell ⟨R.T,3,none⟩ (I_ j_ ((d:Int)+1))).setCell ⟨R.T,2,none⟩ (B_ true)):=by
 obtain⟨a,b,AN,cN,l,hc,g,e⟩:=h;have hF:=RdI.snest1 hi hc g e (u:=(d:Int)+1) (d':=d+1) oo;obtain⟨a',b',j,k,l',f,i,c⟩:=hF.1;have hG:=RdI.sbad1 hi f c;exact⟨hG.1,hF.2.trans hG.2⟩
theorem QdJ_ {sg:List SgP} (d:Nat) (st:RdSt) (m:BA):Qn_ sg (KI_ d st) m=KI_ d (Qn_ sg st m):=by
 unfold KI_;by_cases h:d=20
 ·rw[ip_ h,ip_ h,XB_]
 ·rw[in_ h,in_ h]
theorem Vb_ (st:RdSt) (x:PN):0<=(KP_ st x).1:=by
 unfold KP_;split
 ·exact Int.le_refl _
 ·split
  ·exact Int.le_refl _
  ·exact Int.natCast_nonneg _
section
variable {sg:List SgP} {E:Md->Nat->RdSt->PR} {N:Nat}
theorem jI_ (b:Bool) (st:RdSt):0<=(Xm_ sg b st).1:=Vb_ _ _
theorem QeN_ (d:Nat) (b:Bool) (st:RdSt):0<=(Jx_ sg E d b st).1:=by
 unfold Jx_;split
 ·exact Vb_ _ _
 ·exact Vb_ _ _
theorem QhP_ (d:Nat) (b:Bool) (st:RdSt):0<=(ZJ_ sg E d b st).1:=by
 unfold ZJ_;split
 ·exact jI_ _ _
 ·split
  ·exact QeN_ _ _ _
  ·split
   ·unfold Yp_;split<;>exact Vb_ _ _
   ·split
    ·unfold ifS;dsimp only;split<;>exact Vb_ _ _
    ·split
     ·exact Vb_ _ _
     ·split
      ·exact Vb_ _ _
      ·exact Vb_ _ _
theorem QgS_ (f d:Nat) (b:Bool) (st:RdSt):0<=(Qd_ sg N f (.stmt b) d st).1:=by
 cases f with
 |zero=>exact Int.le_refl _
 |succ f=>exact QhP_ d b st
theorem Qir_ (b:Bool) (st:RdSt):0<=(V6_ sg E N b st).1:=by
 unfold V6_;split
 ·exact jI_ _ _
 ·split
  ·exact QeN_ _ _ _
  ·exact Vb_ _ _
theorem QiJ_ (b:Bool) (st:RdSt):0<=(Y9_ sg E N b st).1:=by
 unfold Y9_;split
 ·exact jI_ _ _
 ·split
  ·exact QeN_ _ _ _
  ·split
   ·exact Vb_ _ _
   ·exact Vb_ _ _
end
theorem jS_ (R:RC) (hi:R.imp=false) (N f:Nat) (hN:R.n < N) (HE:SC R N f) (d:Nat) (st:RdSt) (row:ON) (w:World) (hI:RdI R d st row w) (hn:Need R.n st 13 (f+1)) (hd:d+(f+1)<=100000) (bq:Deep d st):
  Calls prog 76 #[P_ (some ⟨R.T,0,none⟩)] w (QA_ R d row w (I_ j_ (Ye_ R.sg (Qd_ R.sg N f) N d st).1) (Ye_ R.sg (Qd_ R.sg N f) N d st).2):=by
 obtain⟨i0,bx,bA,a7,a8⟩:=info_parts QY_;have bV:=h_ (ai_ bx (ai_ bA (ai_ a7 a8)));clear bx bA a7 a8;have bU:=h_ hI;have bo:=h_ (Kr.refl R.T row w);have a5:=h_ hI.lo;have a3:=h_ hI.lo.1;have bT:=hI.ok.len;have HO:Hid (∀(U:Nat->Prop) (t:PS) (row:ON) (w:World),RdI { R with U:=U } (d+1) (some t) row w->Adv 1 0 st (some t)->Deep (d+1) (some t)->Calls prog 94 #[P_ (some ⟨R.T,0,none⟩)] w (fun e w'=>e=R_ (I_ j_ (Qd_ R.sg N f (.stmt false) (d+1) (some t)).1)/\∃row',RdI { R with U:=U } (d+1) (Qd_ R.sg N f (.stmt false) (d+1) (some t)).2 row' w'/\Kr R.T row w row' w')):=(show ∀U t row w,_->_->_->_ from fun U t row w h ha bL=>HE.step U (d+1) (some t) row w h (by
  obtain⟨s,rfl,h1,_⟩:=ha t rfl;have h2:=(h.le rfl).1;have h3:({ R with U:=U }:RC).n=R.n:=rfl;exact hn.next oo (ha.weak (i':=0+1) (j':=0) oo oo) oo) oo bL)
 have ac:Hid (∀b st,Qd_ R.sg N f (.stmt b) (d+1) st=Xa_ b (Qd_ R.sg N f (.stmt false) (d+1) st)):=(show ∀b st,_ from fun b st=>QaS_ f (d+1) b st);have be:Hid (∀st,0<=(Qd_ R.sg N f (.stmt false) (d+1) st).1):=(show ∀st,_ from fun st=>QgS_ f (d+1) false st);have aK:Hid (∀b st,Adv 1 1 st (Qd_ R.sg N f (.stmt b) (d+1) st).2):=(show ∀b st,_ from fun b st=>QB_ f (.stmt b) (d+1) st);unfold QA_ Ye_;dsimp only;rw[QdJ_];have aV:=(Qq_ (sg:=R.sg) st ⟨#[123]⟩);have aE:=bq.adv aV;have ba:=Xq_ d (Qn_ R.sg st ⟨#[123]⟩);obtain⟨Q,hQ⟩:=ex_ (Zv_ R.sg (fun b=>Qd_ R.sg N f (.stmt b) (d+1)) N [] (KI_ d (Qn_ R.sg st ⟨#[123]⟩)));rw[hQ];have HQ:=h_ hQ;obtain⟨T,hT⟩:=ex_ (Qn_ R.sg Q.2 ⟨#[125]⟩);rw[hT];have HT:=h_ hT;have ab:Hid (Adv 1 0 st (KI_ d (Qn_ R.sg st ⟨#[123]⟩))):=(aV.trans ba).weak oo oo;have aD:Hid (Deep (d+1) (KI_ d (Qn_ R.sg st ⟨#[123]⟩))):=aE.nest;obtain⟨one,aF⟩:=ex_ (fun b=>Qd_ R.sg N f (.stmt b) (d+1));have bm:Hid (∀b st,Adv 1 1 st (one b st).2):=(show ∀b st,_ by rw[<-aF];exact aK.o);have aS:Hid (∀b st,one b st=Xa_ b (Qd_ R.sg N f (.stmt false) (d+1) st)):=(show ∀b st,_ by rw[<-aF];exact ac.o);rw[aF]at HQ;clear aF ac aK;have ac:=aS;have aK:=bm;clear aS bm;generalize Qd_ R.sg N f (.stmt false) (d+1)=bc at HO ac be;have a6:=h_ (KN_ R hi d st row ⟨#[123]⟩ w hI);unfold QA_ at a6;generalize Qn_ R.sg st ⟨#[123]⟩=bB at HQ ab aD a6 aE;have bb:20<=d->KI_ d bB=none:=fun h=>by
  cases bB with
  |none=>exact Gz_ d
  |some s1=>have:=aE s1 rfl;exact ip_ oo
 have bn:=h_ bb;have bX:IntKind.i64.wrap ((d:Int)+1)=(d:Int)+1:=IntWalk.i64_in _ oo;clear hI hn aV hQ hT ba aE bq bb;rcases Nat.lt_or_ge d 20 with bi|bh
 ·have aY:¬(20:Int) < (d:Int)+1:=oo;have bv:decide ((20:Int) < (d:Int)+1)=false:=df_ aY;go_enter func76,ntmps76;go_wp2_with fail
  refine pst (a6.o) bo ?_;intro w1 a2 aO aQ;have a7:=aQ.o.size;obtain⟨a,b,AN,cN,l,hc,hb,z⟩:=id aO.o;obtain⟨c0,c1,c2,c3,c4,cf,cz⟩:=hc.cs hi;have ap:=h_ (QfI_ hi aO.o bi);clear hc hb z c0 c1 c4;go_upto_region 6 with fail
  have n:=h_ ap.o.1;have k:=h_ (aQ.o.trans ap.o.2);clear c2 c3 cf cz ap;generalize hW:w1.setCell ⟨R.T,3,none⟩ (I_ j_ ((d:Int)+1))=W2 at n k |-
  have a0:W2.heap.size=w1.heap.size:=by rw[<-hW];simp[World.setCell]
  clear hW;have a8:=k.o.size;have o:=h_ ((Y3_ W2).more (B':=w.heap.size) oo);have m:=h_ (n.o.res_new (A:=some ⟨W2.heap.size,0,none⟩) (br.alloc (lr_ _) (C_ #[] 3)) (fun g hg=>by simp at hg;subst hg;simp));have p:=h_ (k.o.below (br.alloc (lr_ _) (C_ #[] 3)));rw[a0]at o m;clear a0;go_loopw [3] (fun v wr=>∃(M:Nat) (ks:LI) (st':RdSt) (row':ON) (A:OA) (c:Nat),v=S_ A ks.length c/\Hid (Zv_ R.sg one M ks st'=Q)/\Hid (Adv 1 0 st st')/\Hid (Deep (d+1) st')/\Hid (Enough R.n M st')/\Hid (KidB ks st')/\Hid (Mine wr w.heap.size 3 1 A ks.length c (Qa_ ks))/\Hid (RdI (R.res A) (d+1) st' row' wr)/\Hid (Kr R.T row w row' wr)) (fun _ wr=>Jn_ R wr)
  case atStart=>exact⟨N,[],_,a2,_,0,rfl,HQ,ab,aD,(show Enough _ _ _ from QP_ hN _),⟨by simp,fun s _=>by simp⟩,o,m,p⟩
  case round=>
   clear HQ ab m p o;obtain⟨M,ks,st',row',A,c,rfl,HQ,aL,aM,aN,aR,H,G,HK⟩:=hrel;have aP:=G
   cases st' with
   |none=>
    obtain⟨a,b,AN,cN,l,hc,hb,z⟩:=G.o;obtain⟨c1,c2,c3,cf,cz⟩:=hc.csu _ hi;obtain rfl:b=true:=hb;have y:=HQ.o;rw[Xx_]at y;subst y;have ht:=HT.o;rw[XB_]at ht;subst ht;clear hc z c1 c3 HQ HT;obtain⟨d3,df,dz,P,E⟩:=Jp_ hi G.o;have az:=h_ (G.o.keepI E H.o);have aq:=h_ P.unres;have ay:=h_ (HK.o.trans E);clear P E;go_wp2_with fail
    refine(Yu_ R.U hi d none _ 18 noT A ks.length c ks w.heap.size _ aq.o az.o a5.o).mono ?_;rintro e w9 ⟨rfl,Y,h9,k9⟩;go_wp2;go_ret;exact⟨rfl,Y,h9,ay.o.trans k9⟩
   |some t=>
    obtain⟨M,rfl⟩:∃M',M=M'+1:=⟨M - 1,by
     have h1:=aN.o t rfl;have h2:=(G.o.le rfl).1;have:(R.res A).n=R.n:=rfl;omega⟩
    obtain⟨a,b,AN,cN,l,hc,hb,z⟩:=G.o;obtain⟨c1,c2,c3,cf,cz⟩:=hc.csu _ hi;obtain⟨rfl,_,_⟩:=hb;have D:=h_ (X2_ _ hi (d+1) (some t) row' ⟨#[125]⟩ wr G.o);have y:=HQ.o;unfold Zv_ at y;rw[in_ (show ¬(some t).isNone=true by simp)]at y;clear hc z c1 c3 HQ;rcases bft (isM R.sg (some t) ⟨#[125]⟩)with Z|Z
    ·rw[ip_ Z]at y;subst y;have ht:=HT.o;rw[show Qn_ R.sg (ks,some t).2 ⟨#[125]⟩=Qf_ (some t)from Zr_ Z]at ht;subst ht;rw[Z,Qy_ Z]at D;clear Z HT;go_wp2_with fail
     refine D.o.mono ?_;rintro e w2 ⟨rfl,row2,h2,S⟩;have q:=h_ (G.o.keepI S H.o);have k:=h_ (HK.o.trans S);replace H:=q;replace HK:=k;replace G:=h_ h2;clear c2 cf cz h2 S q k;obtain⟨d3,df,dz,P,E⟩:=Jp_ hi G.o;have az:=h_ (G.o.keepI E H.o);have aq:=h_ P.unres;have ay:=h_ (HK.o.trans E);clear P E;go_wp2_with fail
     refine(Yu_ R.U hi d (Qf_ (some t)) _ 18 noT A ks.length c ks w.heap.size _ aq.o az.o a5.o).mono ?_;rintro e w9 ⟨rfl,Y,h9,k9⟩;go_wp2;go_ret;exact⟨rfl,Y,h9,ay.o.trans k9⟩
    ·rw[in_ (by rw[Z];decide)]at y;rw[Z,QD_ Z]at D;have HX:=h_ (fun(row:ON) (W:World) h=>VO_ (R.res A) hi (d+1) t row W h);have ak:XI_ R.sg (some t) ks=((Qx_ R.sg (some t) 0).2.2.2&&decide (0 < ks.length)):=rfl;rw[ak]at y;have aZ:(R.res A).sg=R.sg:=rfl;rw[aZ]at HX;generalize Qx_ R.sg (some t) 0=x at HX y ak;obtain⟨xk,xt,xp,xz⟩:=x;dsimp only at HX y ak;clear Z ak aZ;have bz:=aR.o.2 t rfl;have bN:=(G.o.le rfl).2;have bM:=aR.o.1;have j:=aK.o (xz&&decide (0 < ks.length)) (some t);rw[ac.o]at y j;have am:=be.o (some t);have HC:=h_ (fun(row:ON) (W:World) h=>HO.o (fun x=>R.U x\/A.map (·.block)=some x) t row W h aL.o aM.o);generalize bc (some t)=r at y j am HC;obtain⟨kc,I⟩:=r;unfold Xa_ at y j;dsimp only at y j am HC;have af:Hid (KidB (ks++[kc]) (Zs_ kc (xz&&decide (0 < ks.length)) I)):=(show KidB _ _ from⟨by rw[lA];simp;omega,fun t2 e=>by
      obtain⟨bO,e2,_,h3⟩:=j t2 e;obtain rfl:=oi_ e2;rw[lA];simp;omega⟩)
     have ag:Hid (Enough R.n M (Zs_ kc (xz&&decide (0 < ks.length)) I)):=aN.o.adv (i:=0) j;have ae:Hid (Adv 1 0 st (Zs_ kc (xz&&decide (0 < ks.length)) I)):=(aL.o.trans j).weak oo oo;have ah:Hid (Deep ((d+1)) (Zs_ kc (xz&&decide (0 < ks.length)) I)):=aM.o.adv j;have al:(ks++[kc]).length=ks.length+1:=sm_;have ai:=h_ y;have F:=h_ j;clear y j
     cases xz with
     |false=>
      rw[Bool.false_and]at af ag ae ah ai F;go_wp2_with fail
      refine D.o.mono ?_;rintro e w2 ⟨rfl,row2,h2,S⟩;have n:=h_ h2;have q:=h_ (G.o.keepI S H.o);have k:=h_ (HK.o.trans S);clear c2 cf cz h2 S D;go_wp2_with fail
      refine(HX.o _ _ n.o).mono ?_;rintro e w3 ⟨rfl,g3⟩;have m:=h_ (n.o.next g3);have o:=h_ (q.o.next g3);have p:=h_ (k.o.below g3);clear g3 HX n q k;go_wp2_with fail
      refine(HC.o _ _ m.o).mono ?_;rintro e w4 ⟨rfl,V,h4,k4⟩;have L:=h_ (m.o.keepI k4 o.o);have C:=h_ h4;have K:=h_ (p.o.trans k4);clear h4 k4 m o p;have B:=h_ (Ze_ (R.res A) hi (d+1) I V kc am false w4 C.o);unfold QA_ at B;go_wp2_with fail
      refine B.o.mono ?_;rintro e w5 ⟨rfl,X,h5,k5⟩;have H:=h_ (C.o.keepI k5 L.o);have ar:=h_ h5;have av:=h_ (K.o.trans k5);clear h5 k5 C L K B;go_wp2_with (at_builtin;refine KA_ (.tmp 48) (.tmp 50) ar av H a3 rfl rfl rfl rfl oo ?_;intro A6 c6 w6 J ax O)
      replace H:=O;clear O;go_wp2;go_roundw
      case rel=>exact⟨M,ks++[kc],_,X,A6,c6,by rw[al],ai,ae,ah,ag,af,by rw[al];exact H,J,ax⟩
      case measure=>exact ZG_ hi aP.o J.o (F.o.weak (i':=1) (j':=0) oo oo)
     |true=>
      rw[Bool.true_and]at af ag ae ah ai F;go_wp2_with fail
      refine D.o.mono ?_;rintro e w2 ⟨rfl,row2,h2,S⟩;have n:=h_ h2;have q:=h_ (G.o.keepI S H.o);have k:=h_ (HK.o.trans S);clear c2 cf cz h2 S D;go_wp2_with fail
      refine(HX.o _ _ n.o).mono ?_;rintro e w3 ⟨rfl,g3⟩;have m:=h_ (n.o.next g3);have o:=h_ (q.o.next g3);have p:=h_ (k.o.below g3);clear g3 HX n q k;go_wp2_with fail
      refine(HC.o _ _ m.o).mono ?_;rintro e w4 ⟨rfl,V,h4,k4⟩;have L:=h_ (m.o.keepI k4 o.o);have C:=h_ h4;have K:=h_ (p.o.trans k4);clear h4 k4 m o p;have B:=h_ (Ze_ (R.res A) hi (d+1) I V kc am (decide (0 < ks.length)) w4 C.o);unfold QA_ at B;go_wp2_with fail
      refine B.o.mono ?_;rintro e w5 ⟨rfl,X,h5,k5⟩;have H:=h_ (C.o.keepI k5 L.o);have ar:=h_ h5;have av:=h_ (K.o.trans k5);clear h5 k5 C L K B;go_wp2_with (at_builtin;refine KA_ (.tmp 48) (.tmp 50) ar av H a3 rfl rfl rfl rfl oo ?_;intro A6 c6 w6 J ax O)
      replace H:=O;clear O;go_wp2;go_roundw
      case rel=>exact⟨M,ks++[kc],_,X,A6,c6,by rw[al],ai,ae,ah,ag,af,by rw[al];exact H,J,ax⟩
      case measure=>exact ZG_ hi aP.o J.o (F.o.weak (i':=1) (j':=0) oo oo)
 ·have aY:(20:Int) < (d:Int)+1:=oo;have bv:decide ((20:Int) < (d:Int)+1)=true:=dt_ aY;have bK:=bn.o bh;rw[bK]at HQ ab aD;go_enter func76,ntmps76;go_wp2_with fail
  refine pst (a6.o) bo ?_;intro w1 a2 aO aQ;have a7:=aQ.o.size;obtain⟨a,b,AN,cN,l,hc,hb,z⟩:=id aO.o;obtain⟨c0,c1,c2,c3,c4,cf,cz⟩:=hc.cs hi;have ap:=h_ (QdI_ hi aO.o);clear hc hb z c0 c1 c4;go_upto_region 6 with fail
  have n:=h_ ap.o.1;have k:=h_ (aQ.o.trans ap.o.2);clear c2 c3 cf cz ap;generalize hW:(w1.setCell ⟨R.T,3,none⟩ (I_ j_ ((d:Int)+1))).setCell ⟨R.T,2,none⟩ (B_ true)=W2 at n k |-
  have a0:W2.heap.size=w1.heap.size:=by rw[<-hW];simp[World.setCell]
  clear hW;have a8:=k.o.size;have o:=h_ ((Y3_ W2).more (B':=w.heap.size) oo);have m:=h_ (n.o.res_new (A:=some ⟨W2.heap.size,0,none⟩) (br.alloc (lr_ _) (C_ #[] 3)) (fun g hg=>by simp at hg;subst hg;simp));have p:=h_ (k.o.below (br.alloc (lr_ _) (C_ #[] 3)));rw[a0]at o m;clear a0;go_loopw [3] (fun v wr=>∃(M:Nat) (ks:LI) (st':RdSt) (row':ON) (A:OA) (c:Nat),v=S_ A ks.length c/\Hid (Zv_ R.sg one M ks st'=Q)/\Hid (Adv 1 0 st st')/\Hid (Deep (d+1) st')/\Hid (Enough R.n M st')/\Hid (KidB ks st')/\Hid (Mine wr w.heap.size 3 1 A ks.length c (Qa_ ks))/\Hid (RdI (R.res A) (d+1) st' row' wr)/\Hid (Kr R.T row w row' wr)) (fun _ wr=>Jn_ R wr)
  case atStart=>exact⟨N,[],_,a2,_,0,rfl,HQ,ab,aD,(show Enough _ _ _ from QP_ hN _),⟨by simp,fun s _=>by simp⟩,o,m,p⟩
  case round=>
   clear HQ ab m p o;obtain⟨M,ks,st',row',A,c,rfl,HQ,aL,aM,aN,aR,H,G,HK⟩:=hrel;have aP:=G
   cases st' with
   |none=>
    obtain⟨a,b,AN,cN,l,hc,hb,z⟩:=G.o;obtain⟨c1,c2,c3,cf,cz⟩:=hc.csu _ hi;obtain rfl:b=true:=hb;have y:=HQ.o;rw[Xx_]at y;subst y;have ht:=HT.o;rw[XB_]at ht;subst ht;clear hc z c1 c3 HQ HT;obtain⟨d3,df,dz,P,E⟩:=Jp_ hi G.o;have az:=h_ (G.o.keepI E H.o);have aq:=h_ P.unres;have ay:=h_ (HK.o.trans E);clear P E;go_wp2_with fail
    refine(Yu_ R.U hi d none _ 18 noT A ks.length c ks w.heap.size _ aq.o az.o a5.o).mono ?_;rintro e w9 ⟨rfl,Y,h9,k9⟩;go_wp2;go_ret;exact⟨rfl,Y,h9,ay.o.trans k9⟩
   |some t=>
    obtain⟨M,rfl⟩:∃M',M=M'+1:=⟨M - 1,by
     have h1:=aN.o t rfl;have h2:=(G.o.le rfl).1;have:(R.res A).n=R.n:=rfl;omega⟩
    obtain⟨a,b,AN,cN,l,hc,hb,z⟩:=G.o;obtain⟨c1,c2,c3,cf,cz⟩:=hc.csu _ hi;obtain⟨rfl,_,_⟩:=hb;have D:=h_ (X2_ _ hi (d+1) (some t) row' ⟨#[125]⟩ wr G.o);have y:=HQ.o;unfold Zv_ at y;rw[in_ (show ¬(some t).isNone=true by simp)]at y;clear hc z c1 c3 HQ;rcases bft (isM R.sg (some t) ⟨#[125]⟩)with Z|Z
    ·rw[ip_ Z]at y;subst y;have ht:=HT.o;rw[show Qn_ R.sg (ks,some t).2 ⟨#[125]⟩=Qf_ (some t)from Zr_ Z]at ht;subst ht;rw[Z,Qy_ Z]at D;clear Z HT;go_wp2_with fail
     refine D.o.mono ?_;rintro e w2 ⟨rfl,row2,h2,S⟩;have q:=h_ (G.o.keepI S H.o);have k:=h_ (HK.o.trans S);replace H:=q;replace HK:=k;replace G:=h_ h2;clear c2 cf cz h2 S q k;obtain⟨d3,df,dz,P,E⟩:=Jp_ hi G.o;have az:=h_ (G.o.keepI E H.o);have aq:=h_ P.unres;have ay:=h_ (HK.o.trans E);clear P E;go_wp2_with fail
     refine(Yu_ R.U hi d (Qf_ (some t)) _ 18 noT A ks.length c ks w.heap.size _ aq.o az.o a5.o).mono ?_;rintro e w9 ⟨rfl,Y,h9,k9⟩;go_wp2;go_ret;exact⟨rfl,Y,h9,ay.o.trans k9⟩
    ·rw[in_ (by rw[Z];decide)]at y;rw[Z,QD_ Z]at D;have HX:=h_ (fun(row:ON) (W:World) h=>VO_ (R.res A) hi (d+1) t row W h);have ak:XI_ R.sg (some t) ks=((Qx_ R.sg (some t) 0).2.2.2&&decide (0 < ks.length)):=rfl;rw[ak]at y;have aZ:(R.res A).sg=R.sg:=rfl;rw[aZ]at HX;generalize Qx_ R.sg (some t) 0=x at HX y ak;obtain⟨xk,xt,xp,xz⟩:=x;dsimp only at HX y ak;clear Z ak aZ;have bz:=aR.o.2 t rfl;have bN:=(G.o.le rfl).2;have bM:=aR.o.1;have j:=aK.o (xz&&decide (0 < ks.length)) (some t);rw[ac.o]at y j;have am:=be.o (some t);have HC:=h_ (fun(row:ON) (W:World) h=>HO.o (fun x=>R.U x\/A.map (·.block)=some x) t row W h aL.o aM.o);generalize bc (some t)=r at y j am HC;obtain⟨kc,I⟩:=r;unfold Xa_ at y j;dsimp only at y j am HC;have af:Hid (KidB (ks++[kc]) (Zs_ kc (xz&&decide (0 < ks.length)) I)):=(show KidB _ _ from⟨by rw[lA];simp;omega,fun t2 e=>by
      obtain⟨bO,e2,_,h3⟩:=j t2 e;obtain rfl:=oi_ e2;rw[lA];simp;omega⟩)
     have ag:Hid (Enough R.n M (Zs_ kc (xz&&decide (0 < ks.length)) I)):=aN.o.adv (i:=0) j;have ae:Hid (Adv 1 0 st (Zs_ kc (xz&&decide (0 < ks.length)) I)):=(aL.o.trans j).weak oo oo;have ah:Hid (Deep ((d+1)) (Zs_ kc (xz&&decide (0 < ks.length)) I)):=aM.o.adv j;have al:(ks++[kc]).length=ks.length+1:=sm_;have ai:=h_ y;have F:=h_ j;clear y j
     cases xz with
     |false=>
      rw[Bool.false_and]at af ag ae ah ai F;go_wp2_with fail
      refine D.o.mono ?_;rintro e w2 ⟨rfl,row2,h2,S⟩;have n:=h_ h2;have q:=h_ (G.o.keepI S H.o);have k:=h_ (HK.o.trans S);clear c2 cf cz h2 S D;go_wp2_with fail
      refine(HX.o _ _ n.o).mono ?_;rintro e w3 ⟨rfl,g3⟩;have m:=h_ (n.o.next g3);have o:=h_ (q.o.next g3);have p:=h_ (k.o.below g3);clear g3 HX n q k;go_wp2_with fail
      refine(HC.o _ _ m.o).mono ?_;rintro e w4 ⟨rfl,V,h4,k4⟩;have L:=h_ (m.o.keepI k4 o.o);have C:=h_ h4;have K:=h_ (p.o.trans k4);clear h4 k4 m o p;have B:=h_ (Ze_ (R.res A) hi (d+1) I V kc am false w4 C.o);unfold QA_ at B;go_wp2_with fail
      refine B.o.mono ?_;rintro e w5 ⟨rfl,X,h5,k5⟩;have H:=h_ (C.o.keepI k5 L.o);have ar:=h_ h5;have av:=h_ (K.o.trans k5);clear h5 k5 C L K B;go_wp2_with (at_builtin;refine KA_ (.tmp 48) (.tmp 50) ar av H a3 rfl rfl rfl rfl oo ?_;intro A6 c6 w6 J ax O)
      replace H:=O;clear O;go_wp2;go_roundw
      case rel=>exact⟨M,ks++[kc],_,X,A6,c6,by rw[al],ai,ae,ah,ag,af,by rw[al];exact H,J,ax⟩
      case measure=>exact ZG_ hi aP.o J.o (F.o.weak (i':=1) (j':=0) oo oo)
     |true=>
      rw[Bool.true_and]at af ag ae ah ai F;go_wp2_with fail
      refine D.o.mono ?_;rintro e w2 ⟨rfl,row2,h2,S⟩;have n:=h_ h2;have q:=h_ (G.o.keepI S H.o);have k:=h_ (HK.o.trans S);clear c2 cf cz h2 S D;go_wp2_with fail
      refine(HX.o _ _ n.o).mono ?_;rintro e w3 ⟨rfl,g3⟩;have m:=h_ (n.o.next g3);have o:=h_ (q.o.next g3);have p:=h_ (k.o.below g3);clear g3 HX n q k;go_wp2_with fail
      refine(HC.o _ _ m.o).mono ?_;rintro e w4 ⟨rfl,V,h4,k4⟩;have L:=h_ (m.o.keepI k4 o.o);have C:=h_ h4;have K:=h_ (p.o.trans k4);clear h4 k4 m o p;have B:=h_ (Ze_ (R.res A) hi (d+1) I V kc am (decide (0 < ks.length)) w4 C.o);unfold QA_ at B;go_wp2_with fail
      refine B.o.mono ?_;rintro e w5 ⟨rfl,X,h5,k5⟩;have H:=h_ (C.o.keepI k5 L.o);have ar:=h_ h5;have av:=h_ (K.o.trans k5);clear h5 k5 C L K B;go_wp2_with (at_builtin;refine KA_ (.tmp 48) (.tmp 50) ar av H a3 rfl rfl rfl rfl oo ?_;intro A6 c6 w6 J ax O)
      replace H:=O;clear O;go_wp2;go_roundw
      case rel=>exact⟨M,ks++[kc],_,X,A6,c6,by rw[al],ai,ae,ah,ag,af,by rw[al];exact H,J,ax⟩
      case measure=>exact ZG_ hi aP.o J.o (F.o.weak (i':=1) (j':=0) oo oo)
theorem Qea_ {sg:List SgP} {st:RdSt} (h:Kp_ sg st 0=true):setB sg st=(((Qx_ sg st 1).2.1.toList==[61])&&((Qx_ sg st 1).1==4)):=by unfold setB;rw[h,Bool.true_and]
theorem QhK_ {sg:List SgP} {s:PS} (h:setB sg (some s)=true):isM sg (Qf_ (some s)) ⟨#[61]⟩=true:=by
 unfold setB at h;rw[Bool.and_eq_true,Bool.and_eq_true]at h;unfold isM;have e:Qx_ sg (Qf_ (some s)) 0=Qx_ sg (some s) 1:=rfl;rw[e,h.2.2,Bool.true_and,show(⟨#[61]⟩:BA).toList=[61]by rw[ByteArray.toList_eq]];exact h.2.1
theorem Qeb_ {sg:List SgP} {st:RdSt} (h:setB sg st=true):Kp_ sg st 0=true:=by
 unfold setB at h;rw[Bool.and_eq_true]at h;exact h.1
theorem Qb7_ (R:RC) (hi:R.imp=false) (N f:Nat) (hN:R.n < N) (HE:SC R N f) (d:Nat) (st:RdSt) (row:ON) (w:World) (hI:RdI R d st row w) (hn:Need R.n st 12 (f+1)) (hd:d+(f+1)<=100000) (G:Deep d st):
  Calls prog 94 #[P_ (some ⟨R.T,0,none⟩)] w (QA_ R d row w (I_ j_ (ZJ_ R.sg (Qd_ R.sg N f) d false st).1) (ZJ_ R.sg (Qd_ R.sg N f) d false st).2):=by
 obtain⟨i0,bY,b3,b4,b6⟩:=info_parts QY_;have co:=h_ (ai_ bY (ai_ b3 (ai_ b4 b6)));clear bY b3 b4 b6;have o:=h_ hI;have ae:=h_ (Kr.refl R.T row w);have a2:=h_ hI.lo;have aY:=h_ hI.lo.1;have Q:=hI.ok.len;unfold QA_ ZJ_;have T1:=h_ (fun(W:World) h=>Yn_ R hi d st row 5 dc_ dc_ W h);by_cases g1:(Qx_ R.sg st 0).1=5
 ·rw[ip_ g1];rw[show((Qx_ R.sg st 0).1==5)=true from by rw[g1];decide]at T1;have X2:=h_ (fun(W:World) h=>Vy_ R hi d st row 5 dc_ dc_ W h g1);unfold QA_ at X2;have bo:=h_ (qI_ (sg:=R.sg) st);generalize Xm_ R.sg false st=r at bo |-
  obtain⟨k,st2⟩:=r;generalize (Qx_ R.sg st 0).2.1=tx at X2 bo;dsimp only;clear hI hn G g1 Q;go_enter func94,ntmps94;go_wp2_with fail
  refine(T1.o _ o.o).mono ?_;rintro e w1 ⟨rfl,h1⟩;have q:=h_ (o.o.next h1);have x:=h_ (ae.o.below h1);clear h1;go_wp2_with fail
  refine pst (X2.o w1 q.o) x ?_;intro w2 row2 p z;have bO:=h_ p.o.lo;have HP:=h_ (Yu_ R.U hi d (Qf_ st) row2 19 tx _ 0 0 [] w2.heap.size (w2.alloc (C_ #[] 3)) (p.o.next bra) (Y3_ w2) bO.o);rw[bo.o]at HP;dsimp only at HP;go_wp2_with fail
  refine pst (HP.o) z ?_;intro w3 a t j;go_wp2;go_ret;exact⟨rfl,a,t.o,j.o⟩
 ·rw[in_ g1];rw[show((Qx_ R.sg st 0).1==5)=false from bn_.2 g1]at T1;have T2:=h_ (fun(row:ON) (W:World) h=>Ug_ R.U hi d st row ⟨#[118,97,114]⟩ W h);rcases bft (isW R.sg st ⟨#[118,97,114]⟩)with g2|g2
  ·rw[ip_ g2];rw[g2,K4_ g2]at T2;obtain⟨s,rfl,ad⟩:=Wa_ g2;have T:s.at_ < R.n:=oo;have Y:=h_ (fun(row:ON) (W:World) h=>YS_ R hi N f HE d (Qf_ (some s)) row W h (hn.next T ((((Qh_ (some s)).trans (Jy_ (sg:=R.sg) _)).trans (Qh_ _)).weak (i':=1) (j':=0) oo oo) oo) oo (G.adv (Qh_ _)));unfold QA_ at Y;generalize Jx_ R.sg (Qd_ R.sg N f) d false (Qf_ (some s))=r at Y |-
   obtain⟨k,st2⟩:=r;dsimp only at Y |-
   clear hI hn G g1 g2 Q;go_enter func94,ntmps94;go_wp2_with fail
   refine(T1.o _ o.o).mono ?_;rintro e w1 ⟨rfl,h1⟩;have q:=h_ (o.o.next h1);have x:=h_ (ae.o.below h1);clear h1;go_wp2_with fail
   refine pst (T2.o row w1 q.o) x ?_;intro w2 row2 p z;go_wp2_with fail
   refine pst (Y.o row2 w2 p.o) z ?_;intro w3 a t j;go_wp2;go_ret;exact⟨rfl,a,t.o,j.o⟩
  ·rw[in_ (by rw[g2];decide)];rw[g2,Zp_ g2]at T2;have T3:=h_ (fun(row:ON) (W:World) h=>Ug_ R.U hi d st row ⟨#[114,101,116,117,114,110]⟩ W h);rcases bft (isW R.sg st ⟨#[114,101,116,117,114,110]⟩)with g3|g3
   ·rw[ip_ g3];rw[g3,K4_ g3]at T3;obtain⟨s,rfl,ad⟩:=Wa_ g3;have T:s.at_ < R.n:=oo;have Y:=h_ (fun(U:Nat->Prop) (row:ON) (W:World) h=>HE.value U d (Qf_ (some s)) row W h (hn.next T (Qh_ (some s)) oo) oo (G.adv (Qh_ _)));unfold PosS at Y;unfold Yp_;generalize Qd_ R.sg N f .value d (Qf_ (some s))=r at Y |-
    obtain⟨k,st2⟩:=r;dsimp only at Y |-
    clear hI hn G g1 g2 g3 Q ad T;generalize Qf_ (some s)=bD at Y T3 |-
    have T9:=h_ (fun(U:Nat->Prop) (row:ON) (W:World) h=>QiX_ U hi d bD row 4 dc_ ⟨#[59]⟩ W h);rw[JO_]at T9;rcases bft (isM R.sg bD ⟨#[59]⟩)with g9|g9
    ·rw[ip_ g9];rw[g9]at T9;clear g9;go_enter func94,ntmps94;go_wp2_with fail
     refine(T1.o _ o.o).mono ?_;rintro e w1 ⟨rfl,h1⟩;have q:=h_ (o.o.next h1);have x:=h_ (ae.o.below h1);clear h1;go_wp2_with fail
     refine pst (T2.o row w1 q.o) x ?_;intro w2 row2 p z;go_wp2_with fail
     refine pst (T3.o row2 w2 p.o) z ?_;intro w3 a t j;have cg:=j.o.size;have HM:=h_ ((Y3_ w3).more (B':=w.heap.size) oo);have ay:=h_ (t.o.next (br.alloc (lr_ _) (C_ #[] 3)));have a0:=h_ (j.o.below (br.alloc (lr_ _) (C_ #[] 3)));go_wp2_with fail
     refine(T9.o _ _ _ ay.o).mono ?_;rintro e w4 ⟨rfl,h4⟩;have E:=h_ (ay.o.next h4);have J:=h_ (a0.o.below h4);have a3:=h_ (HM.o.next h4);clear h4;go_wp2_with fail
     refine(KN_ R hi d bD a ⟨#[59]⟩ w4 E.o).mono ?_;rintro e K ⟨rfl,l,h5,k5⟩;replace a3:=VE_ E k5 a3;have F:=QS_ J k5;have v:=h_ h5;clear h5 k5;go_wp2_with fail
     refine pst (Yu_ R.U hi d _ l 15 noT _ 0 0 [] w.heap.size K v.o a3.o a2.o) F ?_;intro w6 aQ aq am;go_wp2;go_ret;exact⟨rfl,aQ,aq.o,am.o⟩
    ·rw[in_ (by rw[g9];decide)];rw[g9]at T9;clear g9;go_enter func94,ntmps94;go_wp2_with fail
     refine(T1.o _ o.o).mono ?_;rintro e w1 ⟨rfl,h1⟩;have q:=h_ (o.o.next h1);have x:=h_ (ae.o.below h1);clear h1;go_wp2_with fail
     refine pst (T2.o row w1 q.o) x ?_;intro w2 row2 p z;go_wp2_with fail
     refine pst (T3.o row2 w2 p.o) z ?_;intro w3 a t j;have cg:=j.o.size;have ca:=h_ ((Y3_ w3).more (B':=w.heap.size) oo);have ay:=h_ (t.o.res_new (A:=some ⟨w3.heap.size,0,none⟩) (br.alloc (lr_ _) (C_ #[] 3)) (fun g hg=>by simp at hg;subst hg;simp));have a0:=h_ (j.o.below (br.alloc (lr_ _) (C_ #[] 3)));go_wp2_with fail
     refine(T9.o _ _ _ ay.o).mono ?_;rintro e w4 ⟨rfl,h4⟩;have E:=h_ (ay.o.next h4);have J:=h_ (a0.o.below h4);have a3:=h_ (ca.o.next h4);clear h4;go_wp2_with fail
     refine(Y.o _ _ _ E.o).mono ?_;rintro e K ⟨rfl,l,h5,k5⟩;have HM:=h_ (E.o.keepI k5 a3.o);have v:=h_ h5;have F:=h_ (J.o.trans k5);clear h5 k5;go_wp2_with (at_builtin;refine KA_ (.tmp 29) (.tmp 32) v F HM aY rfl rfl rfl rfl oo ?_;intro A6 c6 w6 aq am a6)
     replace HM:=a6;clear a6;have aA:=h_ aq.o.unres;go_wp2_with fail
     refine(KN_ R hi d st2 l ⟨#[59]⟩ w6 aA.o).mono ?_;rintro e w7 ⟨rfl,H,h7,k7⟩;have aH:=h_ (aA.o.keepI k7 HM.o);have I:=h_ h7;have O:=h_ (am.o.trans k7);clear h7 k7;go_wp2_with fail
     refine pst (Yu_ R.U hi d _ H 15 noT A6 (0+1) c6 [k] w.heap.size w7 I.o aH.o a2.o) O ?_;intro w8 D C P;go_wp2;go_ret;exact⟨rfl,D,C.o,P.o⟩
   ·rw[in_ (by rw[g3];decide)];rw[g3,Zp_ g3]at T3;have T4:=h_ (fun(row:ON) (W:World) h=>Ug_ R.U hi d st row ⟨#[105,102]⟩ W h);rcases bft (isW R.sg st ⟨#[105,102]⟩)with g4|g4
    ·rw[ip_ g4];rw[g4,K4_ g4]at T4;obtain⟨s,rfl,ad⟩:=Wa_ g4;have T:s.at_ < R.n:=oo;have b:=(Qh_ (some s)).trans (Yy_ (sg:=R.sg) (fun m d st=>QB_ (sg:=R.sg) (N:=N) f m d st) d (Qf_ (some s)));have HH:=h_ (fun(row:ON) (W:World) h=>vL_ R hi N f HE d (Qf_ (some s)) row W h (hn.next T ((Qh_ (some s)).trans (Qq_ (sg:=R.sg) _ _)) oo) oo (G.adv (Qh_ _)));unfold QA_ at HH;unfold ifS;dsimp only;generalize JJ_ R.sg (Qd_ R.sg N f) d (Qf_ (some s))=r at b HH |-
     obtain⟨k1,st2⟩:=r;dsimp only at b HH |-
     have Y:=h_ (fun(U:Nat->Prop) (row:ON) (W:World) h=>HE.block U d st2 row W h (hn.next T (b.weak (i':=1) (j':=0) oo oo) oo) oo (G.adv b));unfold PosS at Y;have aj:=b.trans (QB_ (sg:=R.sg) (N:=N) f .block d st2);generalize Qd_ R.sg N f .block d st2=r at Y aj |-
     obtain⟨k2,aE⟩:=r;dsimp only at Y aj |-
     have T9:=h_ (fun(U:Nat->Prop) (row:ON) (W:World) h=>Ug_ U hi d aE row ⟨#[101,108,115,101]⟩ W h);rcases bft (isW R.sg aE ⟨#[101,108,115,101]⟩)with g9|g9
     ·rw[ip_ g9];rw[g9,K4_ g9]at T9;have aL:=aj.trans (Qh_ aE);have bg:=h_ (fun(U:Nat->Prop) (row:ON) (W:World) h=>HE.block U d (Qf_ aE) row W h (hn.next T (aL.weak (i':=1) (j':=0) oo oo) oo) oo (G.adv aL));unfold PosS at bg;generalize Qd_ R.sg N f .block d (Qf_ aE)=r at bg |-
      obtain⟨k3,cl⟩:=r;dsimp only at bg |-
      clear hI hn G g1 g2 g3 g4 Q ad T b aj aL g9;go_enter func94,ntmps94;go_wp2_with fail
      refine(T1.o _ o.o).mono ?_;rintro e w1 ⟨rfl,h1⟩;have q:=h_ (o.o.next h1);have x:=h_ (ae.o.below h1);clear h1;go_wp2_with fail
      refine pst (T2.o row w1 q.o) x ?_;intro w2 row2 p z;go_wp2_with fail
      refine pst (T3.o row2 w2 p.o) z ?_;intro w3 a t j;go_wp2_with fail
      refine pst (T4.o a w3 t.o) j ?_;intro w4 B E J;go_wp2_with fail
      refine pst (HH.o B w4 E.o) J ?_;intro K l v F;have ch:=F.o.size;have a4:=h_ ((GW_ K k1).more (B':=w.heap.size) oo);have az:=h_ (v.o.res_new (A:=some ⟨K.heap.size,0,none⟩) (br.alloc (lr_ _) (C_ #[I_ j_ k1] 3)) (fun g hg=>by simp at hg;subst hg;simp));have a1:=h_ (F.o.below (br.alloc (lr_ _) (C_ #[I_ j_ k1] 3)));go_wp2_with fail
      refine(Y.o _ _ _ az.o).mono ?_;rintro e w6 ⟨rfl,aQ,h6,k6⟩;have HM:=h_ (az.o.keepI k6 a4.o);have aq:=h_ h6;have am:=h_ (a1.o.trans k6);clear h6 k6 a4;go_wp2_with (at_builtin;refine KA_ (.tmp 45) (.tmp 48) aq am HM aY rfl rfl rfl rfl oo ?_;intro A7 c7 w7 I O aH)
      replace HM:=aH;clear aH;go_wp2_with fail
      refine(T9.o _ _ _ I.o).mono ?_;rintro e w8 ⟨rfl,D,h8,k8⟩;have aI:=h_ (I.o.keepI k8 HM.o);have C:=h_ h8;have P:=h_ (O.o.trans k8);clear h8 k8;go_wp2_with fail
      refine(bg.o _ _ _ C.o).mono ?_;rintro e w9 ⟨rfl,X,h9,k9⟩;replace HM:=h_ (C.o.keepI k9 aI.o);have ag:=h_ h9;have ah:=h_ (P.o.trans k9);clear h9 k9 aI;go_wp2_with (at_builtin;refine KA_ (.tmp 52) (.tmp 55) ag ah HM aY rfl rfl rfl rfl oo ?_;intro b9 cf bb aN aZ bi)
      replace HM:=bi;clear bi;have bp:=h_ aN.o.unres;go_wp2_with fail
      refine(Yu_ R.U hi d cl X 16 noT b9 (1+1+1) cf [k1,k2,k3] w.heap.size bb bp.o HM.o a2.o).mono ?_;rintro e bE ⟨rfl,aa,a7,ba⟩;go_wp2;go_ret;exact⟨rfl,aa,a7,aZ.o.trans ba⟩
     ·rw[in_ (by rw[g9];decide)];rw[g9,Zp_ g9]at T9;clear hI hn G g1 g2 g3 g4 Q ad T b aj g9;go_enter func94,ntmps94;go_wp2_with fail
      refine(T1.o _ o.o).mono ?_;rintro e w1 ⟨rfl,h1⟩;have q:=h_ (o.o.next h1);have x:=h_ (ae.o.below h1);clear h1;go_wp2_with fail
      refine pst (T2.o row w1 q.o) x ?_;intro w2 row2 p z;go_wp2_with fail
      refine pst (T3.o row2 w2 p.o) z ?_;intro w3 a t j;go_wp2_with fail
      refine pst (T4.o a w3 t.o) j ?_;intro w4 B E J;go_wp2_with fail
      refine pst (HH.o B w4 E.o) J ?_;intro K l v F;have ch:=F.o.size;have a4:=h_ ((GW_ K k1).more (B':=w.heap.size) oo);have az:=h_ (v.o.res_new (A:=some ⟨K.heap.size,0,none⟩) (br.alloc (lr_ _) (C_ #[I_ j_ k1] 3)) (fun g hg=>by simp at hg;subst hg;simp));have a1:=h_ (F.o.below (br.alloc (lr_ _) (C_ #[I_ j_ k1] 3)));go_wp2_with fail
      refine(Y.o _ _ _ az.o).mono ?_;rintro e w6 ⟨rfl,aQ,h6,k6⟩;have HM:=h_ (az.o.keepI k6 a4.o);have aq:=h_ h6;have am:=h_ (a1.o.trans k6);clear h6 k6 a4;go_wp2_with (at_builtin;refine KA_ (.tmp 45) (.tmp 48) aq am HM aY rfl rfl rfl rfl oo ?_;intro A7 c7 w7 I O aH)
      replace HM:=aH;clear aH;go_wp2_with fail
      refine(T9.o _ _ _ I.o).mono ?_;rintro e w8 ⟨rfl,D,h8,k8⟩;have aI:=h_ (I.o.keepI k8 HM.o);have C:=h_ h8.unres;have P:=h_ (O.o.trans k8);clear h8 k8;go_wp2_with fail
      refine(Yu_ R.U hi d aE D 16 noT A7 (1+1) c7 [k1,k2] w.heap.size w8 C.o aI.o a2.o).mono ?_;rintro e bE ⟨rfl,aa,a7,ba⟩;go_wp2;go_ret;exact⟨rfl,aa,a7,P.o.trans ba⟩
    ·rw[in_ (by rw[g4];decide)];rw[g4,Zp_ g4]at T4;have T5:=h_ (fun(row:ON) (W:World) h=>Ug_ R.U hi d st row ⟨#[119,104,105,108,101]⟩ W h);rcases bft (isW R.sg st ⟨#[119,104,105,108,101]⟩)with g5|g5
     ·rw[ip_ g5];rw[g5,K4_ g5]at T5;obtain⟨s,rfl,ad⟩:=Wa_ g5;have T:s.at_ < R.n:=oo;have b:=(Qh_ (some s)).trans (Yy_ (sg:=R.sg) (fun m d st=>QB_ (sg:=R.sg) (N:=N) f m d st) d (Qf_ (some s)));have HH:=h_ (fun(row:ON) (W:World) h=>vL_ R hi N f HE d (Qf_ (some s)) row W h (hn.next T ((Qh_ (some s)).trans (Qq_ (sg:=R.sg) _ _)) oo) oo (G.adv (Qh_ _)));unfold QA_ at HH;unfold z6_;dsimp only;generalize JJ_ R.sg (Qd_ R.sg N f) d (Qf_ (some s))=r at b HH |-
      obtain⟨k1,st2⟩:=r;dsimp only at b HH |-
      have Y:=h_ (fun(U:Nat->Prop) (row:ON) (W:World) h=>HE.block U d st2 row W h (hn.next T (b.weak (i':=1) (j':=0) oo oo) oo) oo (G.adv b));unfold PosS at Y;generalize Qd_ R.sg N f .block d st2=r at Y |-
      obtain⟨k2,aE⟩:=r;dsimp only at Y |-
      clear hI hn G g1 g2 g3 g4 g5 Q ad T b;go_enter func94,ntmps94;go_wp2_with fail
      refine(T1.o _ o.o).mono ?_;rintro e w1 ⟨rfl,h1⟩;have q:=h_ (o.o.next h1);have x:=h_ (ae.o.below h1);clear h1;go_wp2_with fail
      refine pst (T2.o row w1 q.o) x ?_;intro w2 row2 p z;go_wp2_with fail
      refine pst (T3.o row2 w2 p.o) z ?_;intro w3 a t j;go_wp2_with fail
      refine pst (T4.o a w3 t.o) j ?_;intro w4 B E J;go_wp2_with fail
      refine pst (T5.o B w4 E.o) J ?_;intro K l v F;go_wp2_with fail
      refine pst (HH.o l K v.o) F ?_;intro w6 aQ aq am;have cp:=am.o.size;have a6:=h_ ((GW_ w6 k1).more (B':=w.heap.size) oo);have aA:=h_ (aq.o.res_new (A:=some ⟨w6.heap.size,0,none⟩) (br.alloc (lr_ _) (C_ #[I_ j_ k1] 3)) (fun g hg=>by simp at hg;subst hg;simp));have bN:=h_ (am.o.below (br.alloc (lr_ _) (C_ #[I_ j_ k1] 3)));go_wp2_with fail
      refine(Y.o _ _ _ aA.o).mono ?_;rintro e w7 ⟨rfl,H,h7,k7⟩;have HM:=h_ (aA.o.keepI k7 a6.o);have I:=h_ h7;have O:=h_ (bN.o.trans k7);clear h7 k7 a6;go_wp2_with (at_builtin;refine KA_ (.tmp 66) (.tmp 69) I O HM aY rfl rfl rfl rfl oo ?_;intro A8 c8 w8 C P aI)
      replace HM:=aI;clear aI;have bL:=h_ C.o.unres;go_wp2_with fail
      refine(Yu_ R.U hi d aE H 17 noT A8 (1+1) c8 [k1,k2] w.heap.size w8 bL.o HM.o a2.o).mono ?_;rintro e bE ⟨rfl,aa,a7,ba⟩;go_wp2;go_ret;exact⟨rfl,aa,a7,P.o.trans ba⟩
     ·rw[in_ (by rw[g5];decide)];rw[g5,Zp_ g5]at T5;have TQ:=h_ (fun(row:ON) (W:World) h=>jw_ R hi d st row W h);rcases bft (setB R.sg st)with g6|g6
      ·rw[ip_ g6];have gn:=Qeb_ g6;rw[gn]at TQ;obtain⟨s,rfl,ad⟩:=Z7_ gn;have T:s.at_ < R.n:=oo;have b0:=QhK_ g6;rw[Qea_ gn]at g6;rw[Bool.and_eq_true]at g6;have aV:s.at_+1 < R.sg.length:=by
        rcases Nat.lt_or_ge (s.at_+1) R.sg.length with h|h
        ·exact h
        ·have:=g6.2;rw[ZO_ (i:=1) h]at this;exact absurd this dc_
       obtain⟨y,hy⟩:∃y,R.sg[s.at_+1]? =some y:=⟨_,List.getElem?_eq_getElem aV⟩;rw[GE_ (i:=1) hy]at g6;obtain⟨yk,yt,yp,yz⟩:=y;dsimp only at g6;obtain⟨q1,q2⟩:=g6;have b:=(Qh_ (some s)).trans (Qh_ (Qf_ (some s)));have bZ:nmS R.sg (some s)=Qf_ (some s):=ip_ gn;have HX:=h_ (fun(row:ON) (W:World) h=>YU_ R.U hi d (some s) row W h);rw[bZ]at HX;have bP:=h_ (fun(row:ON) (W:World) h=>Yc_ R.U hi d (Qf_ (some s)) row ⟨#[61]⟩ W h);rw[Zr_ b0]at bP;have Y:=h_ (fun(row:ON) (W:World) h=>HE.value R.U d (Qf_ (Qf_ (some s))) row W h (hn.next T (b.weak (i':=1) (j':=0) oo oo) oo) oo (G.adv b));unfold PosS at Y;unfold setS;dsimp only;generalize Qd_ R.sg N f .value d (Qf_ (Qf_ (some s)))=r at Y |-
       obtain⟨k,st2⟩:=r;dsimp only at Y |-
       generalize nmT R.sg (some s)=tx at HX |-
       have HY:=h_ hy;clear hI hn G g1 g2 g3 g4 g5 Q ad b0 b bZ aV hy gn;go_enter func94,ntmps94;go_wp2_with fail
       refine(T1.o _ o.o).mono ?_;rintro e w1 ⟨rfl,h1⟩;have q:=h_ (o.o.next h1);have x:=h_ (ae.o.below h1);clear h1;go_wp2_with fail
       refine pst (T2.o row w1 q.o) x ?_;intro w2 row2 p z;go_wp2_with fail
       refine pst (T3.o row2 w2 p.o) z ?_;intro w3 a t j;go_wp2_with fail
       refine pst (T4.o a w3 t.o) j ?_;intro w4 B E J;go_wp2_with fail
       refine pst (T5.o B w4 E.o) J ?_;intro K l v F;have M:RdI R d (some s) l K:=v.o;have c:R.Ok:=M.ok;have a9:R.n<=3000:=c.most;have S:=M.old;obtain⟨L,b5,bn,bs,l5,af,V,Z⟩:=id M;obtain⟨x0,x1,x2,x3,x4,xf,xz⟩:=af.cs hi;have aU:s.at_=L:=V.2.1;have ac:=HY.o;rw[aU]at ac;have aD:L+1 < R.n:=by
        have h1:L+1 < R.sg.length:=(gs_.1 ac).1;have h2:R.sg.length=R.n:=c.len;omega
       obtain⟨b1,off,hA,bl,e0,e1,e2,e3⟩:=Yv_ (c.rd.below S) (show L+1 < R.n from aD) ac;rw[hA]at x0;dsimp only at e0 e1;have aM:(L:Int)+1 < (R.n:Int):=oo;have bv:decide ((L:Int)+1 < (R.n:Int))=true:=dt_ aM;have b2:((L:Int)+1).toNat=L+1:=oo;have bx:IntKind.i64.wrap ((L:Int)+1)=(L:Int)+1:=IntWalk.i64_in _ oo;clear M af V Z ac c S x2 x3 x4 e2 e3 hA;have ab:=h_ (fun(n:Nat)=>v.o.next (below_drewN (Below.refl K.heap.size K) n));go_upto_region 21 with fail
       go_quiet ((go_at_call 69;exact Calls.quiet_of (TQ.o _ _ (ab.o _))));go_wp2_with fail
       refine(HX.o _ _ (ab.o _)).mono ?_;rintro e w7 ⟨rfl,H,h7,k7⟩;have I:=h_ h7;have O:=h_ ((F.o.below (below_drewN (Below.refl K.heap.size K) _)).trans k7);clear h7 k7;go_wp2_with fail
       refine pst (bP.o H w7 I.o) O ?_;intro w8 D C P;go_wp2_with fail
       refine pst (Y.o D w8 C.o) P ?_;intro w9 X ag ah;go_wp2_with fail
       refine pst (KN_ R hi d st2 X ⟨#[59]⟩ w9 ag.o) ah ?_;intro bb bC aN aZ;have bq:=h_ aN.o.lo;go_wp2_with fail
       refine pst (Yu_ R.U hi d _ bC 13 tx (some ⟨bb.heap.size,0,none⟩) 1 1 [k] bb.heap.size _ (aN.o.alloc _) (GW_ bb k) bq.o) aZ ?_;intro bE aa bK bM;go_wp2;go_ret;exact⟨rfl,aa,bK.o,bM.o⟩
      ·rw[in_ (by rw[g6];decide)];have Y:=h_ (fun(row:ON) (W:World) h=>HE.value R.U d st row W h (hn.same (r':=11) oo (Adv.refl st)) oo G);unfold PosS at Y;unfold doS;dsimp only;generalize Qd_ R.sg N f .value d st=r at Y |-
       obtain⟨k,st2⟩:=r;dsimp only at Y |-
       rcases bft (Kp_ R.sg st 0)with gn|gn
       ·rw[gn]at TQ;obtain⟨s,rfl,ad⟩:=Z7_ gn;have T:s.at_ < R.n:=oo;rw[Qea_ gn]at g6;rcases Nat.lt_or_ge (s.at_+1) R.n with aV|aV
        ·obtain⟨y,hy⟩:∃y,R.sg[s.at_+1]? =some y:=⟨_,gE oo⟩;rw[GE_ (i:=1) hy]at g6;obtain⟨yk,yt,yp,yz⟩:=y;dsimp only at g6;have HY:=h_ hy;rcases bft (yk==4)with q2|q2
         ·rw[q2,Bool.and_true]at g6;clear hI hn G g1 g2 g3 g4 g5 Q ad aV hy gn;go_enter func94,ntmps94;go_wp2_with fail
          refine(T1.o _ o.o).mono ?_;rintro e w1 ⟨rfl,h1⟩;have q:=h_ (o.o.next h1);have x:=h_ (ae.o.below h1);clear h1;go_wp2_with fail
          refine pst (T2.o row w1 q.o) x ?_;intro w2 row2 p z;go_wp2_with fail
          refine pst (T3.o row2 w2 p.o) z ?_;intro w3 a t j;go_wp2_with fail
          refine pst (T4.o a w3 t.o) j ?_;intro w4 B E J;go_wp2_with fail
          refine pst (T5.o B w4 E.o) J ?_;intro K l v F;have M:RdI R d (some s) l K:=v.o;have c:R.Ok:=M.ok;have a9:R.n<=3000:=c.most;have S:=M.old;obtain⟨L,b5,bn,bs,l5,af,V,Z⟩:=id M;obtain⟨x0,x1,x2,x3,x4,xf,xz⟩:=af.cs hi;have aU:s.at_=L:=V.2.1;have ac:=HY.o;rw[aU]at ac;have aD:L+1 < R.n:=by
           have h1:L+1 < R.sg.length:=(gs_.1 ac).1;have h2:R.sg.length=R.n:=c.len;omega
          obtain⟨b1,off,hA,bl,e0,e1,e2,e3⟩:=Yv_ (c.rd.below S) (show L+1 < R.n from aD) ac;rw[hA]at x0;dsimp only at e0 e1;have aM:(L:Int)+1 < (R.n:Int):=oo;have bv:decide ((L:Int)+1 < (R.n:Int))=true:=dt_ aM;have b2:((L:Int)+1).toNat=L+1:=oo;have bx:IntKind.i64.wrap ((L:Int)+1)=(L:Int)+1:=IntWalk.i64_in _ oo;clear M af V Z ac c S x2 x3 x4 e2 e3 hA;have ab:=h_ (fun(n:Nat)=>v.o.next (below_drewN (Below.refl K.heap.size K) n));go_upto_region 21 with fail
          go_quiet ((go_at_call 69;exact Calls.quiet_of (TQ.o _ _ (ab.o _))));go_wp2_with fail
          refine(Y.o _ _ (ab.o _)).mono ?_;rintro e w7 ⟨rfl,H,h7,k7⟩;have I:=h_ h7;have O:=h_ ((F.o.below (below_drewN (Below.refl K.heap.size K) _)).trans k7);clear h7 k7;go_wp2_with fail
          refine pst (KN_ R hi d st2 H ⟨#[59]⟩ w7 I.o) O ?_;intro w8 D C P;have ai:=h_ C.o.lo;go_wp2_with fail
          refine pst (Yu_ R.U hi d _ D 14 noT (some ⟨w8.heap.size,0,none⟩) 1 1 [k] w8.heap.size _ (C.o.alloc _) (GW_ w8 k) ai.o) P ?_;intro w9 X ag ah;go_wp2;go_ret;exact⟨rfl,X,ag.o,ah.o⟩
         ·clear hI hn G g1 g2 g3 g4 g5 Q ad aV hy gn g6;go_enter func94,ntmps94;go_wp2_with fail
          refine(T1.o _ o.o).mono ?_;rintro e w1 ⟨rfl,h1⟩;have q:=h_ (o.o.next h1);have x:=h_ (ae.o.below h1);clear h1;go_wp2_with fail
          refine pst (T2.o row w1 q.o) x ?_;intro w2 row2 p z;go_wp2_with fail
          refine pst (T3.o row2 w2 p.o) z ?_;intro w3 a t j;go_wp2_with fail
          refine pst (T4.o a w3 t.o) j ?_;intro w4 B E J;go_wp2_with fail
          refine pst (T5.o B w4 E.o) J ?_;intro K l v F;have M:RdI R d (some s) l K:=v.o;have c:R.Ok:=M.ok;have a9:R.n<=3000:=c.most;have S:=M.old;obtain⟨L,b5,bn,bs,l5,af,V,Z⟩:=id M;obtain⟨x0,x1,x2,x3,x4,xf,xz⟩:=af.cs hi;have aU:s.at_=L:=V.2.1;have ac:=HY.o;rw[aU]at ac;have aD:L+1 < R.n:=by
           have h1:L+1 < R.sg.length:=(gs_.1 ac).1;have h2:R.sg.length=R.n:=c.len;omega
          obtain⟨b1,off,hA,bl,e0,e1,e2,e3⟩:=Yv_ (c.rd.below S) (show L+1 < R.n from aD) ac;rw[hA]at x0;dsimp only at e0 e1;have aM:(L:Int)+1 < (R.n:Int):=oo;have bv:decide ((L:Int)+1 < (R.n:Int))=true:=dt_ aM;have b2:((L:Int)+1).toNat=L+1:=oo;have bx:IntKind.i64.wrap ((L:Int)+1)=(L:Int)+1:=IntWalk.i64_in _ oo;clear M af V Z ac c S x2 x3 x4 e2 e3 hA;have ab:=h_ (fun(n:Nat)=>v.o.next (below_drewN (Below.refl K.heap.size K) n));go_upto_region 21 with fail
          go_quiet ((go_at_call 69;exact Calls.quiet_of (TQ.o _ _ (ab.o _))));go_wp2_with fail
          refine(Y.o _ _ (ab.o _)).mono ?_;rintro e w7 ⟨rfl,H,h7,k7⟩;have I:=h_ h7;have O:=h_ ((F.o.below (below_drewN (Below.refl K.heap.size K) _)).trans k7);clear h7 k7;go_wp2_with fail
          refine pst (KN_ R hi d st2 H ⟨#[59]⟩ w7 I.o) O ?_;intro w8 D C P;have ai:=h_ C.o.lo;go_wp2_with fail
          refine pst (Yu_ R.U hi d _ D 14 noT (some ⟨w8.heap.size,0,none⟩) 1 1 [k] w8.heap.size _ (C.o.alloc _) (GW_ w8 k) ai.o) P ?_;intro w9 X ag ah;go_wp2;go_ret;exact⟨rfl,X,ag.o,ah.o⟩
        ·clear hI hn G g1 g2 g3 g4 g5 Q ad gn g6;go_enter func94,ntmps94;go_wp2_with fail
         refine(T1.o _ o.o).mono ?_;rintro e w1 ⟨rfl,h1⟩;have q:=h_ (o.o.next h1);have x:=h_ (ae.o.below h1);clear h1;go_wp2_with fail
         refine pst (T2.o row w1 q.o) x ?_;intro w2 row2 p z;go_wp2_with fail
         refine pst (T3.o row2 w2 p.o) z ?_;intro w3 a t j;go_wp2_with fail
         refine pst (T4.o a w3 t.o) j ?_;intro w4 B E J;go_wp2_with fail
         refine pst (T5.o B w4 E.o) J ?_;intro K l v F;have M:RdI R d (some s) l K:=v.o;have c:R.Ok:=M.ok;have a9:R.n<=3000:=c.most;obtain⟨L,b5,bn,bs,l5,af,V,Z⟩:=id M;obtain⟨x0,x1,x2,x3,x4,xf,xz⟩:=af.cs hi;have aU:s.at_=L:=V.2.1;have aM:¬(L:Int)+1 < (R.n:Int):=oo;have bv:decide ((L:Int)+1 < (R.n:Int))=false:=df_ aM;have bx:IntKind.i64.wrap ((L:Int)+1)=(L:Int)+1:=IntWalk.i64_in _ (by have h1:=af.2.2.2.2.1;omega);clear M af V Z c x2 x3 x4;have ab:=h_ (fun(n:Nat)=>v.o.next (below_drewN (Below.refl K.heap.size K) n));go_upto_region 21 with fail
         go_quiet ((go_at_call 69;exact Calls.quiet_of (TQ.o _ _ (ab.o _))));go_wp2_with fail
         refine(Y.o _ _ (ab.o _)).mono ?_;rintro e w7 ⟨rfl,H,h7,k7⟩;have I:=h_ h7;have O:=h_ ((F.o.below (below_drewN (Below.refl K.heap.size K) _)).trans k7);clear h7 k7;go_wp2_with fail
         refine pst (KN_ R hi d st2 H ⟨#[59]⟩ w7 I.o) O ?_;intro w8 D C P;have ai:=h_ C.o.lo;go_wp2_with fail
         refine pst (Yu_ R.U hi d _ D 14 noT (some ⟨w8.heap.size,0,none⟩) 1 1 [k] w8.heap.size _ (C.o.alloc _) (GW_ w8 k) ai.o) P ?_;intro w9 X ag ah;go_wp2;go_ret;exact⟨rfl,X,ag.o,ah.o⟩
       ·rw[gn]at TQ;clear hI hn G g1 g2 g3 g4 g5 Q gn g6;go_enter func94,ntmps94;go_wp2_with fail
        refine(T1.o _ o.o).mono ?_;rintro e w1 ⟨rfl,h1⟩;have q:=h_ (o.o.next h1);have x:=h_ (ae.o.below h1);clear h1;go_wp2_with fail
        refine pst (T2.o row w1 q.o) x ?_;intro w2 row2 p z;go_wp2_with fail
        refine pst (T3.o row2 w2 p.o) z ?_;intro w3 a t j;go_wp2_with fail
        refine pst (T4.o a w3 t.o) j ?_;intro w4 B E J;go_wp2_with fail
        refine pst (T5.o B w4 E.o) J ?_;intro K l v F;have ab:=h_ (fun(n:Nat)=>v.o.next (below_drewN (Below.refl K.heap.size K) n));go_upto_region 21 with fail
        go_quiet ((go_at_call 69;exact Calls.quiet_of (TQ.o _ _ (ab.o _))));go_wp2_with fail
        refine(Y.o _ _ (ab.o _)).mono ?_;rintro e w7 ⟨rfl,H,h7,k7⟩;have I:=h_ h7;have O:=h_ ((F.o.below (below_drewN (Below.refl K.heap.size K) _)).trans k7);clear h7 k7;go_wp2_with fail
        refine pst (KN_ R hi d st2 H ⟨#[59]⟩ w7 I.o) O ?_;intro w8 D C P;have ai:=h_ C.o.lo;go_wp2_with fail
        refine pst (Yu_ R.U hi d _ D 14 noT (some ⟨w8.heap.size,0,none⟩) 1 1 [k] w8.heap.size _ (C.o.alloc _) (GW_ w8 k) ai.o) P ?_;intro w9 X ag ah;go_wp2;go_ret;exact⟨rfl,X,ag.o,ah.o⟩
theorem sc_u {R:RC} {N f:Nat} (U:Nat->Prop) (h:SC R N f):SC { R with U:=U } N f:=
 ⟨fun U' d st row w a=>h.value U' d st row w a,fun U' d st row w a=>h.pick U' d st row w a,fun U' l d st row w a=>h.chain U' l d st row w a,fun U' d st row w a=>h.end_ U' d st row w a,fun U' d st row w a=>h.base U' d st row w a,fun U' d st row w a=>h.step U' d st row w a,fun U' d st row w a=>h.block U' d st row w a⟩
theorem Qiz_ (R:RC) (hi:R.imp=false) (hm:XC_ R.sg) (N:Nat) (g:R.n < N):∀f,SC R N f:=by
 intro f
 induction f with
 |zero=>
  exact⟨fun U d st row w c b=>absurd b.1 oo,fun U d st row w c b=>absurd b.1 oo,fun U l d st row w c hl b=>absurd b.1 oo,fun U d st row w c b=>absurd b.1 oo,fun U d st row w c b=>absurd b.1 oo,fun U d st row w c b=>absurd b.1 oo,fun U d st row w c b=>absurd b.1 oo⟩
 |succ f e=>
  exact⟨fun U d st row w c b hd a=>vd_ { R with U:=U } hi N f g (sc_u U e) d st row w c b hd a,
   fun U d st row w c b hd a=>Qb5_ { R with U:=U } hi N f (sc_u U e) d st row w c b hd a,
   fun U l d st row w c hl b hd a=>jT_ { R with U:=U } hi N f g (sc_u U e) l d hl st row w c b hd a,
   fun U d st row w c b hd a=>Qd9_ { R with U:=U } hi N f g (sc_u U e) d st row w c b hd a,
   fun U d st row w c b hd a=>QbQ_ { R with U:=U } hi hm N f g (sc_u U e) d st row w c b hd a,
   fun U d st row w c b hd a=>Qb7_ { R with U:=U } hi N f g (sc_u U e) d st row w c b hd a,
   fun U d st row w c b hd a=>jS_ { R with U:=U } hi N f g (sc_u U e) d st row w c b hd a⟩
theorem UI_ {n F:Nat} (hF:14 * (n+2)<=F) (st:RdSt) {r:Nat} (hr:r<=28):Need n st r F:=⟨oo,fun s _=>by
 have:n - s.at_<=n:=Nat.sub_le _ _;omega⟩
theorem QcJ_ (st:RdSt):Deep 0 st:=fun _ _=>oo
theorem QbZ_ (R:RC) (hi:R.imp=false) (N F:Nat) (hF:14 * (R.n+2)<=F) (hd:F<=100000) (hN:R.n < N) (HE:SC R N F) (st:RdSt) (row:ON) (w:World) (v:RdI R 0 st row w):
  Calls prog 52 #[P_ (some ⟨R.T,0,none⟩),B_ false] w (QA_ R 0 row w (I_ j_ (V6_ R.sg (Qd_ R.sg N F) N false st).1) (V6_ R.sg (Qd_ R.sg N F) N false st).2):=by
 obtain⟨i0,G,H,I,J⟩:=info_parts QY_;have ak:=h_ (ai_ G (ai_ H (ai_ I J)));clear G H I J;have a:=h_ v;have t:=h_ (Kr.refl R.T row w);have ac:=h_ v.lo;have T:=h_ v.lo.1;unfold QA_ V6_;have E:=h_ (fun(W:World) h=>Yn_ R hi 0 st row 5 dc_ dc_ W h);by_cases p:(Qx_ R.sg st 0).1=5
 ·rw[ip_ p];rw[show((Qx_ R.sg st 0).1==5)=true from by rw[p];decide]at E;have X2:=h_ (fun(W:World) h=>Vy_ R hi 0 st row 5 dc_ dc_ W h p);unfold QA_ at X2;have s:=h_ (qI_ (sg:=R.sg) st);generalize Xm_ R.sg false st=r at s |-
  obtain⟨k,st2⟩:=r;generalize (Qx_ R.sg st 0).2.1=tx at X2 s;dsimp only;clear v p;go_enter func52,ntmps52;go_wp2_with fail
  refine(E.o _ a.o).mono ?_;rintro e w1 ⟨rfl,h1⟩;have d:=h_ (a.o.next h1);have g:=h_ (t.o.below h1);clear h1;go_wp2_with fail
  refine pst (X2.o w1 d.o) g ?_;intro w2 row2 b i;have B:=h_ b.o.lo;have HP:=h_ (Yu_ R.U hi 0 (Qf_ st) row2 19 tx _ 0 0 [] w2.heap.size (w2.alloc (C_ #[] 3)) (b.o.next bra) (Y3_ w2) B.o);rw[s.o]at HP;dsimp only at HP;go_wp2_with fail
  refine pst (HP.o) i ?_;intro w3 l f j;go_wp2;go_ret;exact⟨rfl,l,f.o,j.o⟩
 ·rw[in_ p];rw[show((Qx_ R.sg st 0).1==5)=false from bn_.2 p]at E;have S:=h_ (fun(row:ON) (W:World) h=>Ug_ R.U hi 0 st row ⟨#[118,97,114]⟩ W h);rcases bft (isW R.sg st ⟨#[118,97,114]⟩)with o|o
  ·rw[ip_ o];rw[o,K4_ o]at S;have m:=h_ (fun(row:ON) (W:World) h=>YS_ R hi N F HE 0 (Qf_ st) row W h (UI_ hF _ oo) oo (QcJ_ _));unfold QA_ at m;generalize Jx_ R.sg (Qd_ R.sg N F) 0 false (Qf_ st)=r at m |-
   obtain⟨k,st2⟩:=r;dsimp only at m |-
   clear v p o;go_enter func52,ntmps52;go_wp2_with fail
   refine(E.o _ a.o).mono ?_;rintro e w1 ⟨rfl,h1⟩;have d:=h_ (a.o.next h1);have g:=h_ (t.o.below h1);clear h1;go_wp2_with fail
   refine pst (S.o row w1 d.o) g ?_;intro w2 row2 b i;go_wp2_with fail
   refine pst (m.o row2 w2 b.o) i ?_;intro w3 l f j;go_wp2;go_ret;exact⟨rfl,l,f.o,j.o⟩
  ·rw[in_ (by rw[o];decide)];rw[o,Zp_ o]at S;unfold VU_;dsimp only;have HX:=h_ (fun(row:ON) (W:World) h=>YU_ R.U hi 0 st row W h);generalize nmT R.sg st=tx at HX |-
   generalize nmS R.sg st=O at HX |-
   have Q:=h_ (fun(row:ON) (W:World) h=>Wn_ R hi 0 N O row W h hN);generalize QG_ R.sg (Qj_ R.sg) ⟨#[41]⟩ N [] (Qn_ R.sg O ⟨#[40]⟩)=q at Q |-
   obtain⟨ks,P⟩:=q;dsimp only at Q |-
   have m:=h_ (fun(U:Nat->Prop) (row:ON) (W:World) h=>HE.block U 0 (Qn_ R.sg P ⟨#[41]⟩) row W h (UI_ hF _ oo) oo (QcJ_ _));unfold PosS at m;generalize Qd_ R.sg N F .block 0 (Qn_ R.sg P ⟨#[41]⟩)=r at m |-
   obtain⟨k,st2⟩:=r;dsimp only at m |-
   clear v p o;go_enter func52,ntmps52;go_wp2_with fail
   refine(E.o _ a.o).mono ?_;rintro e w1 ⟨rfl,h1⟩;have d:=h_ (a.o.next h1);have g:=h_ (t.o.below h1);clear h1;go_wp2_with fail
   refine pst (S.o row w1 d.o) g ?_;intro w2 row2 b i;have f:=b;have j:=i;go_wp2_with fail
   refine pst (HX.o row2 w2 f.o) j ?_;intro w4 K V z;go_wp2_with fail
   refine(Q.o K w4 V.o).mono ?_;rintro e w5 ⟨A,n,c,rfl,rfl,m5,al,aj,h5,k5⟩;have ah:=z.o.size;have C:=h_ (m5.more (B':=w.heap.size) ah);have x:=h_ h5;have Z:=h_ (z.o.trans k5);clear h5 k5 m5 Q;go_wp2_with fail
   refine(m.o _ _ _ x.o).mono ?_;rintro e w6 ⟨rfl,L,h6,k6⟩;have HM:=h_ (x.o.keepI k6 C.o);have X:=h_ h6;have aa:=h_ (Z.o.trans k6);clear h6 k6 m C;go_wp2_with (at_builtin;refine KA_ (.tmp 67) (.tmp 70) X aa HM T rfl rfl rfl rfl oo ?_;intro A7 c7 w7 Y ab D)
   replace HM:=D;clear D;have y:=h_ Y.o.unres;go_wp2_with fail
   refine(Yu_ R.U hi 0 st2 L 20 tx A7 (ks.length+1) c7 (ks++[k]) w.heap.size w7 y.o HM.o ac.o).mono ?_;rintro e w8 ⟨rfl,M,h8,k8⟩;go_wp2;go_ret;exact⟨rfl,M,h8,ab.o.trans k8⟩
theorem jZ_ (R:RC) (hi:R.imp=false) (N F:Nat) (hF:14 * (R.n+2)<=F) (hd:F<=100000) (hN:R.n < N) (HE:SC R N F) (st:RdSt) (row:ON) (w:World) (hI:RdI R 0 st row w):
  Calls prog 52 #[P_ (some ⟨R.T,0,none⟩),B_ true] w (QA_ R 0 row w (I_ j_ (Y9_ R.sg (Qd_ R.sg N F) N false st).1) (Y9_ R.sg (Qd_ R.sg N F) N false st).2):=by
 obtain⟨i0,bo,bs,bv,aU⟩:=info_parts QY_;have b3:=h_ (ai_ bo (ai_ bs (ai_ bv aU)));clear bo bs bv aU;have D:=h_ hI;have az:=h_ (Kr.refl R.T row w);have aQ:=h_ hI.lo;have aM:=h_ hI.lo.1;unfold QA_ Y9_;have T1:=h_ (fun(W:World) h=>Yn_ R hi 0 st row 5 dc_ dc_ W h);by_cases g1:(Qx_ R.sg st 0).1=5
 ·rw[ip_ g1];rw[show((Qx_ R.sg st 0).1==5)=true from by rw[g1];decide]at T1;have X2:=h_ (fun(W:World) h=>Vy_ R hi 0 st row 5 dc_ dc_ W h g1);unfold QA_ at X2;have aN:=h_ (qI_ (sg:=R.sg) st);generalize Xm_ R.sg false st=r at aN |-
  obtain⟨k,st2⟩:=r;generalize (Qx_ R.sg st 0).2.1=tx at X2 aN;dsimp only;clear hI g1;go_enter func52,ntmps52;go_wp2_with fail
  refine(T1.o _ D.o).mono ?_;rintro e w1 ⟨rfl,h1⟩;have O:=h_ (D.o.next h1);have V:=h_ (az.o.below h1);clear h1;go_wp2_with fail
  refine pst (X2.o w1 O.o) V ?_;intro w2 row2 j p;have bi:=h_ j.o.lo;have HP:=h_ (Yu_ R.U hi 0 (Qf_ st) row2 19 tx _ 0 0 [] w2.heap.size (w2.alloc (C_ #[] 3)) (j.o.next bra) (Y3_ w2) bi.o);rw[aN.o]at HP;dsimp only at HP;go_wp2_with fail
  refine pst (HP.o) p ?_;intro w3 J o y;go_wp2;go_ret;exact⟨rfl,J,o.o,y.o⟩
 ·rw[in_ g1];rw[show((Qx_ R.sg st 0).1==5)=false from bn_.2 g1]at T1;have T2:=h_ (fun(row:ON) (W:World) h=>Ug_ R.U hi 0 st row ⟨#[118,97,114]⟩ W h);rcases bft (isW R.sg st ⟨#[118,97,114]⟩)with g2|g2
  ·rw[ip_ g2];rw[g2,K4_ g2]at T2;have HV:=h_ (fun(row:ON) (W:World) h=>YS_ R hi N F HE 0 (Qf_ st) row W h (UI_ hF _ oo) oo (QcJ_ _));unfold QA_ at HV;generalize Jx_ R.sg (Qd_ R.sg N F) 0 false (Qf_ st)=r at HV |-
   obtain⟨k,st2⟩:=r;dsimp only at HV |-
   clear hI g1 g2;go_enter func52,ntmps52;go_wp2_with fail
   refine(T1.o _ D.o).mono ?_;rintro e w1 ⟨rfl,h1⟩;have O:=h_ (D.o.next h1);have V:=h_ (az.o.below h1);clear h1;go_wp2_with fail
   refine pst (T2.o row w1 O.o) V ?_;intro w2 row2 j p;go_wp2_with fail
   refine pst (HV.o row2 w2 j.o) p ?_;intro w3 J o y;go_wp2;go_ret;exact⟨rfl,J,o.o,y.o⟩
  ·rw[in_ (by rw[g2];decide)];rw[g2,Zp_ g2]at T2;have T3:=h_ (fun(row:ON) (W:World) h=>Ug_ R.U hi 0 st row ⟨#[99,108,97,115,115]⟩ W h);rcases bft (isW R.sg st ⟨#[99,108,97,115,115]⟩)with B|B
   ·rw[ip_ B];rw[B,K4_ B]at T3;have HO:Hid (∀(U:Nat->Prop) (t:PS) (row:ON) (w:World),RdI { R with U:=U } 0 (some t) row w->Adv 0 0 (none:RdSt) none->Deep 0 (some t)->Calls prog 52 #[P_ (some ⟨R.T,0,none⟩),B_ false] w (fun e w'=>e=R_ (I_ j_ (V6_ R.sg (Qd_ R.sg N F) N false (some t)).1)/\∃row',RdI { R with U:=U } 0 (V6_ R.sg (Qd_ R.sg N F) N false (some t)).2 row' w'/\Kr R.T row w row' w')):=(show ∀U t row w,_->_->_->_ from fun U t row w h _ _=>QbZ_ { R with U:=U } hi N F hF hd hN (sc_u U HE) (some t) row w h);have ag:Hid (∀b st,V6_ R.sg (Qd_ R.sg N F) N b st=Xa_ b (V6_ R.sg (Qd_ R.sg N F) N false st)):=(show ∀b st,_ from fun b st=>QdC_ b st);have aS:Hid (∀st,0<=(V6_ R.sg (Qd_ R.sg N F) N false st).1):=(show ∀st,_ from fun st=>Qir_ false st);have a2:Hid (∀b st,Adv 1 1 st (V6_ R.sg (Qd_ R.sg N F) N b st).2):=(show ∀b st,_ from fun b st=>z9_ (fun m d st=>QB_ F m d st) b st);unfold Vd_;dsimp only;have X:=h_ (fun(row:ON) (W:World) h=>YU_ R.U hi 0 (Qf_ st) row W h);generalize nmT R.sg (Qf_ st)=tx at X |-
    generalize nmS R.sg (Qf_ st)=an at X |-
    have HW:=h_ (fun(row:ON) (W:World) h=>Yc_ R.U hi 0 an row ⟨#[123]⟩ W h);generalize Qn_ R.sg an ⟨#[123]⟩=st2 at HW |-
    obtain⟨Q,hQ⟩:=ex_ (Zv_ R.sg (V6_ R.sg (Qd_ R.sg N F) N) N [] st2);rw[hQ];have HQ:=h_ hQ;obtain⟨T,hT⟩:=ex_ (Qn_ R.sg Q.2 ⟨#[125]⟩);rw[hT];have HT:=h_ hT;obtain⟨one,aL⟩:=ex_ (V6_ R.sg (Qd_ R.sg N F) N);rw[aL]at HQ ag a2 aS HO;obtain⟨ak,ah⟩:=ex_ (one false);rw[ah]at ag aS HO;have aH:Hid (Adv 0 0 (none:RdSt) none):=(Adv.refl none);have a6:Hid (Deep 0 st2):=QcJ_ _;clear hI g1 g2 B hQ hT aL ah HE;go_enter func52,ntmps52;go_wp2_with fail
    refine(T1.o _ D.o).mono ?_;rintro e w1 ⟨rfl,h1⟩;have O:=h_ (D.o.next h1);have V:=h_ (az.o.below h1);clear h1;go_wp2_with fail
    refine pst (T2.o row w1 O.o) V ?_;intro w2 row2 j p;have a8:=j;have be:=p;go_wp2_with fail
    refine pst (T3.o row2 w2 a8.o) be ?_;intro b0 aX a9 bf;go_wp2_with fail
    refine pst (X.o aX b0 a9.o) bf ?_;intro b1 aY ba bg;go_wp2_with fail
    refine pst (HW.o aY b1 ba.o) bg ?_;intro bB aZ bb aI;go_upto_region 9 with fail
    have aU:=aI.o.size;have H:=h_ ((Y3_ bB).more (B':=w.heap.size) oo);have o:=h_ (bb.o.res_new (A:=some ⟨bB.heap.size,0,none⟩) (br.alloc (lr_ _) (C_ #[] 3)) (fun g hg=>by simp at hg;subst hg;simp));have y:=h_ (aI.o.below (br.alloc (lr_ _) (C_ #[] 3)));go_loopw [6] (fun v wr=>∃(M:Nat) (ks:LI) (st':RdSt) (row':ON) (A:OA) (c:Nat),v=S_ A ks.length c/\Hid (Zv_ R.sg one M ks st'=Q)/\Hid (Adv 0 0 (none:RdSt) none)/\Hid (Deep 0 st')/\Hid (Enough R.n M st')/\Hid (KidB ks st')/\Hid (Mine wr w.heap.size 3 1 A ks.length c (Qa_ ks))/\Hid (RdI (R.res A) 0 st' row' wr)/\Hid (Kr R.T row w row' wr)) (fun _ wr=>Jn_ R wr)
    case atStart=>exact⟨N,[],st2,aZ,_,0,rfl,HQ,aH,a6,(show Enough _ _ _ from QP_ hN _),⟨by simp,fun s _=>by simp⟩,H,o,y⟩
    case round=>
     clear HQ aH o y H;obtain⟨M,ks,st',row',A,c,rfl,HQ,a4,a5,a7,bh,C,HI,HK⟩:=hrel;have bd:=HI
     cases st' with
     |none=>
      obtain⟨a,b,AN,cN,l,hc,hb,ai⟩:=HI.o;obtain⟨c1,c2,c3,cf,cz⟩:=hc.csu _ hi;obtain rfl:b=true:=hb;have I:=HQ.o;rw[Xx_]at I;subst I;have ht:=HT.o;rw[XB_]at ht;subst ht;clear hc ai c1 c3 HQ HT;have aO:=h_ HI.o.unres;have aR:=C;have aP:=HK;go_wp2_with fail
      refine(Yu_ R.U hi 0 none _ 21 tx A ks.length c ks w.heap.size _ aO.o aR.o aQ.o).mono ?_;rintro e w9 ⟨rfl,al,h9,k9⟩;go_wp2;go_ret;exact⟨rfl,al,h9,aP.o.trans k9⟩
     |some t=>
      obtain⟨M,rfl⟩:∃M',M=M'+1:=⟨M - 1,by
       have h1:=a7.o t rfl;have h2:=(HI.o.le rfl).1;have:(R.res A).n=R.n:=rfl;omega⟩
      obtain⟨a,b,AN,cN,l,hc,hb,ai⟩:=HI.o;obtain⟨c1,c2,c3,cf,cz⟩:=hc.csu _ hi;obtain⟨rfl,_,_⟩:=hb;have S:=h_ (X2_ _ hi 0 (some t) row' ⟨#[125]⟩ wr HI.o);have I:=HQ.o;unfold Zv_ at I;rw[in_ (show ¬(some t).isNone=true by simp)]at I;clear hc ai c1 c3 HQ;rcases bft (isM R.sg (some t) ⟨#[125]⟩)with hM|hM
      ·rw[ip_ hM]at I;subst I;have ht:=HT.o;rw[show Qn_ R.sg (ks,some t).2 ⟨#[125]⟩=Qf_ (some t)from Zr_ hM]at ht;subst ht;rw[hM,Qy_ hM]at S;clear hM HT;go_wp2_with fail
       refine S.o.mono ?_;rintro e w2 ⟨rfl,row2,h2,k2⟩;have G:=h_ (HI.o.keepI k2 C.o);have p:=h_ (HK.o.trans k2);replace C:=G;replace HK:=p;replace HI:=h_ h2;clear c2 cf cz h2 k2 G p;have aO:=h_ HI.o.unres;have aR:=C;have aP:=HK;go_wp2_with fail
       refine(Yu_ R.U hi 0 (Qf_ (some t)) _ 21 tx A ks.length c ks w.heap.size _ aO.o aR.o aQ.o).mono ?_;rintro e w9 ⟨rfl,al,h9,k9⟩;go_wp2;go_ret;exact⟨rfl,al,h9,aP.o.trans k9⟩
      ·rw[in_ (by rw[hM];decide)]at I;rw[hM,QD_ hM]at S;have X:=h_ (fun(row:ON) (W:World) h=>VO_ (R.res A) hi 0 t row W h);have aD:XI_ R.sg (some t) ks=((Qx_ R.sg (some t) 0).2.2.2&&decide (0 < ks.length)):=rfl;rw[aD]at I;have bp:(R.res A).sg=R.sg:=rfl;rw[bp]at X;generalize Qx_ R.sg (some t) 0=x at X I aD;obtain⟨xk,xt,xp,xz⟩:=x;dsimp only at X I aD;clear hM aD bp;have b2:=bh.o.2 t rfl;have b6:=(HI.o.le rfl).2;have b4:=bh.o.1;have f:=a2.o (xz&&decide (0 < ks.length)) (some t);rw[ag.o]at I f;have aF:=aS.o (some t);have HC:=h_ (fun(row:ON) (W:World) h=>HO.o (fun x=>R.U x\/A.map (·.block)=some x) t row W h a4.o a5.o);generalize ak (some t)=r at I f aF HC;obtain⟨kc,am⟩:=r;unfold Xa_ at I f;dsimp only at I f aF HC;have av:Hid (KidB (ks++[kc]) (Zs_ kc (xz&&decide (0 < ks.length)) am)):=(show KidB _ _ from⟨by rw[lA];simp;omega,fun t2 e=>by
        obtain⟨b7,e2,_,h3⟩:=f t2 e;obtain rfl:=oi_ e2;rw[lA];simp;omega⟩)
       have ax:Hid (Enough R.n M (Zs_ kc (xz&&decide (0 < ks.length)) am)):=a7.o.adv (i:=0) f;have a3:=a4;have ay:Hid (Deep (0) (Zs_ kc (xz&&decide (0 < ks.length)) am)):=a5.o.adv f;have aE:(ks++[kc]).length=ks.length+1:=sm_;have aA:=h_ I;have Y:=h_ f;clear I f
       cases xz with
       |false=>
        rw[Bool.false_and]at av ax ay aA Y;go_wp2_with fail
        refine S.o.mono ?_;rintro e w2 ⟨rfl,row2,h2,k2⟩;have j:=h_ h2;have G:=h_ (HI.o.keepI k2 C.o);have p:=h_ (HK.o.trans k2);clear c2 cf cz h2 k2 S;go_wp2_with fail
        refine(X.o _ _ j.o).mono ?_;rintro e w3 ⟨rfl,B⟩;have o:=h_ (j.o.next B);have H:=h_ (G.o.next B);have y:=h_ (p.o.below B);clear B X j G p;go_wp2_with fail
        refine(HC.o _ _ o.o).mono ?_;rintro e w4 ⟨rfl,K,h4,k4⟩;have ae:=h_ (o.o.keepI k4 H.o);have z:=h_ h4;have E:=h_ (y.o.trans k4);clear h4 k4 o H y;have L:=h_ (Ze_ (R.res A) hi 0 am K kc aF false w4 z.o);unfold QA_ at L;go_wp2_with fail
        refine L.o.mono ?_;rintro e w5 ⟨rfl,Z,h5,k5⟩;have C:=h_ (z.o.keepI k5 ae.o);have aa:=h_ h5;have ac:=h_ (E.o.trans k5);clear h5 k5 z ae E L;go_wp2_with (at_builtin;refine KA_ (.tmp 55) (.tmp 57) aa ac C aM rfl rfl rfl rfl oo ?_;intro A6 c6 w6 P ad af)
        replace C:=af;clear af;go_wp2;go_roundw
        case rel=>exact⟨M,ks++[kc],_,Z,A6,c6,by rw[aE],aA,a3,ay,ax,av,by rw[aE];exact C,P,ad⟩
        case measure=>exact ZG_ hi bd.o P.o (Y.o.weak (i':=1) (j':=0) oo oo)
       |true=>
        rw[Bool.true_and]at av ax ay aA Y;go_wp2_with fail
        refine S.o.mono ?_;rintro e w2 ⟨rfl,row2,h2,k2⟩;have j:=h_ h2;have G:=h_ (HI.o.keepI k2 C.o);have p:=h_ (HK.o.trans k2);clear c2 cf cz h2 k2 S;go_wp2_with fail
        refine(X.o _ _ j.o).mono ?_;rintro e w3 ⟨rfl,B⟩;have o:=h_ (j.o.next B);have H:=h_ (G.o.next B);have y:=h_ (p.o.below B);clear B X j G p;go_wp2_with fail
        refine(HC.o _ _ o.o).mono ?_;rintro e w4 ⟨rfl,K,h4,k4⟩;have ae:=h_ (o.o.keepI k4 H.o);have z:=h_ h4;have E:=h_ (y.o.trans k4);clear h4 k4 o H y;have L:=h_ (Ze_ (R.res A) hi 0 am K kc aF (decide (0 < ks.length)) w4 z.o);unfold QA_ at L;go_wp2_with fail
        refine L.o.mono ?_;rintro e w5 ⟨rfl,Z,h5,k5⟩;have C:=h_ (z.o.keepI k5 ae.o);have aa:=h_ h5;have ac:=h_ (E.o.trans k5);clear h5 k5 z ae E L;go_wp2_with (at_builtin;refine KA_ (.tmp 55) (.tmp 57) aa ac C aM rfl rfl rfl rfl oo ?_;intro A6 c6 w6 P ad af)
        replace C:=af;clear af;go_wp2;go_roundw
        case rel=>exact⟨M,ks++[kc],_,Z,A6,c6,by rw[aE],aA,a3,ay,ax,av,by rw[aE];exact C,P,ad⟩
        case measure=>exact ZG_ hi bd.o P.o (Y.o.weak (i':=1) (j':=0) oo oo)
   ·rw[in_ (by rw[B];decide)];rw[B,Zp_ B]at T3;unfold VU_;dsimp only;have X:=h_ (fun(row:ON) (W:World) h=>YU_ R.U hi 0 st row W h);generalize nmT R.sg st=tx at X |-
    generalize nmS R.sg st=an at X |-
    have HL:=h_ (fun(row:ON) (W:World) h=>Wn_ R hi 0 N an row W h hN);generalize QG_ R.sg (Qj_ R.sg) ⟨#[41]⟩ N [] (Qn_ R.sg an ⟨#[40]⟩)=q at HL |-
    obtain⟨ks,bA⟩:=q;dsimp only at HL |-
    have HV:=h_ (fun(U:Nat->Prop) (row:ON) (W:World) h=>HE.block U 0 (Qn_ R.sg bA ⟨#[41]⟩) row W h (UI_ hF _ oo) oo (QcJ_ _));unfold PosS at HV;generalize Qd_ R.sg N F .block 0 (Qn_ R.sg bA ⟨#[41]⟩)=r at HV |-
    obtain⟨k,st2⟩:=r;dsimp only at HV |-
    clear hI g1 g2 B;go_enter func52,ntmps52;go_wp2_with fail
    refine(T1.o _ D.o).mono ?_;rintro e w1 ⟨rfl,h1⟩;have O:=h_ (D.o.next h1);have V:=h_ (az.o.below h1);clear h1;go_wp2_with fail
    refine pst (T2.o row w1 O.o) V ?_;intro w2 row2 j p;go_wp2_with fail
    refine pst (T3.o row2 w2 j.o) p ?_;intro w3 J o y;go_wp2_with fail
    refine pst (X.o J w3 o.o) y ?_;intro w4 K z E;go_wp2_with fail
    refine(HL.o K w4 z.o).mono ?_;rintro e w5 ⟨A,n,c,rfl,rfl,m5,b5,Z,h5,k5⟩;have bX:=E.o.size;have bj:=h_ (m5.more (B':=w.heap.size) bX);have aa:=h_ h5;have ac:=h_ (E.o.trans k5);clear h5 k5 m5 HL;go_wp2_with fail
    refine(HV.o _ _ _ aa.o).mono ?_;rintro e w6 ⟨rfl,bx,h6,k6⟩;have C:=h_ (aa.o.keepI k6 bj.o);have P:=h_ h6;have ad:=h_ (ac.o.trans k6);clear h6 k6 HV bj;go_wp2_with (at_builtin;refine KA_ (.tmp 67) (.tmp 70) P ad C aM rfl rfl rfl rfl oo ?_;intro A7 c7 w7 bM bN bk)
    replace C:=bk;clear bk;have bc:=h_ bM.o.unres;go_wp2_with fail
    refine(Yu_ R.U hi 0 st2 bx 20 tx A7 (ks.length+1) c7 (ks++[k]) w.heap.size w7 bc.o C.o aQ.o).mono ?_;rintro e w8 ⟨rfl,bz,h8,k8⟩;go_wp2;go_ret;exact⟨rfl,bz,h8,bN.o.trans k8⟩
end Go.Proofs.YtbiijipkgfpgoaaGreatDoor

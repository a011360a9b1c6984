/-
  Put together by program (shake.py):SpaP,SpaQ.
-/
import Derived.Test.YtgbikafalcbibaaGreatDoorMaR
set_option maxRecDepth 100000
set_option linter.all false
set_option maxHeartbeats 25600000
open Go.Lib (hid)
open Go.Proofs.Tryz
namespace Go.Proofs.YtgbikafalcbibaaGreatDoor
open Go.RowKit
theorem Qeo_ {R:RC} {d:Nat} {st:RdSt} {row:ON} {w:World} (hi:R.imp=false) (h:RdI R d st row w) (hd:d < 20):
  RdI R (d+1) (Ks_ d st) row (w.setCell ⟨R.T,3,none⟩ (.int .i64 ((d:Int)+1)))/\Kr R.T row w row (w.setCell ⟨R.T,3,none⟩ (.int .i64 ((d:Int)+1))):=by
 obtain⟨a,b,AN,cN,l,hc,e,c⟩:=h;unfold Ks_;rw[if_neg oo];exact RdI.snest1 hi hc e c oo
theorem QcG_ {R:RC} {d:Nat} {st:RdSt} {row:ON} {w:World} (hi:R.imp=false) (h:RdI R d st row w):
  RdI R (d+1) none row ((w.setCell ⟨R.T,3,none⟩ (.int .i64 ((d:Int)+1))).setCell ⟨R.T,2,none⟩ (.bool true))/\Kr R.T row w row ((w.setCell ⟨R.T,3,none⟩ (.int .i64 ((d:Int)+1))).setCell ⟨R.T,2,none⟩ (.bool true)):=by
 obtain⟨a,b,AN,cN,l,hc,g,e⟩:=h;have hF:=RdI.snest1 hi hc g e (u:=(d:Int)+1) (d':=d+1) oo;obtain⟨a',b',j,k,l',f,i,c⟩:=hF.1;have hG:=RdI.sbad1 hi f c;exact⟨hG.1,hF.2.trans hG.2⟩
theorem QcH_ {sg:List SgP} (d:Nat) (st:RdSt) (m:BA):Qk_ sg (Ks_ d st) m=Ks_ d (Qk_ sg st m):=by
 unfold Ks_;by_cases h:d=20
 ·rw[if_pos h,if_pos h,Xv_]
 ·rw[if_neg h,if_neg h]
theorem YV_ (st:RdSt) (x:PN):0<=(KC_ st x).1:=by
 unfold KC_;split
 ·exact Int.le_refl _
 ·split
  ·exact Int.le_refl _
  ·exact Int.natCast_nonneg _
section
variable {sg:List SgP} {E:Md->Nat->RdSt->PR} {N:Nat}
theorem js_ (b:Bool) (st:RdSt):0<=(Xj_ sg b st).1:=YV_ _ _
theorem Qdv_ (d:Nat) (b:Bool) (st:RdSt):0<=(Ji_ sg E d b st).1:=by
 unfold Ji_;split
 ·exact YV_ _ _
 ·exact YV_ _ _
theorem Qgn_ (d:Nat) (b:Bool) (st:RdSt):0<=(ZH_ sg E d b st).1:=by
 unfold ZH_;split
 ·exact js_ _ _
 ·split
  ·exact Qdv_ _ _ _
  ·split
   ·unfold Yk_;split<;>exact YV_ _ _
   ·split
    ·unfold ifS;dsimp only;split<;>exact YV_ _ _
    ·split
     ·exact YV_ _ _
     ·split
      ·exact YV_ _ _
      ·exact YV_ _ _
theorem Qfl_ (f d:Nat) (b:Bool) (st:RdSt):0<=(Qd_ sg N f (.stmt b) d st).1:=by
 cases f with
 |zero=>exact Int.le_refl _
 |succ f=>exact Qgn_ d b st
theorem Qg0_ (b:Bool) (st:RdSt):0<=(VS_ sg E N b st).1:=by
 unfold VS_;split
 ·exact js_ _ _
 ·split
  ·exact Qdv_ _ _ _
  ·exact YV_ _ _
theorem Qhm_ (b:Bool) (st:RdSt):0<=(YU_ sg E N b st).1:=by
 unfold YU_;split
 ·exact js_ _ _
 ·split
  ·exact Qdv_ _ _ _
  ·split
   ·exact YV_ _ _
   ·exact YV_ _ _
end
theorem jA_ (R:RC) (hi:R.imp=false) (N f:Nat) (hN:R.n < N) (HE:SC R N f) (d:Nat) (st:RdSt) (row:ON) (w:World) (hI:RdI R d st row w) (hn:Need R.n st 13 (f+1)) (hd:d+(f+1)<=100000) (bv:Deep d st):
  Calls prog 78 #[.pointer (some ⟨R.T,0,none⟩)] w (Does R d row w (.int .i64 (Ya_ R.sg (Qd_ R.sg N f) N d st).1) (Ya_ R.sg (Qd_ R.sg N f) N d st).2):=by
 obtain⟨i0,bA,bC,a9,ba⟩:=info_parts QB_;have bY:=hid (And.intro bA (And.intro bC (And.intro a9 ba)));clear bA bC a9 ba;have bX:=hid hI;have bq:=hid (Kr.refl R.T row w);have a7:=hid hI.lo;have a5:=hid hI.lo.1;have bV:=hI.ok.len;have HO:Hid (∀(U:Nat->Prop) (t:PS) (row:ON) (w:World),RdI { R with U:=U } (d+1) (some t) row w->Adv 1 0 st (some t)->Deep (d+1) (some t)->Calls prog 106 #[.pointer (some ⟨R.T,0,none⟩)] w (fun e w'=>e=.returned (.int .i64 (Qd_ R.sg N f (.stmt false) (d+1) (some t)).1)/\∃row',RdI { R with U:=U } (d+1) (Qd_ R.sg N f (.stmt false) (d+1) (some t)).2 row' w'/\Kr R.T row w row' w')):=(show ∀U t row w,_->_->_->_ from fun U t row w h ha bO=>HE.step U (d+1) (some t) row w h (by
  obtain⟨s,rfl,h1,_⟩:=ha t rfl;have h2:=(h.le rfl).1;have h3:({ R with U:=U }:RC).n=R.n:=rfl;exact hn.next oo (ha.weak (i':=0+1) (j':=0) oo oo) oo) oo bO)
 have ac:Hid (∀b st,Qd_ R.sg N f (.stmt b) (d+1) st=Z8_ b (Qd_ R.sg N f (.stmt false) (d+1) st)):=(show ∀b st,_ from fun b st=>Qab_ f (d+1) b st);have bg:Hid (∀st,0<=(Qd_ R.sg N f (.stmt false) (d+1) st).1):=(show ∀st,_ from fun st=>Qfl_ f (d+1) false st);have aK:Hid (∀b st,Adv 1 1 st (Qd_ R.sg N f (.stmt b) (d+1) st).2):=(show ∀b st,_ from fun b st=>Qy_ f (.stmt b) (d+1) st);unfold Does Ya_;dsimp only;rw[QcH_];have aY:=(Qo_ (sg:=R.sg) st ⟨#[123]⟩);have aE:=bv.adv aY;have bc:=Xn_ d (Qk_ R.sg st ⟨#[123]⟩);obtain⟨Q,hQ⟩:=ex_ (Zo_ R.sg (fun b=>Qd_ R.sg N f (.stmt b) (d+1)) N [] (Ks_ d (Qk_ R.sg st ⟨#[123]⟩)));rw[hQ];have HQ:=hid hQ;obtain⟨T,hT⟩:=ex_ (Qk_ R.sg Q.2 ⟨#[125]⟩);rw[hT];have HT:=hid hT;have ab:Hid (Adv 1 0 st (Ks_ d (Qk_ R.sg st ⟨#[123]⟩))):=(aY.trans bc).weak oo oo;have aD:Hid (Deep (d+1) (Ks_ d (Qk_ R.sg st ⟨#[123]⟩))):=aE.nest;obtain⟨one,aF⟩:=ex_ (fun b=>Qd_ R.sg N f (.stmt b) (d+1));have bo:Hid (∀b st,Adv 1 1 st (one b st).2):=(show ∀b st,_ by rw[<-aF];exact aK.o);have aS:Hid (∀b st,one b st=Z8_ b (Qd_ R.sg N f (.stmt false) (d+1) st)):=(show ∀b st,_ by rw[<-aF];exact ac.o);rw[aF]at HQ;clear aF ac aK;have ac:=aS;have aK:=bo;clear aS bo;generalize Qd_ R.sg N f (.stmt false) (d+1)=be at HO ac bg;have a8:=hid (KA_ R hi d st row ⟨#[123]⟩ w hI);unfold Does at a8;generalize Qk_ R.sg st ⟨#[123]⟩=bD at HQ ab aD a8 aE;have bd:20<=d->Ks_ d bD=none:=fun h=>by
  cases bD with
  |none=>exact GD_ d
  |some s1=>have:=aE s1 rfl;exact if_pos oo
 have bp:=hid bd;have bZ:IntKind.i64.wrap ((d:Int)+1)=(d:Int)+1:=IntWalk.i64_in _ oo;clear hI hn aY hQ hT bc aE bv bd;rcases Nat.lt_or_ge d 20 with bk|bj
 ·have a0:¬(20:Int) < (d:Int)+1:=oo;have bz:decide ((20:Int) < (d:Int)+1)=false:=decide_eq_false a0;go_enter func78,ntmps78;go_wp2_with fail
  refine pst (a8.o) bq ?_;intro w1 a4 aO aQ;have a9:=aQ.o.size;obtain⟨a,b,AN,cN,l,hc,hb,z⟩:=id aO.o;obtain⟨c0,c1,c2,c3,c4,cf,cz⟩:=hc.cs hi;have ap:=hid (Qeo_ hi aO.o bk);clear hc hb z c0 c1 c4;go_upto_region 6 with fail
  have n:=hid ap.o.1;have k:=hid (aQ.o.trans ap.o.2);clear c2 c3 cf cz ap;generalize hW:w1.setCell ⟨R.T,3,none⟩ (.int .i64 ((d:Int)+1))=W2 at n k |-
  have a2:W2.heap.size=w1.heap.size:=by rw[<-hW];simp[World.setCell]
  clear hW;have ba:=k.o.size;have o:=hid ((q5_ W2).more (B':=w.heap.size) oo);have m:=hid (n.o.res_new (A:=some ⟨W2.heap.size,0,none⟩) (br.alloc (Nat.le_refl _) (.cells #[] 3)) (fun g hg=>by simp at hg;subst hg;simp));have p:=hid (k.o.below (br.alloc (Nat.le_refl _) (.cells #[] 3)));rw[a2]at o m;clear a2;go_loopw [3] (fun v wr=>∃(M:Nat) (ks:LI) (st':RdSt) (row':ON) (A:OA) (c:Nat),v=.slice A ks.length c/\Hid (Zo_ R.sg one M ks st'=Q)/\Hid (Adv 1 0 st st')/\Hid (Deep (d+1) st')/\Hid (Enough R.n M st')/\Hid (KidB ks st')/\Hid (Mine wr w.heap.size 3 1 A ks.length c (Qa_ ks))/\Hid (RdI (R.res A) (d+1) st' row' wr)/\Hid (Kr R.T row w row' wr)) (fun _ wr=>V9_ R wr)
  case atStart=>exact⟨N,[],_,a4,_,0,rfl,HQ,ab,aD,(show Enough _ _ _ from QL_ hN _),⟨by simp,fun s _=>by simp⟩,o,m,p⟩
  case round=>
   clear HQ ab m p o;obtain⟨M,ks,st',row',A,c,rfl,HQ,aL,aM,aN,aR,H,G,HK⟩:=hrel;have aP:=G
   cases st' with
   |none=>
    obtain⟨a,b,AN,cN,l,hc,hb,z⟩:=G.o;obtain⟨c1,c2,c3,cf,cz⟩:=hc.csu _ hi;obtain rfl:b=true:=hb;have y:=HQ.o;rw[Xs_]at y;subst y;have ht:=HT.o;rw[Xv_]at ht;subst ht;clear hc z c1 c3 HQ HT;obtain⟨d3,df,dz,P,E⟩:=Jb_ hi G.o;have az:=hid (G.o.keepI E H.o);have aq:=hid P.unres;have ay:=hid (HK.o.trans E);clear P E;go_wp2_with fail
    refine(Ym_ R.U hi d none _ 18 noT A ks.length c ks w.heap.size _ aq.o az.o a7.o).mono ?_;rintro e w9 ⟨rfl,Y,h9,k9⟩;go_wp2;go_ret;exact⟨rfl,Y,h9,ay.o.trans k9⟩
   |some t=>
    obtain⟨M,rfl⟩:∃M',M=M'+1:=⟨M - 1,by
     have h1:=aN.o t rfl;have h2:=(G.o.le rfl).1;have:(R.res A).n=R.n:=rfl;omega⟩
    obtain⟨a,b,AN,cN,l,hc,hb,z⟩:=G.o;obtain⟨c1,c2,c3,cf,cz⟩:=hc.csu _ hi;obtain⟨rfl,_,_⟩:=hb;have D:=hid (XX_ _ hi (d+1) (some t) row' ⟨#[125]⟩ wr G.o);have y:=HQ.o;unfold Zo_ at y;rw[if_neg (show ¬(some t).isNone=true by simp)]at y;clear hc z c1 c3 HQ;rcases bft (isM R.sg (some t) ⟨#[125]⟩)with Z|Z
    ·rw[if_pos Z]at y;subst y;have ht:=HT.o;rw[show Qk_ R.sg (ks,some t).2 ⟨#[125]⟩=Qe_ (some t)from Zk_ Z]at ht;subst ht;rw[Z,Qv_ Z]at D;clear Z HT;go_wp2_with fail
     refine D.o.mono ?_;rintro e w2 ⟨rfl,row2,h2,S⟩;have q:=hid (G.o.keepI S H.o);have k:=hid (HK.o.trans S);replace H:=q;replace HK:=k;replace G:=hid h2;clear c2 cf cz h2 S q k;obtain⟨d3,df,dz,P,E⟩:=Jb_ hi G.o;have az:=hid (G.o.keepI E H.o);have aq:=hid P.unres;have ay:=hid (HK.o.trans E);clear P E;go_wp2_with fail
     refine(Ym_ R.U hi d (Qe_ (some t)) _ 18 noT A ks.length c ks w.heap.size _ aq.o az.o a7.o).mono ?_;rintro e w9 ⟨rfl,Y,h9,k9⟩;go_wp2;go_ret;exact⟨rfl,Y,h9,ay.o.trans k9⟩
    ·rw[if_neg (by rw[Z];decide)]at y;rw[Z,QC_ Z]at D;have HX:=hid (fun(row:ON) (W:World) h=>VA_ (R.res A) hi (d+1) t row W h);have ak:XE_ R.sg (some t) ks=((Qu_ R.sg (some t) 0).2.2.2&&decide (0 < ks.length)):=rfl;rw[ak]at y;have a1:(R.res A).sg=R.sg:=rfl;rw[a1]at HX;generalize Qu_ R.sg (some t) 0=x at HX y ak;obtain⟨xk,xt,xp,xz⟩:=x;dsimp only at HX y ak;clear Z ak a1;have bB:=aR.o.2 t rfl;have bQ:=(G.o.le rfl).2;have bP:=aR.o.1;have j:=aK.o (xz&&decide (0 < ks.length)) (some t);rw[ac.o]at y j;have am:=bg.o (some t);have HC:=hid (fun(row:ON) (W:World) h=>HO.o (fun x=>R.U x\/A.map (·.block)=some x) t row W h aL.o aM.o);generalize be (some t)=r at y j am HC;obtain⟨kc,I⟩:=r;unfold Z8_ at y j;dsimp only at y j am HC;have af:Hid (KidB (ks++[kc]) (Zl_ kc (xz&&decide (0 < ks.length)) I)):=(show KidB _ _ from⟨by rw[lA];simp;omega,fun t2 e=>by
      obtain⟨bR,e2,_,h3⟩:=j t2 e;obtain rfl:=Option.some.inj e2;rw[lA];simp;omega⟩)
     have ag:Hid (Enough R.n M (Zl_ kc (xz&&decide (0 < ks.length)) I)):=aN.o.adv (i:=0) j;have ae:Hid (Adv 1 0 st (Zl_ kc (xz&&decide (0 < ks.length)) I)):=(aL.o.trans j).weak oo oo;have ah:Hid (Deep ((d+1)) (Zl_ kc (xz&&decide (0 < ks.length)) I)):=aM.o.adv j;have al:(ks++[kc]).length=ks.length+1:=(by simp);have ai:=hid y;have F:=hid j;clear y j
     cases xz with
     |false=>
      rw[Bool.false_and]at af ag ae ah ai F;go_wp2_with fail
      refine D.o.mono ?_;rintro e w2 ⟨rfl,row2,h2,S⟩;have n:=hid h2;have q:=hid (G.o.keepI S H.o);have k:=hid (HK.o.trans S);clear c2 cf cz h2 S D;go_wp2_with fail
      refine(HX.o _ _ n.o).mono ?_;rintro e w3 ⟨rfl,g3⟩;have m:=hid (n.o.next g3);have o:=hid (q.o.next g3);have p:=hid (k.o.below g3);clear g3 HX n q k;go_wp2_with fail
      refine(HC.o _ _ m.o).mono ?_;rintro e w4 ⟨rfl,V,h4,k4⟩;have L:=hid (m.o.keepI k4 o.o);have C:=hid h4;have K:=hid (p.o.trans k4);clear h4 k4 m o p;have B:=hid (K4_ (R.res A) hi (d+1) I V kc am false w4 C.o);unfold Does at B;go_wp2_with fail
      refine B.o.mono ?_;rintro e w5 ⟨rfl,X,h5,k5⟩;have H:=hid (C.o.keepI k5 L.o);have ar:=hid h5;have av:=hid (K.o.trans k5);clear h5 k5 C L K B;go_wp2_with (at_builtin;refine Kn_ (.tmp 48) (.tmp 50) ar av H a5 rfl rfl rfl rfl oo ?_;intro A6 c6 w6 J ax O)
      replace H:=O;clear O;go_wp2;go_roundw
      case rel=>exact⟨M,ks++[kc],_,X,A6,c6,by rw[al],ai,ae,ah,ag,af,by rw[al];exact H,J,ax⟩
      case measure=>exact ZA_ hi aP.o J.o (F.o.weak (i':=1) (j':=0) oo oo)
     |true=>
      rw[Bool.true_and]at af ag ae ah ai F;go_wp2_with fail
      refine D.o.mono ?_;rintro e w2 ⟨rfl,row2,h2,S⟩;have n:=hid h2;have q:=hid (G.o.keepI S H.o);have k:=hid (HK.o.trans S);clear c2 cf cz h2 S D;go_wp2_with fail
      refine(HX.o _ _ n.o).mono ?_;rintro e w3 ⟨rfl,g3⟩;have m:=hid (n.o.next g3);have o:=hid (q.o.next g3);have p:=hid (k.o.below g3);clear g3 HX n q k;go_wp2_with fail
      refine(HC.o _ _ m.o).mono ?_;rintro e w4 ⟨rfl,V,h4,k4⟩;have L:=hid (m.o.keepI k4 o.o);have C:=hid h4;have K:=hid (p.o.trans k4);clear h4 k4 m o p;have B:=hid (K4_ (R.res A) hi (d+1) I V kc am (decide (0 < ks.length)) w4 C.o);unfold Does at B;go_wp2_with fail
      refine B.o.mono ?_;rintro e w5 ⟨rfl,X,h5,k5⟩;have H:=hid (C.o.keepI k5 L.o);have ar:=hid h5;have av:=hid (K.o.trans k5);clear h5 k5 C L K B;go_wp2_with (at_builtin;refine Kn_ (.tmp 48) (.tmp 50) ar av H a5 rfl rfl rfl rfl oo ?_;intro A6 c6 w6 J ax O)
      replace H:=O;clear O;go_wp2;go_roundw
      case rel=>exact⟨M,ks++[kc],_,X,A6,c6,by rw[al],ai,ae,ah,ag,af,by rw[al];exact H,J,ax⟩
      case measure=>exact ZA_ hi aP.o J.o (F.o.weak (i':=1) (j':=0) oo oo)
 ·have a0:(20:Int) < (d:Int)+1:=oo;have bz:decide ((20:Int) < (d:Int)+1)=true:=decide_eq_true a0;have bN:=bp.o bj;rw[bN]at HQ ab aD;go_enter func78,ntmps78;go_wp2_with fail
  refine pst (a8.o) bq ?_;intro w1 a4 aO aQ;have a9:=aQ.o.size;obtain⟨a,b,AN,cN,l,hc,hb,z⟩:=id aO.o;obtain⟨c0,c1,c2,c3,c4,cf,cz⟩:=hc.cs hi;have ap:=hid (QcG_ hi aO.o);clear hc hb z c0 c1 c4;go_upto_region 6 with fail
  have n:=hid ap.o.1;have k:=hid (aQ.o.trans ap.o.2);clear c2 c3 cf cz ap;generalize hW:(w1.setCell ⟨R.T,3,none⟩ (.int .i64 ((d:Int)+1))).setCell ⟨R.T,2,none⟩ (.bool true)=W2 at n k |-
  have a2:W2.heap.size=w1.heap.size:=by rw[<-hW];simp[World.setCell]
  clear hW;have ba:=k.o.size;have o:=hid ((q5_ W2).more (B':=w.heap.size) oo);have m:=hid (n.o.res_new (A:=some ⟨W2.heap.size,0,none⟩) (br.alloc (Nat.le_refl _) (.cells #[] 3)) (fun g hg=>by simp at hg;subst hg;simp));have p:=hid (k.o.below (br.alloc (Nat.le_refl _) (.cells #[] 3)));rw[a2]at o m;clear a2;go_loopw [3] (fun v wr=>∃(M:Nat) (ks:LI) (st':RdSt) (row':ON) (A:OA) (c:Nat),v=.slice A ks.length c/\Hid (Zo_ R.sg one M ks st'=Q)/\Hid (Adv 1 0 st st')/\Hid (Deep (d+1) st')/\Hid (Enough R.n M st')/\Hid (KidB ks st')/\Hid (Mine wr w.heap.size 3 1 A ks.length c (Qa_ ks))/\Hid (RdI (R.res A) (d+1) st' row' wr)/\Hid (Kr R.T row w row' wr)) (fun _ wr=>V9_ R wr)
  case atStart=>exact⟨N,[],_,a4,_,0,rfl,HQ,ab,aD,(show Enough _ _ _ from QL_ hN _),⟨by simp,fun s _=>by simp⟩,o,m,p⟩
  case round=>
   clear HQ ab m p o;obtain⟨M,ks,st',row',A,c,rfl,HQ,aL,aM,aN,aR,H,G,HK⟩:=hrel;have aP:=G
   cases st' with
   |none=>
    obtain⟨a,b,AN,cN,l,hc,hb,z⟩:=G.o;obtain⟨c1,c2,c3,cf,cz⟩:=hc.csu _ hi;obtain rfl:b=true:=hb;have y:=HQ.o;rw[Xs_]at y;subst y;have ht:=HT.o;rw[Xv_]at ht;subst ht;clear hc z c1 c3 HQ HT;obtain⟨d3,df,dz,P,E⟩:=Jb_ hi G.o;have az:=hid (G.o.keepI E H.o);have aq:=hid P.unres;have ay:=hid (HK.o.trans E);clear P E;go_wp2_with fail
    refine(Ym_ R.U hi d none _ 18 noT A ks.length c ks w.heap.size _ aq.o az.o a7.o).mono ?_;rintro e w9 ⟨rfl,Y,h9,k9⟩;go_wp2;go_ret;exact⟨rfl,Y,h9,ay.o.trans k9⟩
   |some t=>
    obtain⟨M,rfl⟩:∃M',M=M'+1:=⟨M - 1,by
     have h1:=aN.o t rfl;have h2:=(G.o.le rfl).1;have:(R.res A).n=R.n:=rfl;omega⟩
    obtain⟨a,b,AN,cN,l,hc,hb,z⟩:=G.o;obtain⟨c1,c2,c3,cf,cz⟩:=hc.csu _ hi;obtain⟨rfl,_,_⟩:=hb;have D:=hid (XX_ _ hi (d+1) (some t) row' ⟨#[125]⟩ wr G.o);have y:=HQ.o;unfold Zo_ at y;rw[if_neg (show ¬(some t).isNone=true by simp)]at y;clear hc z c1 c3 HQ;rcases bft (isM R.sg (some t) ⟨#[125]⟩)with Z|Z
    ·rw[if_pos Z]at y;subst y;have ht:=HT.o;rw[show Qk_ R.sg (ks,some t).2 ⟨#[125]⟩=Qe_ (some t)from Zk_ Z]at ht;subst ht;rw[Z,Qv_ Z]at D;clear Z HT;go_wp2_with fail
     refine D.o.mono ?_;rintro e w2 ⟨rfl,row2,h2,S⟩;have q:=hid (G.o.keepI S H.o);have k:=hid (HK.o.trans S);replace H:=q;replace HK:=k;replace G:=hid h2;clear c2 cf cz h2 S q k;obtain⟨d3,df,dz,P,E⟩:=Jb_ hi G.o;have az:=hid (G.o.keepI E H.o);have aq:=hid P.unres;have ay:=hid (HK.o.trans E);clear P E;go_wp2_with fail
     refine(Ym_ R.U hi d (Qe_ (some t)) _ 18 noT A ks.length c ks w.heap.size _ aq.o az.o a7.o).mono ?_;rintro e w9 ⟨rfl,Y,h9,k9⟩;go_wp2;go_ret;exact⟨rfl,Y,h9,ay.o.trans k9⟩
    ·rw[if_neg (by rw[Z];decide)]at y;rw[Z,QC_ Z]at D;have HX:=hid (fun(row:ON) (W:World) h=>VA_ (R.res A) hi (d+1) t row W h);have ak:XE_ R.sg (some t) ks=((Qu_ R.sg (some t) 0).2.2.2&&decide (0 < ks.length)):=rfl;rw[ak]at y;have a1:(R.res A).sg=R.sg:=rfl;rw[a1]at HX;generalize Qu_ R.sg (some t) 0=x at HX y ak;obtain⟨xk,xt,xp,xz⟩:=x;dsimp only at HX y ak;clear Z ak a1;have bB:=aR.o.2 t rfl;have bQ:=(G.o.le rfl).2;have bP:=aR.o.1;have j:=aK.o (xz&&decide (0 < ks.length)) (some t);rw[ac.o]at y j;have am:=bg.o (some t);have HC:=hid (fun(row:ON) (W:World) h=>HO.o (fun x=>R.U x\/A.map (·.block)=some x) t row W h aL.o aM.o);generalize be (some t)=r at y j am HC;obtain⟨kc,I⟩:=r;unfold Z8_ at y j;dsimp only at y j am HC;have af:Hid (KidB (ks++[kc]) (Zl_ kc (xz&&decide (0 < ks.length)) I)):=(show KidB _ _ from⟨by rw[lA];simp;omega,fun t2 e=>by
      obtain⟨bR,e2,_,h3⟩:=j t2 e;obtain rfl:=Option.some.inj e2;rw[lA];simp;omega⟩)
     have ag:Hid (Enough R.n M (Zl_ kc (xz&&decide (0 < ks.length)) I)):=aN.o.adv (i:=0) j;have ae:Hid (Adv 1 0 st (Zl_ kc (xz&&decide (0 < ks.length)) I)):=(aL.o.trans j).weak oo oo;have ah:Hid (Deep ((d+1)) (Zl_ kc (xz&&decide (0 < ks.length)) I)):=aM.o.adv j;have al:(ks++[kc]).length=ks.length+1:=(by simp);have ai:=hid y;have F:=hid j;clear y j
     cases xz with
     |false=>
      rw[Bool.false_and]at af ag ae ah ai F;go_wp2_with fail
      refine D.o.mono ?_;rintro e w2 ⟨rfl,row2,h2,S⟩;have n:=hid h2;have q:=hid (G.o.keepI S H.o);have k:=hid (HK.o.trans S);clear c2 cf cz h2 S D;go_wp2_with fail
      refine(HX.o _ _ n.o).mono ?_;rintro e w3 ⟨rfl,g3⟩;have m:=hid (n.o.next g3);have o:=hid (q.o.next g3);have p:=hid (k.o.below g3);clear g3 HX n q k;go_wp2_with fail
      refine(HC.o _ _ m.o).mono ?_;rintro e w4 ⟨rfl,V,h4,k4⟩;have L:=hid (m.o.keepI k4 o.o);have C:=hid h4;have K:=hid (p.o.trans k4);clear h4 k4 m o p;have B:=hid (K4_ (R.res A) hi (d+1) I V kc am false w4 C.o);unfold Does at B;go_wp2_with fail
      refine B.o.mono ?_;rintro e w5 ⟨rfl,X,h5,k5⟩;have H:=hid (C.o.keepI k5 L.o);have ar:=hid h5;have av:=hid (K.o.trans k5);clear h5 k5 C L K B;go_wp2_with (at_builtin;refine Kn_ (.tmp 48) (.tmp 50) ar av H a5 rfl rfl rfl rfl oo ?_;intro A6 c6 w6 J ax O)
      replace H:=O;clear O;go_wp2;go_roundw
      case rel=>exact⟨M,ks++[kc],_,X,A6,c6,by rw[al],ai,ae,ah,ag,af,by rw[al];exact H,J,ax⟩
      case measure=>exact ZA_ hi aP.o J.o (F.o.weak (i':=1) (j':=0) oo oo)
     |true=>
      rw[Bool.true_and]at af ag ae ah ai F;go_wp2_with fail
      refine D.o.mono ?_;rintro e w2 ⟨rfl,row2,h2,S⟩;have n:=hid h2;have q:=hid (G.o.keepI S H.o);have k:=hid (HK.o.trans S);clear c2 cf cz h2 S D;go_wp2_with fail
      refine(HX.o _ _ n.o).mono ?_;rintro e w3 ⟨rfl,g3⟩;have m:=hid (n.o.next g3);have o:=hid (q.o.next g3);have p:=hid (k.o.below g3);clear g3 HX n q k;go_wp2_with fail
      refine(HC.o _ _ m.o).mono ?_;rintro e w4 ⟨rfl,V,h4,k4⟩;have L:=hid (m.o.keepI k4 o.o);have C:=hid h4;have K:=hid (p.o.trans k4);clear h4 k4 m o p;have B:=hid (K4_ (R.res A) hi (d+1) I V kc am (decide (0 < ks.length)) w4 C.o);unfold Does at B;go_wp2_with fail
      refine B.o.mono ?_;rintro e w5 ⟨rfl,X,h5,k5⟩;have H:=hid (C.o.keepI k5 L.o);have ar:=hid h5;have av:=hid (K.o.trans k5);clear h5 k5 C L K B;go_wp2_with (at_builtin;refine Kn_ (.tmp 48) (.tmp 50) ar av H a5 rfl rfl rfl rfl oo ?_;intro A6 c6 w6 J ax O)
      replace H:=O;clear O;go_wp2;go_roundw
      case rel=>exact⟨M,ks++[kc],_,X,A6,c6,by rw[al],ai,ae,ah,ag,af,by rw[al];exact H,J,ax⟩
      case measure=>exact ZA_ hi aP.o J.o (F.o.weak (i':=1) (j':=0) oo oo)
theorem QcZ_ {sg:List SgP} {st:RdSt} (h:Kd_ sg st 0=true):setB sg st=(((Qu_ sg st 1).2.1.toList==[61])&&((Qu_ sg st 1).1==4)):=by unfold setB;rw[h,Bool.true_and]
theorem Qgg_ {sg:List SgP} {s:PS} (h:setB sg (some s)=true):isM sg (Qe_ (some s)) ⟨#[61]⟩=true:=by
 unfold setB at h;rw[Bool.and_eq_true,Bool.and_eq_true]at h;unfold isM;have e:Qu_ sg (Qe_ (some s)) 0=Qu_ sg (some s) 1:=rfl;rw[e,h.2.2,Bool.true_and,show(⟨#[61]⟩:BA).toList=[61]by rw[ByteArray.toList_eq]];exact h.2.1
theorem Qc0_ {sg:List SgP} {st:RdSt} (h:setB sg st=true):Kd_ sg st 0=true:=by
 unfold setB at h;rw[Bool.and_eq_true]at h;exact h.1
theorem Qbk_ (R:RC) (hi:R.imp=false) (N f:Nat) (hN:R.n < N) (HE:SC R N f) (d:Nat) (st:RdSt) (row:ON) (w:World) (hI:RdI R d st row w) (hn:Need R.n st 12 (f+1)) (hd:d+(f+1)<=100000) (G:Deep d st):
  Calls prog 106 #[.pointer (some ⟨R.T,0,none⟩)] w (Does R d row w (.int .i64 (ZH_ R.sg (Qd_ R.sg N f) d false st).1) (ZH_ R.sg (Qd_ R.sg N f) d false st).2):=by
 obtain⟨i0,bY,b3,b4,b6⟩:=info_parts QB_;have cp:=hid (And.intro bY (And.intro b3 (And.intro b4 b6)));clear bY b3 b4 b6;have o:=hid hI;have ae:=hid (Kr.refl R.T row w);have a2:=hid hI.lo;have aY:=hid hI.lo.1;have Q:=hI.ok.len;unfold Does ZH_;have T1:=hid (fun(W:World) h=>Yj_ R hi d st row 5 (by decide) (by decide) W h);by_cases g1:(Qu_ R.sg st 0).1=5
 ·rw[if_pos g1];rw[show((Qu_ R.sg st 0).1==5)=true from by rw[g1];decide]at T1;have X2:=hid (fun(W:World) h=>Vl_ R hi d st row 5 (by decide) (by decide) W h g1);unfold Does at X2;have bo:=hid (qN_ (sg:=R.sg) st);generalize Xj_ R.sg false st=r at bo |-
  obtain⟨k,st2⟩:=r;generalize (Qu_ R.sg st 0).2.1=tx at X2 bo;dsimp only;clear hI hn G g1 Q;go_enter func106,ntmps106;go_wp2_with fail
  refine(T1.o _ o.o).mono ?_;rintro e w1 ⟨rfl,h1⟩;have q:=hid (o.o.next h1);have x:=hid (ae.o.below h1);clear h1;go_wp2_with fail
  refine pst (X2.o w1 q.o) x ?_;intro w2 row2 p z;have bO:=hid p.o.lo;have HP:=hid (Ym_ R.U hi d (Qe_ st) row2 19 tx _ 0 0 [] w2.heap.size (w2.alloc (.cells #[] 3)) (p.o.next bra) (q5_ w2) bO.o);rw[bo.o]at HP;dsimp only at HP;go_wp2_with fail
  refine pst (HP.o) z ?_;intro w3 a t j;go_wp2;go_ret;exact⟨rfl,a,t.o,j.o⟩
 ·rw[if_neg g1];rw[show((Qu_ R.sg st 0).1==5)=false from beq_eq_false_iff_ne.2 g1]at T1;have T2:=hid (fun(row:ON) (W:World) h=>Uf_ R.U hi d st row ⟨#[118,97,114]⟩ W h);rcases bft (isW R.sg st ⟨#[118,97,114]⟩)with g2|g2
  ·rw[if_pos g2];rw[g2,KP_ g2]at T2;obtain⟨s,rfl,ad⟩:=U8_ g2;have T:s.at_ < R.n:=oo;have Y:=hid (fun(row:ON) (W:World) h=>YI_ R hi N f HE d (Qe_ (some s)) row W h (hn.next T ((((Qh_ (some s)).trans (Jm_ (sg:=R.sg) _)).trans (Qh_ _)).weak (i':=1) (j':=0) oo oo) oo) oo (G.adv (Qh_ _)));unfold Does at Y;generalize Ji_ R.sg (Qd_ R.sg N f) d false (Qe_ (some s))=r at Y |-
   obtain⟨k,st2⟩:=r;dsimp only at Y |-
   clear hI hn G g1 g2 Q;go_enter func106,ntmps106;go_wp2_with fail
   refine(T1.o _ o.o).mono ?_;rintro e w1 ⟨rfl,h1⟩;have q:=hid (o.o.next h1);have x:=hid (ae.o.below h1);clear h1;go_wp2_with fail
   refine pst (T2.o row w1 q.o) x ?_;intro w2 row2 p z;go_wp2_with fail
   refine pst (Y.o row2 w2 p.o) z ?_;intro w3 a t j;go_wp2;go_ret;exact⟨rfl,a,t.o,j.o⟩
  ·rw[if_neg (by rw[g2];decide)];rw[g2,Zj_ g2]at T2;have T3:=hid (fun(row:ON) (W:World) h=>Uf_ R.U hi d st row ⟨#[114,101,116,117,114,110]⟩ W h);rcases bft (isW R.sg st ⟨#[114,101,116,117,114,110]⟩)with g3|g3
   ·rw[if_pos g3];rw[g3,KP_ g3]at T3;obtain⟨s,rfl,ad⟩:=U8_ g3;have T:s.at_ < R.n:=oo;have Y:=hid (fun(U:Nat->Prop) (row:ON) (W:World) h=>HE.value U d (Qe_ (some s)) row W h (hn.next T (Qh_ (some s)) oo) oo (G.adv (Qh_ _)));unfold PosS at Y;unfold Yk_;generalize Qd_ R.sg N f .value d (Qe_ (some s))=r at Y |-
    obtain⟨k,st2⟩:=r;dsimp only at Y |-
    clear hI hn G g1 g2 g3 Q ad T;generalize Qe_ (some s)=bD at Y T3 |-
    have T9:=hid (fun(U:Nat->Prop) (row:ON) (W:World) h=>QhH_ U hi d bD row 4 (by decide) ⟨#[59]⟩ W h);rw[JL_]at T9;rcases bft (isM R.sg bD ⟨#[59]⟩)with g9|g9
    ·rw[if_pos g9];rw[g9]at T9;clear g9;go_enter func106,ntmps106;go_wp2_with fail
     refine(T1.o _ o.o).mono ?_;rintro e w1 ⟨rfl,h1⟩;have q:=hid (o.o.next h1);have x:=hid (ae.o.below h1);clear h1;go_wp2_with fail
     refine pst (T2.o row w1 q.o) x ?_;intro w2 row2 p z;go_wp2_with fail
     refine pst (T3.o row2 w2 p.o) z ?_;intro w3 a t j;have cg:=j.o.size;have HM:=hid ((q5_ w3).more (B':=w.heap.size) oo);have ay:=hid (t.o.next (br.alloc (Nat.le_refl _) (.cells #[] 3)));have a0:=hid (j.o.below (br.alloc (Nat.le_refl _) (.cells #[] 3)));go_wp2_with fail
     refine(T9.o _ _ _ ay.o).mono ?_;rintro e w4 ⟨rfl,h4⟩;have E:=hid (ay.o.next h4);have J:=hid (a0.o.below h4);have a3:=hid (HM.o.next h4);clear h4;go_wp2_with fail
     refine(KA_ R hi d bD a ⟨#[59]⟩ w4 E.o).mono ?_;rintro e K ⟨rfl,l,h5,k5⟩;replace a3:=Vq_ E k5 a3;have F:=QQ_ J k5;have v:=hid h5;clear h5 k5;go_wp2_with fail
     refine pst (Ym_ R.U hi d _ l 15 noT _ 0 0 [] w.heap.size K v.o a3.o a2.o) F ?_;intro w6 aQ aq am;go_wp2;go_ret;exact⟨rfl,aQ,aq.o,am.o⟩
    ·rw[if_neg (by rw[g9];decide)];rw[g9]at T9;clear g9;go_enter func106,ntmps106;go_wp2_with fail
     refine(T1.o _ o.o).mono ?_;rintro e w1 ⟨rfl,h1⟩;have q:=hid (o.o.next h1);have x:=hid (ae.o.below h1);clear h1;go_wp2_with fail
     refine pst (T2.o row w1 q.o) x ?_;intro w2 row2 p z;go_wp2_with fail
     refine pst (T3.o row2 w2 p.o) z ?_;intro w3 a t j;have cg:=j.o.size;have ca:=hid ((q5_ w3).more (B':=w.heap.size) oo);have ay:=hid (t.o.res_new (A:=some ⟨w3.heap.size,0,none⟩) (br.alloc (Nat.le_refl _) (.cells #[] 3)) (fun g hg=>by simp at hg;subst hg;simp));have a0:=hid (j.o.below (br.alloc (Nat.le_refl _) (.cells #[] 3)));go_wp2_with fail
     refine(T9.o _ _ _ ay.o).mono ?_;rintro e w4 ⟨rfl,h4⟩;have E:=hid (ay.o.next h4);have J:=hid (a0.o.below h4);have a3:=hid (ca.o.next h4);clear h4;go_wp2_with fail
     refine(Y.o _ _ _ E.o).mono ?_;rintro e K ⟨rfl,l,h5,k5⟩;have HM:=hid (E.o.keepI k5 a3.o);have v:=hid h5;have F:=hid (J.o.trans k5);clear h5 k5;go_wp2_with (at_builtin;refine Kn_ (.tmp 29) (.tmp 32) v F HM aY rfl rfl rfl rfl oo ?_;intro A6 c6 w6 aq am a6)
     replace HM:=a6;clear a6;have aA:=hid aq.o.unres;go_wp2_with fail
     refine(KA_ R hi d st2 l ⟨#[59]⟩ w6 aA.o).mono ?_;rintro e w7 ⟨rfl,H,h7,k7⟩;have aH:=hid (aA.o.keepI k7 HM.o);have I:=hid h7;have O:=hid (am.o.trans k7);clear h7 k7;go_wp2_with fail
     refine pst (Ym_ R.U hi d _ H 15 noT A6 (0+1) c6 [k] w.heap.size w7 I.o aH.o a2.o) O ?_;intro w8 D C P;go_wp2;go_ret;exact⟨rfl,D,C.o,P.o⟩
   ·rw[if_neg (by rw[g3];decide)];rw[g3,Zj_ g3]at T3;have T4:=hid (fun(row:ON) (W:World) h=>Uf_ R.U hi d st row ⟨#[105,102]⟩ W h);rcases bft (isW R.sg st ⟨#[105,102]⟩)with g4|g4
    ·rw[if_pos g4];rw[g4,KP_ g4]at T4;obtain⟨s,rfl,ad⟩:=U8_ g4;have T:s.at_ < R.n:=oo;have b:=(Qh_ (some s)).trans (Yu_ (sg:=R.sg) (fun m d st=>Qy_ (sg:=R.sg) (N:=N) f m d st) d (Qe_ (some s)));have HH:=hid (fun(row:ON) (W:World) h=>vo_ R hi N f HE d (Qe_ (some s)) row W h (hn.next T ((Qh_ (some s)).trans (Qo_ (sg:=R.sg) _ _)) oo) oo (G.adv (Qh_ _)));unfold Does at HH;unfold ifS;dsimp only;generalize JB_ R.sg (Qd_ R.sg N f) d (Qe_ (some s))=r at b HH |-
     obtain⟨k1,st2⟩:=r;dsimp only at b HH |-
     have Y:=hid (fun(U:Nat->Prop) (row:ON) (W:World) h=>HE.block U d st2 row W h (hn.next T (b.weak (i':=1) (j':=0) oo oo) oo) oo (G.adv b));unfold PosS at Y;have aj:=b.trans (Qy_ (sg:=R.sg) (N:=N) f .block d st2);generalize Qd_ R.sg N f .block d st2=r at Y aj |-
     obtain⟨k2,aE⟩:=r;dsimp only at Y aj |-
     have T9:=hid (fun(U:Nat->Prop) (row:ON) (W:World) h=>Uf_ U hi d aE row ⟨#[101,108,115,101]⟩ W h);rcases bft (isW R.sg aE ⟨#[101,108,115,101]⟩)with g9|g9
     ·rw[if_pos g9];rw[g9,KP_ g9]at T9;have aL:=aj.trans (Qh_ aE);have bg:=hid (fun(U:Nat->Prop) (row:ON) (W:World) h=>HE.block U d (Qe_ aE) row W h (hn.next T (aL.weak (i':=1) (j':=0) oo oo) oo) oo (G.adv aL));unfold PosS at bg;generalize Qd_ R.sg N f .block d (Qe_ aE)=r at bg |-
      obtain⟨k3,cl⟩:=r;dsimp only at bg |-
      clear hI hn G g1 g2 g3 g4 Q ad T b aj aL g9;go_enter func106,ntmps106;go_wp2_with fail
      refine(T1.o _ o.o).mono ?_;rintro e w1 ⟨rfl,h1⟩;have q:=hid (o.o.next h1);have x:=hid (ae.o.below h1);clear h1;go_wp2_with fail
      refine pst (T2.o row w1 q.o) x ?_;intro w2 row2 p z;go_wp2_with fail
      refine pst (T3.o row2 w2 p.o) z ?_;intro w3 a t j;go_wp2_with fail
      refine pst (T4.o a w3 t.o) j ?_;intro w4 B E J;go_wp2_with fail
      refine pst (HH.o B w4 E.o) J ?_;intro K l v F;have ch:=F.o.size;have a4:=hid ((GZ_ K k1).more (B':=w.heap.size) oo);have az:=hid (v.o.res_new (A:=some ⟨K.heap.size,0,none⟩) (br.alloc (Nat.le_refl _) (.cells #[.int .i64 k1] 3)) (fun g hg=>by simp at hg;subst hg;simp));have a1:=hid (F.o.below (br.alloc (Nat.le_refl _) (.cells #[.int .i64 k1] 3)));go_wp2_with fail
      refine(Y.o _ _ _ az.o).mono ?_;rintro e w6 ⟨rfl,aQ,h6,k6⟩;have HM:=hid (az.o.keepI k6 a4.o);have aq:=hid h6;have am:=hid (a1.o.trans k6);clear h6 k6 a4;go_wp2_with (at_builtin;refine Kn_ (.tmp 45) (.tmp 48) aq am HM aY rfl rfl rfl rfl oo ?_;intro A7 c7 w7 I O aH)
      replace HM:=aH;clear aH;go_wp2_with fail
      refine(T9.o _ _ _ I.o).mono ?_;rintro e w8 ⟨rfl,D,h8,k8⟩;have aI:=hid (I.o.keepI k8 HM.o);have C:=hid h8;have P:=hid (O.o.trans k8);clear h8 k8;go_wp2_with fail
      refine(bg.o _ _ _ C.o).mono ?_;rintro e w9 ⟨rfl,X,h9,k9⟩;replace HM:=hid (C.o.keepI k9 aI.o);have ag:=hid h9;have ah:=hid (P.o.trans k9);clear h9 k9 aI;go_wp2_with (at_builtin;refine Kn_ (.tmp 52) (.tmp 55) ag ah HM aY rfl rfl rfl rfl oo ?_;intro b9 cf bb aN aZ bi)
      replace HM:=bi;clear bi;have bp:=hid aN.o.unres;go_wp2_with fail
      refine(Ym_ R.U hi d cl X 16 noT b9 (1+1+1) cf [k1,k2,k3] w.heap.size bb bp.o HM.o a2.o).mono ?_;rintro e bE ⟨rfl,aa,a7,ba⟩;go_wp2;go_ret;exact⟨rfl,aa,a7,aZ.o.trans ba⟩
     ·rw[if_neg (by rw[g9];decide)];rw[g9,Zj_ g9]at T9;clear hI hn G g1 g2 g3 g4 Q ad T b aj g9;go_enter func106,ntmps106;go_wp2_with fail
      refine(T1.o _ o.o).mono ?_;rintro e w1 ⟨rfl,h1⟩;have q:=hid (o.o.next h1);have x:=hid (ae.o.below h1);clear h1;go_wp2_with fail
      refine pst (T2.o row w1 q.o) x ?_;intro w2 row2 p z;go_wp2_with fail
      refine pst (T3.o row2 w2 p.o) z ?_;intro w3 a t j;go_wp2_with fail
      refine pst (T4.o a w3 t.o) j ?_;intro w4 B E J;go_wp2_with fail
      refine pst (HH.o B w4 E.o) J ?_;intro K l v F;have ch:=F.o.size;have a4:=hid ((GZ_ K k1).more (B':=w.heap.size) oo);have az:=hid (v.o.res_new (A:=some ⟨K.heap.size,0,none⟩) (br.alloc (Nat.le_refl _) (.cells #[.int .i64 k1] 3)) (fun g hg=>by simp at hg;subst hg;simp));have a1:=hid (F.o.below (br.alloc (Nat.le_refl _) (.cells #[.int .i64 k1] 3)));go_wp2_with fail
      refine(Y.o _ _ _ az.o).mono ?_;rintro e w6 ⟨rfl,aQ,h6,k6⟩;have HM:=hid (az.o.keepI k6 a4.o);have aq:=hid h6;have am:=hid (a1.o.trans k6);clear h6 k6 a4;go_wp2_with (at_builtin;refine Kn_ (.tmp 45) (.tmp 48) aq am HM aY rfl rfl rfl rfl oo ?_;intro A7 c7 w7 I O aH)
      replace HM:=aH;clear aH;go_wp2_with fail
      refine(T9.o _ _ _ I.o).mono ?_;rintro e w8 ⟨rfl,D,h8,k8⟩;have aI:=hid (I.o.keepI k8 HM.o);have C:=hid h8.unres;have P:=hid (O.o.trans k8);clear h8 k8;go_wp2_with fail
      refine(Ym_ R.U hi d aE D 16 noT A7 (1+1) c7 [k1,k2] w.heap.size w8 C.o aI.o a2.o).mono ?_;rintro e bE ⟨rfl,aa,a7,ba⟩;go_wp2;go_ret;exact⟨rfl,aa,a7,P.o.trans ba⟩
    ·rw[if_neg (by rw[g4];decide)];rw[g4,Zj_ g4]at T4;have T5:=hid (fun(row:ON) (W:World) h=>Uf_ R.U hi d st row ⟨#[119,104,105,108,101]⟩ W h);rcases bft (isW R.sg st ⟨#[119,104,105,108,101]⟩)with g5|g5
     ·rw[if_pos g5];rw[g5,KP_ g5]at T5;obtain⟨s,rfl,ad⟩:=U8_ g5;have T:s.at_ < R.n:=oo;have b:=(Qh_ (some s)).trans (Yu_ (sg:=R.sg) (fun m d st=>Qy_ (sg:=R.sg) (N:=N) f m d st) d (Qe_ (some s)));have HH:=hid (fun(row:ON) (W:World) h=>vo_ R hi N f HE d (Qe_ (some s)) row W h (hn.next T ((Qh_ (some s)).trans (Qo_ (sg:=R.sg) _ _)) oo) oo (G.adv (Qh_ _)));unfold Does at HH;unfold zY_;dsimp only;generalize JB_ R.sg (Qd_ R.sg N f) d (Qe_ (some s))=r at b HH |-
      obtain⟨k1,st2⟩:=r;dsimp only at b HH |-
      have Y:=hid (fun(U:Nat->Prop) (row:ON) (W:World) h=>HE.block U d st2 row W h (hn.next T (b.weak (i':=1) (j':=0) oo oo) oo) oo (G.adv b));unfold PosS at Y;generalize Qd_ R.sg N f .block d st2=r at Y |-
      obtain⟨k2,aE⟩:=r;dsimp only at Y |-
      clear hI hn G g1 g2 g3 g4 g5 Q ad T b;go_enter func106,ntmps106;go_wp2_with fail
      refine(T1.o _ o.o).mono ?_;rintro e w1 ⟨rfl,h1⟩;have q:=hid (o.o.next h1);have x:=hid (ae.o.below h1);clear h1;go_wp2_with fail
      refine pst (T2.o row w1 q.o) x ?_;intro w2 row2 p z;go_wp2_with fail
      refine pst (T3.o row2 w2 p.o) z ?_;intro w3 a t j;go_wp2_with fail
      refine pst (T4.o a w3 t.o) j ?_;intro w4 B E J;go_wp2_with fail
      refine pst (T5.o B w4 E.o) J ?_;intro K l v F;go_wp2_with fail
      refine pst (HH.o l K v.o) F ?_;intro w6 aQ aq am;have cq:=am.o.size;have a6:=hid ((GZ_ w6 k1).more (B':=w.heap.size) oo);have aA:=hid (aq.o.res_new (A:=some ⟨w6.heap.size,0,none⟩) (br.alloc (Nat.le_refl _) (.cells #[.int .i64 k1] 3)) (fun g hg=>by simp at hg;subst hg;simp));have bN:=hid (am.o.below (br.alloc (Nat.le_refl _) (.cells #[.int .i64 k1] 3)));go_wp2_with fail
      refine(Y.o _ _ _ aA.o).mono ?_;rintro e w7 ⟨rfl,H,h7,k7⟩;have HM:=hid (aA.o.keepI k7 a6.o);have I:=hid h7;have O:=hid (bN.o.trans k7);clear h7 k7 a6;go_wp2_with (at_builtin;refine Kn_ (.tmp 66) (.tmp 69) I O HM aY rfl rfl rfl rfl oo ?_;intro A8 c8 w8 C P aI)
      replace HM:=aI;clear aI;have bL:=hid C.o.unres;go_wp2_with fail
      refine(Ym_ R.U hi d aE H 17 noT A8 (1+1) c8 [k1,k2] w.heap.size w8 bL.o HM.o a2.o).mono ?_;rintro e bE ⟨rfl,aa,a7,ba⟩;go_wp2;go_ret;exact⟨rfl,aa,a7,P.o.trans ba⟩
     ·rw[if_neg (by rw[g5];decide)];rw[g5,Zj_ g5]at T5;have TQ:=hid (fun(row:ON) (W:World) h=>x9_ R hi d st row W h);rcases bft (setB R.sg st)with g6|g6
      ·rw[if_pos g6];have gn:=Qc0_ g6;rw[gn]at TQ;obtain⟨s,rfl,ad⟩:=Z4_ gn;have T:s.at_ < R.n:=oo;have b0:=Qgg_ g6;rw[QcZ_ gn]at g6;rw[Bool.and_eq_true]at g6;have aV:s.at_+1 < R.sg.length:=by
        rcases Nat.lt_or_ge (s.at_+1) R.sg.length with h|h
        ·exact h
        ·have:=g6.2;rw[ZM_ (i:=1) h]at this;exact absurd this (by decide)
       obtain⟨y,hy⟩:∃y,R.sg[s.at_+1]? =some y:=⟨_,List.getElem?_eq_getElem aV⟩;rw[GL_ (i:=1) hy]at g6;obtain⟨yk,yt,yp,yz⟩:=y;dsimp only at g6;obtain⟨q1,q2⟩:=g6;have b:=(Qh_ (some s)).trans (Qh_ (Qe_ (some s)));have bZ:nmS R.sg (some s)=Qe_ (some s):=if_pos gn;have HX:=hid (fun(row:ON) (W:World) h=>YK_ R.U hi d (some s) row W h);rw[bZ]at HX;have bP:=hid (fun(row:ON) (W:World) h=>X8_ R.U hi d (Qe_ (some s)) row ⟨#[61]⟩ W h);rw[Zk_ b0]at bP;have Y:=hid (fun(row:ON) (W:World) h=>HE.value R.U d (Qe_ (Qe_ (some s))) row W h (hn.next T (b.weak (i':=1) (j':=0) oo oo) oo) oo (G.adv b));unfold PosS at Y;unfold setS;dsimp only;generalize Qd_ R.sg N f .value d (Qe_ (Qe_ (some s)))=r at Y |-
       obtain⟨k,st2⟩:=r;dsimp only at Y |-
       generalize nmT R.sg (some s)=tx at HX |-
       have HY:=hid hy;clear hI hn G g1 g2 g3 g4 g5 Q ad b0 b bZ aV hy gn;go_enter func106,ntmps106;go_wp2_with fail
       refine(T1.o _ o.o).mono ?_;rintro e w1 ⟨rfl,h1⟩;have q:=hid (o.o.next h1);have x:=hid (ae.o.below h1);clear h1;go_wp2_with fail
       refine pst (T2.o row w1 q.o) x ?_;intro w2 row2 p z;go_wp2_with fail
       refine pst (T3.o row2 w2 p.o) z ?_;intro w3 a t j;go_wp2_with fail
       refine pst (T4.o a w3 t.o) j ?_;intro w4 B E J;go_wp2_with fail
       refine pst (T5.o B w4 E.o) J ?_;intro K l v F;have M:RdI R d (some s) l K:=v.o;have c:R.Ok:=M.ok;have a9:R.n<=3000:=c.most;have S:=M.old;obtain⟨L,b5,bn,bs,l5,af,V,Z⟩:=id M;obtain⟨x0,x1,x2,x3,x4,xf,xz⟩:=af.cs hi;have aU:s.at_=L:=V.2.1;have ac:=HY.o;rw[aU]at ac;have aD:L+1 < R.n:=by
        have h1:L+1 < R.sg.length:=(List.getElem?_eq_some_iff.1 ac).1;have h2:R.sg.length=R.n:=c.len;omega
       obtain⟨b1,off,hA,bl,e0,e1,e2,e3⟩:=XY_ (c.rd.below S) (show L+1 < R.n from aD) ac;rw[hA]at x0;dsimp only at e0 e1;have aM:(L:Int)+1 < (R.n:Int):=oo;have bv:decide ((L:Int)+1 < (R.n:Int))=true:=decide_eq_true aM;have b2:((L:Int)+1).toNat=L+1:=oo;have bx:IntKind.i64.wrap ((L:Int)+1)=(L:Int)+1:=IntWalk.i64_in _ oo;clear M af V Z ac c S x2 x3 x4 e2 e3 hA;have ab:=hid (fun(n:Nat)=>v.o.next (below_drewN (Below.refl K.heap.size K) n));go_upto_region 21 with fail
       go_quiet ((go_at_call 71;exact Calls.quiet_of (TQ.o _ _ (ab.o _))));go_wp2_with fail
       refine(HX.o _ _ (ab.o _)).mono ?_;rintro e w7 ⟨rfl,H,h7,k7⟩;have I:=hid h7;have O:=hid ((F.o.below (below_drewN (Below.refl K.heap.size K) _)).trans k7);clear h7 k7;go_wp2_with fail
       refine pst (bP.o H w7 I.o) O ?_;intro w8 D C P;go_wp2_with fail
       refine pst (Y.o D w8 C.o) P ?_;intro w9 X ag ah;go_wp2_with fail
       refine pst (KA_ R hi d st2 X ⟨#[59]⟩ w9 ag.o) ah ?_;intro bb bC aN aZ;have bq:=hid aN.o.lo;go_wp2_with fail
       refine pst (Ym_ R.U hi d _ bC 13 tx (some ⟨bb.heap.size,0,none⟩) 1 1 [k] bb.heap.size _ (aN.o.alloc _) (GZ_ bb k) bq.o) aZ ?_;intro bE aa bK bM;go_wp2;go_ret;exact⟨rfl,aa,bK.o,bM.o⟩
      ·rw[if_neg (by rw[g6];decide)];have Y:=hid (fun(row:ON) (W:World) h=>HE.value R.U d st row W h (hn.same (r':=11) oo (Adv.refl st)) oo G);unfold PosS at Y;unfold doS;dsimp only;generalize Qd_ R.sg N f .value d st=r at Y |-
       obtain⟨k,st2⟩:=r;dsimp only at Y |-
       rcases bft (Kd_ R.sg st 0)with gn|gn
       ·rw[gn]at TQ;obtain⟨s,rfl,ad⟩:=Z4_ gn;have T:s.at_ < R.n:=oo;rw[QcZ_ gn]at g6;rcases Nat.lt_or_ge (s.at_+1) R.n with aV|aV
        ·obtain⟨y,hy⟩:∃y,R.sg[s.at_+1]? =some y:=⟨_,gE oo⟩;rw[GL_ (i:=1) hy]at g6;obtain⟨yk,yt,yp,yz⟩:=y;dsimp only at g6;have HY:=hid hy;rcases bft (yk==4)with q2|q2
         ·rw[q2,Bool.and_true]at g6;clear hI hn G g1 g2 g3 g4 g5 Q ad aV hy gn;go_enter func106,ntmps106;go_wp2_with fail
          refine(T1.o _ o.o).mono ?_;rintro e w1 ⟨rfl,h1⟩;have q:=hid (o.o.next h1);have x:=hid (ae.o.below h1);clear h1;go_wp2_with fail
          refine pst (T2.o row w1 q.o) x ?_;intro w2 row2 p z;go_wp2_with fail
          refine pst (T3.o row2 w2 p.o) z ?_;intro w3 a t j;go_wp2_with fail
          refine pst (T4.o a w3 t.o) j ?_;intro w4 B E J;go_wp2_with fail
          refine pst (T5.o B w4 E.o) J ?_;intro K l v F;have M:RdI R d (some s) l K:=v.o;have c:R.Ok:=M.ok;have a9:R.n<=3000:=c.most;have S:=M.old;obtain⟨L,b5,bn,bs,l5,af,V,Z⟩:=id M;obtain⟨x0,x1,x2,x3,x4,xf,xz⟩:=af.cs hi;have aU:s.at_=L:=V.2.1;have ac:=HY.o;rw[aU]at ac;have aD:L+1 < R.n:=by
           have h1:L+1 < R.sg.length:=(List.getElem?_eq_some_iff.1 ac).1;have h2:R.sg.length=R.n:=c.len;omega
          obtain⟨b1,off,hA,bl,e0,e1,e2,e3⟩:=XY_ (c.rd.below S) (show L+1 < R.n from aD) ac;rw[hA]at x0;dsimp only at e0 e1;have aM:(L:Int)+1 < (R.n:Int):=oo;have bv:decide ((L:Int)+1 < (R.n:Int))=true:=decide_eq_true aM;have b2:((L:Int)+1).toNat=L+1:=oo;have bx:IntKind.i64.wrap ((L:Int)+1)=(L:Int)+1:=IntWalk.i64_in _ oo;clear M af V Z ac c S x2 x3 x4 e2 e3 hA;have ab:=hid (fun(n:Nat)=>v.o.next (below_drewN (Below.refl K.heap.size K) n));go_upto_region 21 with fail
          go_quiet ((go_at_call 71;exact Calls.quiet_of (TQ.o _ _ (ab.o _))));go_wp2_with fail
          refine(Y.o _ _ (ab.o _)).mono ?_;rintro e w7 ⟨rfl,H,h7,k7⟩;have I:=hid h7;have O:=hid ((F.o.below (below_drewN (Below.refl K.heap.size K) _)).trans k7);clear h7 k7;go_wp2_with fail
          refine pst (KA_ R hi d st2 H ⟨#[59]⟩ w7 I.o) O ?_;intro w8 D C P;have ai:=hid C.o.lo;go_wp2_with fail
          refine pst (Ym_ R.U hi d _ D 14 noT (some ⟨w8.heap.size,0,none⟩) 1 1 [k] w8.heap.size _ (C.o.alloc _) (GZ_ w8 k) ai.o) P ?_;intro w9 X ag ah;go_wp2;go_ret;exact⟨rfl,X,ag.o,ah.o⟩
         ·clear hI hn G g1 g2 g3 g4 g5 Q ad aV hy gn g6;go_enter func106,ntmps106;go_wp2_with fail
          refine(T1.o _ o.o).mono ?_;rintro e w1 ⟨rfl,h1⟩;have q:=hid (o.o.next h1);have x:=hid (ae.o.below h1);clear h1;go_wp2_with fail
          refine pst (T2.o row w1 q.o) x ?_;intro w2 row2 p z;go_wp2_with fail
          refine pst (T3.o row2 w2 p.o) z ?_;intro w3 a t j;go_wp2_with fail
          refine pst (T4.o a w3 t.o) j ?_;intro w4 B E J;go_wp2_with fail
          refine pst (T5.o B w4 E.o) J ?_;intro K l v F;have M:RdI R d (some s) l K:=v.o;have c:R.Ok:=M.ok;have a9:R.n<=3000:=c.most;have S:=M.old;obtain⟨L,b5,bn,bs,l5,af,V,Z⟩:=id M;obtain⟨x0,x1,x2,x3,x4,xf,xz⟩:=af.cs hi;have aU:s.at_=L:=V.2.1;have ac:=HY.o;rw[aU]at ac;have aD:L+1 < R.n:=by
           have h1:L+1 < R.sg.length:=(List.getElem?_eq_some_iff.1 ac).1;have h2:R.sg.length=R.n:=c.len;omega
          obtain⟨b1,off,hA,bl,e0,e1,e2,e3⟩:=XY_ (c.rd.below S) (show L+1 < R.n from aD) ac;rw[hA]at x0;dsimp only at e0 e1;have aM:(L:Int)+1 < (R.n:Int):=oo;have bv:decide ((L:Int)+1 < (R.n:Int))=true:=decide_eq_true aM;have b2:((L:Int)+1).toNat=L+1:=oo;have bx:IntKind.i64.wrap ((L:Int)+1)=(L:Int)+1:=IntWalk.i64_in _ oo;clear M af V Z ac c S x2 x3 x4 e2 e3 hA;have ab:=hid (fun(n:Nat)=>v.o.next (below_drewN (Below.refl K.heap.size K) n));go_upto_region 21 with fail
          go_quiet ((go_at_call 71;exact Calls.quiet_of (TQ.o _ _ (ab.o _))));go_wp2_with fail
          refine(Y.o _ _ (ab.o _)).mono ?_;rintro e w7 ⟨rfl,H,h7,k7⟩;have I:=hid h7;have O:=hid ((F.o.below (below_drewN (Below.refl K.heap.size K) _)).trans k7);clear h7 k7;go_wp2_with fail
          refine pst (KA_ R hi d st2 H ⟨#[59]⟩ w7 I.o) O ?_;intro w8 D C P;have ai:=hid C.o.lo;go_wp2_with fail
          refine pst (Ym_ R.U hi d _ D 14 noT (some ⟨w8.heap.size,0,none⟩) 1 1 [k] w8.heap.size _ (C.o.alloc _) (GZ_ w8 k) ai.o) P ?_;intro w9 X ag ah;go_wp2;go_ret;exact⟨rfl,X,ag.o,ah.o⟩
        ·clear hI hn G g1 g2 g3 g4 g5 Q ad gn g6;go_enter func106,ntmps106;go_wp2_with fail
         refine(T1.o _ o.o).mono ?_;rintro e w1 ⟨rfl,h1⟩;have q:=hid (o.o.next h1);have x:=hid (ae.o.below h1);clear h1;go_wp2_with fail
         refine pst (T2.o row w1 q.o) x ?_;intro w2 row2 p z;go_wp2_with fail
         refine pst (T3.o row2 w2 p.o) z ?_;intro w3 a t j;go_wp2_with fail
         refine pst (T4.o a w3 t.o) j ?_;intro w4 B E J;go_wp2_with fail
         refine pst (T5.o B w4 E.o) J ?_;intro K l v F;have M:RdI R d (some s) l K:=v.o;have c:R.Ok:=M.ok;have a9:R.n<=3000:=c.most;obtain⟨L,b5,bn,bs,l5,af,V,Z⟩:=id M;obtain⟨x0,x1,x2,x3,x4,xf,xz⟩:=af.cs hi;have aU:s.at_=L:=V.2.1;have aM:¬(L:Int)+1 < (R.n:Int):=oo;have bv:decide ((L:Int)+1 < (R.n:Int))=false:=decide_eq_false aM;have bx:IntKind.i64.wrap ((L:Int)+1)=(L:Int)+1:=IntWalk.i64_in _ (by have h1:=af.2.2.2.2.1;omega);clear M af V Z c x2 x3 x4;have ab:=hid (fun(n:Nat)=>v.o.next (below_drewN (Below.refl K.heap.size K) n));go_upto_region 21 with fail
         go_quiet ((go_at_call 71;exact Calls.quiet_of (TQ.o _ _ (ab.o _))));go_wp2_with fail
         refine(Y.o _ _ (ab.o _)).mono ?_;rintro e w7 ⟨rfl,H,h7,k7⟩;have I:=hid h7;have O:=hid ((F.o.below (below_drewN (Below.refl K.heap.size K) _)).trans k7);clear h7 k7;go_wp2_with fail
         refine pst (KA_ R hi d st2 H ⟨#[59]⟩ w7 I.o) O ?_;intro w8 D C P;have ai:=hid C.o.lo;go_wp2_with fail
         refine pst (Ym_ R.U hi d _ D 14 noT (some ⟨w8.heap.size,0,none⟩) 1 1 [k] w8.heap.size _ (C.o.alloc _) (GZ_ w8 k) ai.o) P ?_;intro w9 X ag ah;go_wp2;go_ret;exact⟨rfl,X,ag.o,ah.o⟩
       ·rw[gn]at TQ;clear hI hn G g1 g2 g3 g4 g5 Q gn g6;go_enter func106,ntmps106;go_wp2_with fail
        refine(T1.o _ o.o).mono ?_;rintro e w1 ⟨rfl,h1⟩;have q:=hid (o.o.next h1);have x:=hid (ae.o.below h1);clear h1;go_wp2_with fail
        refine pst (T2.o row w1 q.o) x ?_;intro w2 row2 p z;go_wp2_with fail
        refine pst (T3.o row2 w2 p.o) z ?_;intro w3 a t j;go_wp2_with fail
        refine pst (T4.o a w3 t.o) j ?_;intro w4 B E J;go_wp2_with fail
        refine pst (T5.o B w4 E.o) J ?_;intro K l v F;have ab:=hid (fun(n:Nat)=>v.o.next (below_drewN (Below.refl K.heap.size K) n));go_upto_region 21 with fail
        go_quiet ((go_at_call 71;exact Calls.quiet_of (TQ.o _ _ (ab.o _))));go_wp2_with fail
        refine(Y.o _ _ (ab.o _)).mono ?_;rintro e w7 ⟨rfl,H,h7,k7⟩;have I:=hid h7;have O:=hid ((F.o.below (below_drewN (Below.refl K.heap.size K) _)).trans k7);clear h7 k7;go_wp2_with fail
        refine pst (KA_ R hi d st2 H ⟨#[59]⟩ w7 I.o) O ?_;intro w8 D C P;have ai:=hid C.o.lo;go_wp2_with fail
        refine pst (Ym_ R.U hi d _ D 14 noT (some ⟨w8.heap.size,0,none⟩) 1 1 [k] w8.heap.size _ (C.o.alloc _) (GZ_ w8 k) ai.o) P ?_;intro w9 X ag ah;go_wp2;go_ret;exact⟨rfl,X,ag.o,ah.o⟩
end Go.Proofs.YtgbikafalcbibaaGreatDoor

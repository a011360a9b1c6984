/-
  Put together by program.
-/
import Derived.Test.YtbiijipkgfpgoaaGreatDoorMmH
import Derived.Test.YtbiijipkgfpgoaaGreatDoorMmG
import Derived.Test.YtbiijipkgfpgoaaGreatDoorMmF
set_option maxRecDepth 100000
set_option linter.all false
set_option maxHeartbeats 25600000
open Go.Proofs.Tryz
open Go.Value renaming int→I_,slice→S_,string→T_,bool→B_,pointer→P_,agg→A_,tuple→U_
open Go.IntKind renaming i64→j_
open Go.Obj renaming cells→C_
open Go.Ending renaming returned→R_
open List renaming length→η
open Go renaming World→Ω,Calls→Δ,Value→Υ
open Go.Proofs.Tryz renaming prog→π
open Go.RowKit renaming Hid→Ψ
open Bool renaming true→τ,false→φ,and_eq_true→τa,false_and→φa,true_and→τb,and_true→τc
open Option renaming none→ν,some→σ
namespace Go.Proofs.YtbiijipkgfpgoaaGreatDoor
open Go.RowKit Go.Sort
variable (e:OA)(n c:Nat)(g:List PN)(i j:Int)(m:Ω)(t:BA)(o p:Int)(r:Ω)(s:UInt8)(u:List UInt8)(k:Nat)(v:BD){x b:BA}{a:Int}{l:LI}{y:List PN}{f h q:Nat}{z:OA}{w d:Ω}
def Qc3_ (w:Ω) {B:Nat} (hB:B<=w.heap.size):HpM B (σ ⟨w.heap.size+1,0,ν⟩) 1 1 [([],0)] ((w.alloc (C_ #[] 3)).alloc (C_ #[S_ (σ ⟨w.heap.size,0,ν⟩) 0 0,I_ j_ 0] 185)):=
 ⟨[((σ ⟨w.heap.size,0,ν⟩,0,0),([],0))],rfl,by
  have h:=Mine.mk_own (w:=(w.alloc (C_ #[] 3)).alloc (C_ #[S_ (σ ⟨w.heap.size,0,ν⟩) 0 0,I_ j_ 0] 185)) (g:=(w.alloc (C_ #[] 3)).heap.size) (e:=185) (s:=2) (n:=1) (c:=1) (xs:=[S_ (σ ⟨w.heap.size,0,ν⟩) 0 0,I_ j_ 0]) (B:=B) ⟨[],Blk.new _ _ _,rfl⟩ rfl so_ (lr_ _) mx_;rw[ws_]at h;exact h,λd hd=>by
  obtain rfl:=ms1_.1 hd;exact⟨lz_ _,((Mine.more (ZA_ w 3 1) hB).alloc _)⟩⟩
def Qd1_ {j:Int} (A:a=j):R_ (U_ #[S_ z f h,I_ j_ a])=R_ (U_ #[S_ z f h,I_ j_ j]):=by rw[A]
def zf_ (P:Hn) (A0 A1 A2 A3:OA) (c0 c1 c2 c3:Nat) (N:Nat) (w:Ω) (hM:PcM P A0 A1 A2 A3 w) (hR:PcR P) (cF:okP P=τ) (hN:N<=100000):
  Δ π 115 #[A_ (pcCells P A0 A1 A2 A3 c0 c1 c2 c3),I_ j_ P.width,I_ j_ (N:Int)] w (SeaR (KU_ P (N:Int)) w):=by
 have HO:=h_ (λW h=>J7_ P A0 A1 A2 A3 c0 c1 c2 c3 W (hM.next h) hR cF);have HA:=h_ (λW h=>Us_ P A0 A1 A2 A3 c0 c1 c2 c3 W (hM.next h) hR.toPcOk);have aY:=h_ (λW h V n cv v hv aN hf=>xx_ P A0 A1 A2 A3 c0 c1 c2 c3 V n cv v W (hM.next h) hR hv aN hf);have bj:=h_ (λW h V n cv v hv aN=>qZ_ P A0 A1 A2 A3 c0 c1 c2 c3 V n cv v W (hM.next h) hR hv aN);have bF:=h_ (λW h V n cv v hv hn=>WO_ P A0 A1 A2 A3 c0 c1 c2 c3 V n cv v W (hM.next h) hR.toPcOk hv hn);obtain⟨R,bO⟩:=ex_ (KU_ P (N:Int));have bE:=h_ (show KJ_ P N (Ui_ P.l0) (P.cost (Ui_ P.l0)) [([],0)]=R by rw[<-bO];unfold KU_;rw[it_]);have aS:=h_<|VC_ P.l0;have bg:=h_<|Gg_ hR;have a1:=h_ hR;have cd:=h_ hM;have a4:=hR.n0;rw[bO];clear hM hR cF bO;unfold pcCells at HO HA aY bj bF |-
 obtain⟨NL,bN⟩:=ex_ (η P.l0);have aj:=h_ bN;rw[bN]at HO HA aY bj bF a4 |-
 clear bN;have bh:=h_ (show Λ w (w.alloc (C_ (pcC P.m A0 NL c0 A1 (η P.l1) c1 A2 (η P.l2) c2 A3 (η P.l3) c3) 149))from Ql_ br);have b4:=h_<|Blk.new w 149<|pcC P.m A0 NL c0 A1 (η P.l1) c1 A2 (η P.l2) c2 A3 (η P.l3) c3;go_in;go_wp2_with fail
 refine mb_ (HO.o _ bh.o) ?_;intro w1 h1;have aT:=h_<|Qb_ bh.o h1;have bs:=h_<|b4.o.next h1;obtain⟨q0,q1,q2,q3,q4,A⟩:=Vp_ bs.o;clear h1 HO bh b4;go_wp2_with fail
 refine(HA.o _ aT.o).mono ?_;rintro e w2 ⟨a,ca,rfl,bU,h2⟩;rw[aS.o,aj.o]at bU |-
 have ai:=h_<|Qb_ aT.o h2;have bv:=h_<|bs.o.next h2;have ar:=h_<|bU.more aT.o.size;clear q0 q1 q2 q3 q4 A h2 HA aT bs bU;obtain⟨q0,q1,q2,q3,q4,A⟩:=Vp_ bv.o;have bl:=h_<|aY.o w2 ai.o a NL ca (Ui_ P.l0) ar.o.rd bg.o<|aS.o.trans aj.o;obtain⟨⟨o,s⟩,aK⟩:=ex_ (P.cost (Ui_ P.l0));rw[aK]at bl bE;clear aK;go_wp2_with fail
 refine mb_ bl.o ?_;intro w3 h3;have bi:=h_ (Qb_ ai.o h3);have b5:=h_ (bv.o.next h3);have b9:=h_ (ar.o.next h3);clear q0 q1 q2 q3 q4 A h3 bl ai bv ar;have cI:=bi.o.size;have ak:=h_ (show SpA w w3.heap.size w.heap.size (pcC P.m A0 NL c0 A1 (η P.l1) c1 A2 (η P.l2) c2 A3 (η P.l3) c3) (Ui_ P.l0) o s [([],0)] a NL ca (σ ⟨w3.heap.size+1+1,0,ν⟩) 1 1 (((w3.alloc (C_ #[I_ j_ o,I_ j_ s] 182)).alloc (C_ #[] 3)).alloc (C_ #[S_ (σ ⟨w3.heap.size+1,0,ν⟩) 0 0,I_ j_ 0] 185))from
  ⟨⟨a4,((b9.o.alloc _).alloc _).alloc _⟩,by
   have h:=Qc3_ (w3.alloc (C_ #[I_ j_ o,I_ j_ s] 182)) (B:=w.heap.size) so_;rw[ws_]at h;exact h,((Blk.new _ _ _).alloc _).alloc _,((b5.o.alloc _).alloc _).alloc _,((bi.o.alloc cI _).alloc so_ _).alloc so_ _,cI⟩)
 have ce:=h_ (show HeapR P [([],0)]from λx hx=>by obtain rfl:=ms1_.1 hx;exact⟨lz_ _,λy hy=>by cases hy⟩);have cg:=h_ (show ValR P (Ui_ P.l0)/\(Ui_ P.l0).length=η P.l0 from⟨bg.o,aS.o⟩);go_wp2;clear bi b5 b9;generalize w3.heap.size=gC at *;go_loopg [8,10,11] N (λgh xb xh xp wr=>∃(n p:Nat) (best:LI) (co cs:Int) (hl:List SSt) (Ab:OA) (nb cb:Nat) (Ah:OA) (nh ch:Nat),xb=S_ Ab nb cb/\xh=S_ Ah nh ch/\xp=I_ j_ p/\p+n=N/\n<=gh/\η hl<=1+3*p/\Ψ (KJ_ P n best (co,cs) hl=R)/\Ψ (SpA w gC w.heap.size (pcC P.m A0 NL c0 A1 (η P.l1) c1 A2 (η P.l2) c2 A3 (η P.l3) c3) best co cs hl Ab nb cb Ah nh ch wr)/\Ψ (HeapR P hl)/\Ψ (ValR P best/\η best=η P.l0))
 ·exact⟨N,0,Ui_ P.l0,o,s,[([],0)],a,NL,ca,σ ⟨gC+1+1,0,ν⟩,1,1,rfl,rfl,rfl,oo,lr_ _,lr_ _,bE,ak,ce,cg⟩
 clear bE ak ce cg bg aS;obtain⟨n,p,best,co,cs,hl,Ab,nb,cb,Ah,nh,ch,rfl,rfl,rfl,dJ,dF,dm,HE,Y,cf,HV⟩:=hrel;have O:=Y.o.heap.len;rw[O]at dm;have cE:=Y.o.best.1;by_cases h0:nh=0
 ·subst h0;obtain rfl:hl=[]:=ln_ O;have aE:Ψ (R=(best,1)):=h_ (by rw[<-HE.o];cases n<;>rfl);have cZ:=h_ Y.o.best.2;clear O;go_wp2_with (at_builtin;refine kq_ (.tmp 118) (.tmp 119) cZ rfl rfl er_ er_ oo ?_;intro A5 c5 w5 aD aU);go_ret2;exact⟨A5,nb,c5,Qd1_ (by rw[aE.o]),cE,by rw[aE.o];exact aD.o.more Y.o.old.size,Qb_ Y.o.old aU.o⟩
 by_cases cC:n=0
 ·subst cC;have aE:Ψ (R=(best,2)):=h_ (by rw[<-HE.o];unfold KJ_;rw[in_ (λe=>by rw[e]at O;exact h0 O.symm)]);clear O;have dG:0<nh:=oo;obtain rfl:p=N:=oo;go_wp2;go_ret2;exact⟨Ab,nb,cb,Qd1_ (by rw[aE.o]),cE,by rw[aE.o];exact Y.o.best.2,Y.o.old⟩
 obtain⟨m,rfl⟩:∃m,n=m+1:=⟨n-1,oo⟩;obtain⟨k,rfl⟩:∃k,nh=k+1:=⟨nh-1,oo⟩;obtain⟨ds,Z,H⟩:=Y.o.heap;obtain⟨g,rfl,dh,_,_,bc,dy,dj⟩:=H.blk oo;obtain⟨⟨⟨a0,n0,k0⟩,D,s0⟩,bR⟩:∃d,ds[0]? =σ d:=⟨_,gE (by have:=H.len;omega)⟩;have bS:hl[0]? =σ (D,s0):=(by rw[<-Z,List.getElem?_map,bR];rfl);have F:=h_<|(G4_ (P:=P) (m:=m) (best:=best) (cost:=(co,cs)) bS).symm.trans HE.o;have ay:=h_<|cf.o _<|lm_ bS;have av:=h_ (show HeapR P (Vr_ hl)from cf.o.pop);have bD:=h_<|j2_ w.heap.size g k ch ds a0 n0 k0 D s0 wr H bR oo;rw[Z]at bD;have dI:(p:Int)<(N:Int):=oo;have dH:(p:Int)<=100000:=oo;have cA:gC<wr.heap.size:=Y.o.cost.lt;clear Z H bR bS dj O h0 cC;go_wp2_with fail
 refine mb_ bD.o ?_;rintro w5 ⟨cG,cz,a3⟩;have af:=h_<|Y.o.pushed (Ah:=σ ⟨g,0,ν⟩) a3 cG;have dk:g<w5.heap.size:=ll_ bc a3.size;have cB:gC<w5.heap.size:=ll_ cA a3.size;have f:=h_<|af.o.next<|br.alloc (lr_ _)<|C_ #[S_ a0 n0 k0,I_ j_ s0] 185;have C:=h_<|Blk.new w5 185 #[S_ a0 n0 k0,I_ j_ s0];have aq:=h_<|cz.next<|br.alloc (lr_ _)<|C_ #[S_ a0 n0 k0,I_ j_ s0] 185;obtain⟨q0,q1,q2,q3,q4,A⟩:=Vp_ af.o.pc;clear bD Y cG cz a3 af bc;go_upto_region 14 with fail
 clear q0 q1 q2 q3 q4 A;generalize w5.alloc (C_ #[S_ a0 n0 k0,I_ j_ s0] 185)=W7 at *;generalize w5.heap.size=gx at *;obtain⟨q0,q1,q2,q3,q4,A⟩:=Vp_ f.o.pc;have x0:W7.cell? ⟨gx,0,ν⟩=σ (S_ a0 n0 k0):=C.o.cell 0;have xl:=C.o.lt;have az:η D=n0:=K2_ aq.o.2.rd;by_cases hf:n0=NL
 ·subst hf;rw[ip_ (az.trans aj.o.symm)]at F;have bo:=h_ (aY.o W7 f.o.old a0 n0 k0 D aq.o.2.rd ay.o az);have b3:=h_ (az.trans aj.o.symm);obtain⟨⟨I,T⟩,aK⟩:=ex_ (P.cost D);rw[aK]at bo F;clear aK az;go_wp2_with fail;refine mb_ bo.o ?_;intro w8 h8;have aX:=h_ (show Λ w8 (w8.alloc (C_ #[I_ j_ I,I_ j_ T] 182))from Ql_ br);have G:=h_<|(f.o.next h8).next aX.o;have aC:=h_<|(aq.o.2.next h8).next aX.o;have ae:=h_<|(C.o.next h8).next aX.o;have al:=h_<|Blk.new w8 182 #[I_ j_ I,I_ j_ T];clear h8 aX bo f aq C q0 q1 q2 q3 q4 A x0 xl;go_upto_region 16 with fail
  generalize w8.alloc (C_ #[I_ j_ I,I_ j_ T] 182)=W9 at *;generalize w8.heap.size=gy at *;have e0:W9.cell? ⟨gy,0,ν⟩=σ (I_ j_ I):=al.o.cell 0;have e1:W9.cell? ⟨gy,1,ν⟩=σ (I_ j_ T):=al.o.cell 1;have b0:W9.cell? ⟨gC,0,ν⟩=σ (I_ j_ co):=G.o.cost.cell 0;have b1:W9.cell? ⟨gC,1,ν⟩=σ (I_ j_ cs):=G.o.cost.cell 1;have ag:=al.o.lt;have L:=G.o.cost.lt;have ap:=h_<|Uu_ I T co cs W9;have ac:=h_ (λW (h:Λ W9 W)=>Vu_ a0 n0 k0 D Ab nb cb best W oo oo (aC.o.rd.next h) (G.o.best.2.rd.next h))
  cases M:KQ_ (I,T) (co,cs)with
  |true=>
   rw[M]at ap;have HY:=h_<|vu_ (v:=D) (u:=best) M;clear M;go_wp2_with fail
   refine ap.o.mono ?_;intro e Q aG;obtain⟨rfl,l⟩:=aG.below;have b:=h_<|G.o.next l;have U:=h_<|aC.o.next l;have E:=h_<|ae.o.next l;have r:=h_<|al.o.next l;clear aG l e0 e1 b0 b1 ag L G aC ae al ap ac;have e0:Q.cell? ⟨gy,0,ν⟩=σ (I_ j_ I):=r.o.cell 0;have e1:Q.cell? ⟨gy,1,ν⟩=σ (I_ j_ T):=r.o.cell 1;have b0:Q.cell? ⟨gC,0,ν⟩=σ (I_ j_ co):=b.o.cost.cell 0;have b1:Q.cell? ⟨gC,1,ν⟩=σ (I_ j_ cs):=b.o.cost.cell 1;have ag:=r.o.lt;have L:=b.o.cost.lt;have bf:=b.o.cost.frozen;have x0:Q.cell? ⟨gx,0,ν⟩=σ (S_ a0 n0 k0):=E.o.cell 0;have xl:=E.o.lt;have HK:=h_<|b.o.keep ⟨a4,U.o⟩ I T;go_wp2;go_roundg m
   case measure=>omega
   have hs:=F.o;rw[HY.o,ip_ rfl]at hs;have aM:=b.o.heap.len;exact⟨m,p+1,D,I,T,Vr_ hl,a0,n0,k0,σ ⟨g,0,ν⟩,k,ch,rfl,rfl,by go_num,oo,lr_ _,oo,h_ hs,HK,av,h_ ⟨ay.o,b3.o⟩⟩
  |false=>
   rw[M]at ap;go_wp2_with fail;refine ap.o.mono ?_;intro e Q aG;obtain⟨rfl,l⟩:=aG.below;have b:=h_<|G.o.next l;have U:=h_<|aC.o.next l;have E:=h_<|ae.o.next l;have r:=h_<|al.o.next l;have ac:=h_<|ac.o _ l;clear aG l e0 e1 b0 b1 ag L G aC ae al ap;have e0:Q.cell? ⟨gy,0,ν⟩=σ (I_ j_ I):=r.o.cell 0;have e1:Q.cell? ⟨gy,1,ν⟩=σ (I_ j_ T):=r.o.cell 1;have b0:Q.cell? ⟨gC,0,ν⟩=σ (I_ j_ co):=b.o.cost.cell 0;have b1:Q.cell? ⟨gC,1,ν⟩=σ (I_ j_ cs):=b.o.cost.cell 1;have ag:=r.o.lt;have L:=b.o.cost.lt;have x0:Q.cell? ⟨gx,0,ν⟩=σ (S_ a0 n0 k0):=E.o.cell 0;have xl:=E.o.lt;by_cases aJ:(I,T)=(co,cs)
   ·injection aJ with h1 h2;subst h1;subst h2;obtain⟨cm,aI⟩:=ex_ (X0_ D best);rw[aI]at ac;by_cases cr:cm<0
    ·have HY:=h_ (show Zd_ (I,T) D (I,T) best=τ by rw[Uz_ M,aI,dt_ cr]);clear M aI;go_wp2_with fail;refine mb_ ac.o ?_;intro S z;have i:=h_<|b.o.next z;have a7:=h_<|U.o.next z;have ad:=h_<|E.o.next z;have J:=h_<|r.o.next z;clear b U E r z e0 e1 b0 b1 ag L x0 xl ac;have e0:S.cell? ⟨gy,0,ν⟩=σ (I_ j_ I):=J.o.cell 0;have e1:S.cell? ⟨gy,1,ν⟩=σ (I_ j_ T):=J.o.cell 1;have b0:S.cell? ⟨gC,0,ν⟩=σ (I_ j_ I):=i.o.cost.cell 0;have b1:S.cell? ⟨gC,1,ν⟩=σ (I_ j_ T):=i.o.cost.cell 1;have ag:=J.o.lt;have L:=i.o.cost.lt;have x0:S.cell? ⟨gx,0,ν⟩=σ (S_ a0 n0 k0):=ad.o.cell 0;have xl:=ad.o.lt;have bf:=i.o.cost.frozen;have HK:=h_<|i.o.keep ⟨a4,a7.o⟩ I T;go_wp2;go_roundg m
     case measure=>omega
     have hs:=F.o;rw[HY.o,ip_ rfl]at hs;have aM:=i.o.heap.len;exact⟨m,p+1,D,I,T,Vr_ hl,a0,n0,k0,σ ⟨g,0,ν⟩,k,ch,rfl,rfl,by go_num,oo,lr_ _,oo,h_ hs,HK,av,h_ ⟨ay.o,b3.o⟩⟩
    have HY:=h_ (show Zd_ (I,T) D (I,T) best=φ by rw[Uz_ M,aI,df_ cr]);clear M aI;go_wp2_with fail;refine mb_ ac.o ?_;intro S z;have i:=h_<|b.o.next z;have a7:=h_<|U.o.next z;have ad:=h_<|E.o.next z;have J:=h_<|r.o.next z;clear b U E r z e0 e1 b0 b1 ag L x0 xl ac;have e0:S.cell? ⟨gy,0,ν⟩=σ (I_ j_ I):=J.o.cell 0;have e1:S.cell? ⟨gy,1,ν⟩=σ (I_ j_ T):=J.o.cell 1;have b0:S.cell? ⟨gC,0,ν⟩=σ (I_ j_ I):=i.o.cost.cell 0;have b1:S.cell? ⟨gC,1,ν⟩=σ (I_ j_ T):=i.o.cost.cell 1;have ag:=J.o.lt;have L:=i.o.cost.lt;have x0:S.cell? ⟨gx,0,ν⟩=σ (S_ a0 n0 k0):=ad.o.cell 0;have xl:=ad.o.lt;go_wp2;go_roundg m
    case measure=>omega
    have hs:=F.o;rw[HY.o,in_ sm_]at hs;have aM:=i.o.heap.len;exact⟨m,p+1,best,I,T,Vr_ hl,Ab,nb,cb,σ ⟨g,0,ν⟩,k,ch,rfl,rfl,by go_num,oo,lr_ _,oo,h_ hs,i,av,HV⟩
   have HY:=h_<|vv_ (v:=D) (u:=best) M aJ;by_cases h1:I=co
   ·subst h1;have di:(T==cs)=φ:=(by rw[bn_];exact λe=>aJ (by rw[e]));clear M aJ;go_wp2;go_roundg m
    case measure=>omega
    have hs:=F.o;rw[HY.o,in_ sm_]at hs;have aM:=b.o.heap.len;exact⟨m,p+1,best,I,cs,Vr_ hl,Ab,nb,cb,σ ⟨g,0,ν⟩,k,ch,rfl,rfl,by go_num,oo,lr_ _,oo,h_ hs,b,av,HV⟩
   have di:(I==co)=φ:=(by rw[bn_];exact h1);clear M aJ;go_wp2;go_roundg m
   case measure=>omega
   have hs:=F.o;rw[HY.o,in_ sm_]at hs;have aM:=b.o.heap.len;exact⟨m,p+1,best,co,cs,Vr_ hl,Ab,nb,cb,σ ⟨g,0,ν⟩,k,ch,rfl,rfl,by go_num,oo,lr_ _,oo,h_ hs,b,av,HV⟩
 have bT:η D<η P.l0:=(by have:=ay.o.1;have:=aj.o;omega);rw[in_ oo]at F;obtain⟨⟨dv,dc⟩,hd⟩:∃d,P.l0[η D]? =σ d:=⟨_,List.getElem?_eq_getElem bT⟩;have dq:dv<=3:=a1.o.few _ (lm_ hd);have dA:1<=dv:=(a1.o.rule _ (lm_ hd)).1;rw[JZ_ hd]at F;obtain⟨q,rfl⟩:=eo_ (show 0<=dv from oo);dsimp only at F;rw[it_]at F;have aZ:=h_ hd;have b8:=h_ bT;have cj:=h_ az;have bA:=h_ (show n0<NL by have:=aj.o;omega);have dC:=f.o.heap.len;have X:=h_ (show ∀g',(σ (⟨g,0,ν⟩:Addr)).map (·.block)=σ g'->g'≠gx from λg' e=>by
  have e2:g=g':=(by injection e);omega)
 have dE:((n0:Int)==(NL:Int))=φ:=(by rw[bn_];omega);have dD:n0<=7:=(by have:=bA.o;omega);clear az hf bT;go_upto_region 20 with fail
 clear q0 q1 q2 q3 q4 A x0 xl;obtain⟨ga,fa,eA,aH,cx,cy⟩:=Xo_ (cd.o.next f.o.old).r0 b8.o aZ.o;subst eA;clear aH cx cy;go_loopw [10,16] (λxh x wr=>∃(j:Nat) (Ah:OA) (nh ch:Nat),j<=q/\x=I_ j_ j/\xh=S_ Ah nh ch/\nh<=k+j/\Ψ (SpA w gC w.heap.size (pcC P.m (σ ⟨ga,fa,ν⟩) NL c0 A1 (η P.l1) c1 A2 (η P.l2) c2 A3 (η P.l3) c3) best co cs (Jr_ P (co,cs) D (Vr_ hl) j) Ab nb cb Ah nh ch wr)/\Ψ (Blk wr gx 185 #[S_ a0 n0 k0,I_ j_ s0])/\Ψ (Mine wr w.heap.size 3 1 a0 n0 k0 (Qa_ D))/\Ψ (∀g,Ah.map (·.block)=σ g->g≠gx)) (λ_ x _=>q-(intOf x).toNat)
 ·exact⟨0,σ ⟨g,0,ν⟩,k,ch,lz_ _,rfl,rfl,oo,f,C,h_ aq.o.2,X⟩
 clear f C aq X dk cA cB dh;obtain⟨j,Ah,nh,ch,dB,rfl,rfl,dr,Y,HS,HM,X⟩:=hrel;obtain⟨q0,q1,q2,q3,q4,A⟩:=Vp_ Y.o.pc;obtain⟨df,de,eA,aH,cx,cy⟩:=Xo_ (cd.o.next Y.o.old).r0 b8.o aZ.o;rw[cj.o]at cx cy;obtain⟨rfl,rfl⟩:ga=df/\fa=de:=(by injection eA with e;injection e with e1 e2;exact⟨e1,e2⟩);clear eA;have cD:(n0:Int)<(NL:Int):=(by have:=bA.o;omega);have x0:wr.cell? ⟨gx,0,ν⟩=σ (S_ a0 n0 k0):=HS.o.cell 0;have xl:=HS.o.lt;by_cases hk:j<q
 ·have c4:=h_ (ay.o.snoc a1.o (by rw[cj.o,aj.o];exact bA.o) aZ.o (i:=j) (by rw[it_];exact hk));have dl:(j:Int)<(q:Int):=oo;go_upto_region 22 with fail
  clear cx cy aH cD q0 q1 q2 q3 q4 A;go_upto_region 23 with(at_builtin;first|(refine kq_ (.tmp 88) (.tmp 90) HM rfl rfl er_ er_ oo ?_;intro dt dx dK ar ai;have cq:=ai.o.size)|(refine Uy_ (.tmp 91) (.tmp 93) ar cq rfl rfl er_ er_ oo ?_;intro A5 c5 dn aD cX aU))
  have bI:=h_<|aU.o _ ai.o;have ak:=h_<|Y.o.next bI.o;obtain⟨q0,q1,q2,q3,q4,A⟩:=Vp_ ak.o.pc;have bm:=h_<|bj.o dn ak.o.old A5 (n0+1) c5 (D++[(j:Int)]) aD.o.rd c4.o;obtain⟨bd,bP⟩:=ex_ (P.bound (D++[(j:Int)]));rw[show YX_ P.l0 P.l1 P.l2 (D++[(j:Int)])=bd from bP]at bm;have aV:=h_ bP;clear bP aU ai ar cq x0 xl;go_wp2_with fail
  refine mb_ bm.o ?_;intro w6 b6;have ck:=h_<|Qb_ bI.o b6;have af:=h_<|ak.o.next b6;have bx:=h_<|aD.o.next b6;clear q0 q1 q2 q3 q4 A bm ak aD bI cX b6;obtain⟨q0,q1,q2,q3,q4,A⟩:=Vp_ af.o.pc;have bn:=h_<|bF.o w6 af.o.old A5 (n0+1) c5 (D++[(j:Int)]) bx.o.rd oo;obtain⟨tv,bV⟩:=ex_ (K5_ P.l3 (D++[(j:Int)]));rw[bV]at bn;have bG:=h_ bV;clear bV;go_wp2_with fail
  refine mb_ bn.o ?_;intro w7 b7;have cl:=h_<|Qb_ ck.o b7;have f:=h_<|af.o.next b7;have cc:=h_<|bx.o.next b7;have C:=h_<|HS.o.next cl.o;have ax:=h_<|HM.o.next cl.o;clear q0 q1 q2 q3 q4 A bn af bx ck b7;obtain⟨q0,q1,q2,q3,q4,A⟩:=Vp_ f.o.pc;have bZ:=h_ Y.o.old.size;clear Y HS HM;have x0:w7.cell? ⟨gx,0,ν⟩=σ (S_ a0 n0 k0):=C.o.cell 0;have xl:=C.o.lt;have b0:w7.cell? ⟨gC,0,ν⟩=σ (I_ j_ co):=f.o.cost.cell 0;have b1:w7.cell? ⟨gC,1,ν⟩=σ (I_ j_ cs):=f.o.cost.cell 1;have L:=f.o.cost.lt
  cases tv with
  |false=>
   have bC:=h_<|qK_ (P:=P) (cost:=(co,cs)) (h:=Vr_ hl)<|.inl bG.o;go_wp2;go_roundw
   ·exact⟨j+1,Ah,nh,ch,oo,by go_num,rfl,oo,h_ (by rw[bC.o];exact f.o),C,ax,X⟩
   exact ms_
  |true=>
   by_cases an:co=0
   ·by_cases bQ:cs<bd
    ·have bC:=h_ (qK_ (P:=P) (cost:=(co,cs)) (h:=Vr_ hl) (x:=D) (k:=j) (.inr ⟨an,by rw[aV.o];exact bQ⟩));have ct:(co==0)=τ:=(by rw[beq_iff_eq];exact an);clear an;go_wp2;go_roundw
     ·exact⟨j+1,Ah,nh,ch,oo,by go_num,rfl,oo,h_ (by rw[bC.o];exact f.o),C,ax,X⟩
     exact ms_
    have K:=h_<|UK_ (P:=P) (cost:=(co,cs)) (h:=Vr_ hl) (x:=D) (k:=j) (λe=>e.elim (λe=>by rw[bG.o]at e;cases e) (λe=>bQ (by rw[<-aV.o];exact e.2)));rw[aV.o]at K;have ct:(co==0)=τ:=(by rw[beq_iff_eq];exact an);have dz:decide (cs<bd)=φ:=df_ bQ;clear an;obtain⟨ds,Z,H⟩:=f.o.heap;rw[<-Z]at K;have bp:=h_ H.1;have bz:=h_ H;have bq:=h_ (show HIn w.heap.size w7 ((A5,n0+1,c5),(D++[(j:Int)],bd))from⟨by dsimp only;omega,cc.o.more bZ.o⟩);have bk:=h_ f.o.old.size;clear Z H;go_wp2_with fail
    refine(Ua_ w.heap.size Ah nh ch ds A5 (n0+1) c5 (D++[(j:Int)]) bd w7 bz.o bq.o oo bk.o).mono ?_;rintro e w8 h8;obtain⟨g8,c8,rfl,aL,aa,aO⟩:=h8;have G:=h_<|f.o.pushed aa aL;have ah:∀g,Ah.map (·.block)=σ g->∃cs,Blk w7 g 185 cs:=λg e=>Qw_ bp.o e
    have ae:=h_ (C.o.grown aa (λe=>X.o _ e.symm rfl));have bH:=h_ (ax.o.grown aa (λg e=>.inr (λe2=>by
     obtain⟨da,b1⟩:=ah _ e;obtain⟨db,b2⟩:=Qw_ ax.o e2;exact Kj_ b2 b1 dc_ rfl)))
    have bB:Ψ (∀g,(σ (⟨g8,0,ν⟩:Addr)).map (·.block)=σ g->g≠gx):=h_ (λg e=>by
     have e2:g8=g:=(by injection e);rcases aO with h|h
     ·exact e2 ▸ X.o _ h
     have:=C.o.lt;omega)
    clear aa aL aO ah q0 q1 q2 q3 q4 A b0 b1 x0 xl L;go_wp2;go_roundw
    ·exact⟨j+1,σ ⟨g8,0,ν⟩,nh+1,c8,oo,by go_num,rfl,oo,h_ (by rw[K.o];exact G.o),ae,bH,bB⟩
    exact ms_
   have K:=h_<|UK_ (P:=P) (cost:=(co,cs)) (h:=Vr_ hl) (x:=D) (k:=j) (λe=>e.elim (λe=>by rw[bG.o]at e;cases e) (λe=>an e.1));rw[aV.o]at K;have ct:(co==0)=φ:=(by rw[bn_];exact an);obtain⟨ds,Z,H⟩:=f.o.heap;rw[<-Z]at K;have bp:=h_ H.1;have bz:=h_ H;have bq:=h_ (show HIn w.heap.size w7 ((A5,n0+1,c5),(D++[(j:Int)],bd))from⟨by dsimp only;omega,cc.o.more bZ.o⟩);have bk:=h_ f.o.old.size;clear Z H;go_wp2_with fail
   refine(Ua_ w.heap.size Ah nh ch ds A5 (n0+1) c5 (D++[(j:Int)]) bd w7 bz.o bq.o oo bk.o).mono ?_;rintro e w8 h8;obtain⟨g8,c8,rfl,aL,aa,aO⟩:=h8;have G:=h_<|f.o.pushed aa aL;have ah:∀g,Ah.map (·.block)=σ g->∃cs,Blk w7 g 185 cs:=λg e=>Qw_ bp.o e
   have ae:=h_ (C.o.grown aa (λe=>X.o _ e.symm rfl));have bH:=h_ (ax.o.grown aa (λg e=>.inr (λe2=>by
    obtain⟨da,b1⟩:=ah _ e;obtain⟨db,b2⟩:=Qw_ ax.o e2;exact Kj_ b2 b1 dc_ rfl)))
   have bB:Ψ (∀g,(σ (⟨g8,0,ν⟩:Addr)).map (·.block)=σ g->g≠gx):=h_ (λg e=>by
    have e2:g8=g:=(by injection e);rcases aO with h|h
    ·exact e2 ▸ X.o _ h
    have:=C.o.lt;omega)
   clear aa aL aO ah q0 q1 q2 q3 q4 A b0 b1 x0 xl L;go_wp2;go_roundw
   ·exact⟨j+1,σ ⟨g8,0,ν⟩,nh+1,c8,oo,by go_num,rfl,oo,h_ (by rw[K.o];exact G.o),ae,bH,bB⟩
   exact ms_
 obtain rfl:q=j:=oo;have dl:(q:Int)<(q:Int)↔False:=sm_;go_wp2;go_roundg m
 case measure=>omega
 have aM:=Y.o.heap.len;have ho:=xl_ (P:=P) (cost:=(co,cs)) (x:=D) (h:=Vr_ hl) q;exact⟨m,p+1,best,co,cs,Jr_ P (co,cs) D (Vr_ hl) q,Ab,nb,cb,Ah,nh,ch,rfl,rfl,by go_num,oo,lr_ _,oo,F,Y,h_ (av.o.open_ a1.o ay.o aZ.o (lr_ _)),HV⟩
def Gy_ {ps:List PN} (h:l[f]? =σ a):(l.take (f+1)).map (QE_ ps)=(l.take f).map (QE_ ps)++[QE_ ps a]:=by
 rw[List.take_add_one,h,List.map_append];rfl
def Qa3_ (hi:v.imp=τ) (ps:List PN) (f:Nat) (Y:Nps v.w0 v.A v.n ps) (X:PNs ps) (aO:f<=v.n) (hN:KidC 224 v ps f) (Q:Uh_ 2000000 ps (QR_ ps f)) (A':OA) (c':Nat) (l:LI) (q:Nat) (t:BA) (z:Bool) (s:Pb) (a:Int) (W:Ω) (hm:η l<=11) (hr:Rd v.w0 1 A' (η l+1) (Qa_ (l++[(q:Int)]))) (av:η l+1<=c')
  (hv:Ψ (∀D∈l,0<=D/\D<(f:Int))) (hq:(q<f/\q<=900)/\QI_ (Qc_ ps (q:Int))) (ha:0<=a/\a<=40) (P:η s.chunks<=79) (hC:BdC v s W) (C:s.text.size+wS 2000000 ps (fnE ps (l++[(q:Int)]) a)<=Xj_):
  Δ π 251 #[P_ (σ ⟨v.T,0,ν⟩),A_ #[I_ j_ 9,T_ t,S_ A' (η l+1) c',B_ z],I_ j_ a] W (YW_ v W (U_ #[]) (VL_ (QR_ ps f) (s,-1) (fnE ps (l++[(q:Int)]) a)).1):=by
 obtain⟨fin,g⟩:=ex_ ((VL_ (QR_ ps f) (s,-1) (fnE ps (l++[(q:Int)]) a)).1);rw[g];have U:fnE ps (l++[(q:Int)]) a=[.put (⟨#[40]⟩++Q5_ (l.map (QE_ ps))++⟨#[41,32,61,62]⟩),.rule 2 2,.split 1 τ a,.kid (q:Int) a]:=by
  have e1:(l++[(q:Int)]).length-1=η l:=by simp
  have e2:(l++[(q:Int)]).take (η l)=l:=by simp
  have e3:(l++[(q:Int)]).getD (η l) 0=(q:Int):=by simp
  unfold fnE;rw[e1,e2,e3]
 rw[U]at g C;have R:Λ W (W.alloc (C_ #[I_ j_ 9,T_ t,S_ A' (η l+1) c',B_ z] 96)):=grow_;have H:=h_ (show Bt 224 v ps f fin (W.alloc (C_ #[I_ j_ 9,T_ t,S_ A' (η l+1) c',B_ z] 96)) s (-1) [.put (⟨#[40]⟩++Q5_ (l.map (QE_ ps))++⟨#[41,32,61,62]⟩),.rule 2 2,.split 1 τ a,.kid (q:Int) a] (W.alloc (C_ #[I_ j_ 9,T_ t,S_ A' (η l+1) c',B_ z] 96))from⟨hC.next R,g,C,Kb.refl _,hN,Q,P⟩);have HR:=h_ hr;have HP:=h_ Y;have al:=h_ (show ∀k:Int,(QE_ ps k).size<=1048576 from λk=>Yt_ X _);have y:=h_<|Below.refl (W.alloc (C_ #[I_ j_ 9,T_ t,S_ A' (η l+1) c',B_ z] 96)).heap.size<|W.alloc<|C_ #[I_ j_ 9,T_ t,S_ A' (η l+1) c',B_ z] 96;have B:=h_ (show Mine (W.alloc (C_ #[I_ j_ 9,T_ t,S_ A' (η l+1) c',B_ z] 96)) (W.heap.size+1) 9 1 ν 0 0 (Qm_ ((l.take 0).map (QE_ ps)))from Mine.mk_nil _ _ _ _);have HQ:=h_ hq;have aA:=hq.1.1;have aQ:=hq.1.2;obtain⟨ap,aq⟩:=ha;obtain⟨b5,m,rfl⟩:=ZC_ HR.o oo;obtain⟨j,E⟩:=ex_ (η l);have n:=h_ E;have J:=h_ (λ(Z:Ω) (C:Below v.w0.heap.size v.w0 Z) (i:Nat) (D:Int) (hd:(l++[(q:Int)])[i]? =σ D)=>QO_ HR.o C (by have:=(gs_.1 hd).1;simpa using this) hd);have M:=h_ (λ(Z:Ω) (C:Below v.w0.heap.size v.w0 Z)=>ZU_ HR.o C oo);rw[E]at hm H B y av |-
 clear hC C g U hN Q hr Y X R P hq E;have aN:(j:Int)<=(c':Int):=oo;have HX:=h_<|Blk.new W 96 #[I_ j_ 9,T_ t,S_ (σ ⟨b5,m,ν⟩) (j+1) c',B_ z];go_in;go_wp2;go_loopw [7,20] (λo x wr=>∃(i:Nat) (A:OA) (c:Nat),i<=j/\x=I_ j_ i/\o=S_ A i c/\Ψ (Mine wr (W.heap.size+1) 9 1 A i c (Qm_ ((l.take i).map (QE_ ps))))/\Ψ (Below (W.alloc (C_ #[I_ j_ 9,T_ t,S_ (σ ⟨b5,m,ν⟩) (j+1) c',B_ z] 96)).heap.size (W.alloc (C_ #[I_ j_ 9,T_ t,S_ (σ ⟨b5,m,ν⟩) (j+1) c',B_ z] 96)) wr)/\Ψ (Blk wr W.heap.size 96 #[I_ j_ 9,T_ t,S_ (σ ⟨b5,m,ν⟩) (j+1) c',B_ z])) (λ_ x _=>j-(intOf x).toNat)
 ·exact⟨0,ν,0,lz_ _,rfl,rfl,B,y,HX⟩
 clear B y HX;obtain⟨i,A,c,aP,rfl,rfl,HM,HB,HX⟩:=hrel;have ar:W.heap.size+1<=wr.heap.size:=by have:=HB.o.size;simpa using this
 have F:=h_<|H.o.next HB.o;by_cases h1:i<j
 ·obtain⟨D,hd⟩:∃d,l[i]? =σ d:=⟨_,gE (by rw[n.o];exact h1)⟩;obtain⟨aB,aR⟩:=hv.o D (lm_ hd);obtain⟨p,rfl⟩:=eo_ aB;have V:p<v.n:=oo;have b:=F.o.C.old;have ck:=J.o wr b i (p:Int) (by rw[List.getElem?_append_left (by rw[n.o];exact h1)];exact hd);have cl:=M.o wr b;obtain⟨_,un,_,aS⟩:=F.o.C.ti hi;obtain⟨x,hx⟩:=HP.o.get V;obtain⟨bn,aK,An,cn,eD,S,_,y1,_⟩:=HP.o.atc V hx;rw[eD]at un;have T:=(QW_ b).1;have yn:=(T _ _ S).trans y1;have aJ:=ll_ S b.size;have N:=h_ (Gy_ (ps:=ps) hd);have an:=h_ (show QE_ ps (p:Int)=x.text by unfold QE_;rw[it_,X7_ hx]);rw[an.o]at N;clear hd y1 T hx eD b;go_wp2_with (at_builtin;refine XW_ (.tmp 24) (.tmp 33) HM ar rfl rfl er_ er_ oo ?_;intro A5 c5 w5 ak ai ag);go_roundw
  ·exact⟨i+1,A5,c5,oo,by go_num,rfl,by rw[N.o];exact ak,h_ (by have h:=HB.o;rw[ws_]at h |-; exact ag.o _ h),h_ (ai.o.2 _ _ _ HX.o dc_)⟩
  exact ms_
 obtain rfl:j=i:=oo;have HJ:=h_ (show(l.take j).map (QE_ ps)=l.map (QE_ ps)by rw[List.take_of_length_le (Nat.le_of_eq n.o)]);have L:=h_ (λW2 (hb:Λ wr W2)=>vT_ A j c (l.map (QE_ ps)) W2 oo (by rw[<-HJ.o];exact HM.o.rd.next hb) (λt ht=>by obtain⟨u,_,rfl⟩:=List.mem_map.1 ht;exact al.o u) (Mine.cap HM.o));have aa:=F.o.size;simp only[wB,Xj_,bs_]at aa;have e4:(⟨#[40]⟩:BA).size=1:=rfl;have e5:(⟨#[41,32,61,62]⟩:BA).size=4:=rfl;have ax:¬9223372036854775807<1+(Q5_ (l.map (QE_ ps))).size:=oo;have ay:¬9223372036854775807<1+(Q5_ (l.map (QE_ ps))).size+4:=oo;have az:¬9223372036854775807<s.text.size+(1+(Q5_ (l.map (QE_ ps))).size+4):=oo;obtain⟨xt,xf,xz⟩:=F.o.C.tx;clear e4 e5 aa;go_upto_region 8 with fail
 have aH:wr.drew.cell? ⟨v.T,6,ν⟩=σ (T_ s.text):=xt
 go_region_with (go_at_call 180;refine mb_ (L.o _ (by exact br.drew)) ?_;intro w8 h8;have I:=h_ (F.o.next (br.drew.trans h8));have ah:=h_ (Qb_ HB.o (br.drew.trans h8));have X8:=I.o.C.tx.1;have aG:=I.o.C.tx.2.1;have aI:=I.o.C.tx.2.2)
 all_goals
  have H9:=h_ I.o.put;clear I X8 aG aI ah h8 L F xt xf xz aH ax ay az;generalize w8.setCell ⟨v.T,6,ν⟩ (T_ (s.text++(⟨#[40]⟩++Q5_ (l.map (QE_ ps))++⟨#[41,32,61,62]⟩)))=W9 at *;generalize s.put (⟨#[40]⟩++Q5_ (l.map (QE_ ps))++⟨#[41,32,61,62]⟩)=s9 at *;go_wp2_with fail;refine Bt.irule hi H9 ?_;intro aL G aD;clear H9 aD;go_wp2_with fail;refine Bt.isplit hi G rfl ?_;intro O r aE;clear G aE;have K:=r.o.box;have x2:=K.q2;have xg:=K.lt;have b:=r.o.C.old;have ck:=J.o O b j (q:Int) (by rw[List.getElem?_append_right (by rw[n.o];exact lr_ _),n.o];simp);have cl:=M.o O b;clear K b;go_wp2_with fail;refine Bt.kid r aA HQ.o.2 ap oo oo ?_ (λ_=>aq);intro aM af aF;clear r aF;rw[hi];go_wp2;go_end0;have h2:=af.o.fin_;exact⟨rfl,h2.1,Zc_ h2.2⟩
def Qfo_ (hi:v.imp=τ) (ps:List PN) (m f j:Nat) (t:BA) (z:Bool) (a:Int) (s:Pb) (W:Ω) (l:LI) (q:Nat) (h:VIn 224 v ps m f j ⟨9,t,l++[(q:Int)],z⟩ a s W) (n:QI_ (Qc_ ps (q:Int))):
  Δ π 224 #[P_ (σ ⟨v.T,0,ν⟩),I_ j_ (j:Int),I_ j_ a] W (YW_ v W (I_ j_ (-1)) (QR_ ps (f+1) j (min a 40) s)):=by
 obtain⟨b,off,A',c',eD,p,y0,y1,y2,y3,k,c⟩:=h.at_;have g:(⟨9,t,l++[(q:Int)],z⟩:PN).kids.length=η l+1:=by show(l++[(q:Int)]).length=_;simp
 rw[g]at y2 k c;clear g;obtain⟨_,un,uf,uz⟩:=h.hC.ti hi;rw[eD]at un;have r:j<v.n:=by have:=h.lt;have:=h.hn;omega
 have i:j<=300:=by have:=h.lt;have:=h.hF.few;omega
 have ha:=h.ha;have o:=h.h40 hi;have HK:=h_ h.kids;have HV:=h_ h;have d:η l<=11:=by have:=h.few;simp only[lA,List.length_cons,List.length_nil]at this;omega
 dsimp only at y0 y1 y2 y3;rw[show min a 40=a from oo];have hq:=h.kids (q:Int) sm_;have HL:=h_<|Qa3_ v hi ps f h.hps h.hpn h.hfn h.hN h.light A' c' l q t z s (min (a+4) 40) (W.alloc (C_ #[I_ j_ 9,T_ t,S_ A' (η l+1) c',B_ z] 96)) d k c (h_ (λD hv=>(HK.o D (List.mem_append_left _ hv)).1)) ⟨⟨oo,oo⟩,n⟩ ⟨oo,oo⟩ h.h79 (h.hC.next grow_)<|h.weight a;rw[show(VL_ (QR_ ps f) (s,-1) (fnE ps (l++[(q:Int)]) (min (a+4) 40))).1=QR_ ps (f+1) j a s from(KX_ h.hx a s).symm]at HL;clear h eD k hq;go_in;go_wp2_with fail
 refine mb_ HL.o ?_;rintro w2 ⟨h2,h3⟩;have H2:=h_ h2;have H3:=h_ h3;clear h2 h3;go_wp2;go_ret;exact⟨rfl,H2.o,Zc_ H3.o⟩
def jt_ (hi:v.imp=τ) (ps:List PN) (m:Nat) (n:Nps v.w0 v.A v.n ps) (hF:TreeF ps m) (k:PNs ps) (hn:v.n=m+1):∀f,f<=m+1->KidC 224 v ps f:=by
 intro f
 induction f with
 |zero=>intro _ j s a W hj;omega
 |succ f ih=>
  intro p j s a W hj b ha i e g hC hZ;obtain⟨x,o⟩:∃x,ps[j]? =σ x:=⟨_,gE (by rw[hF.tree.len];omega)⟩;rw[Qr_ o]at b;have h:VIn 224 v ps m f j x a s W:=⟨n,hF,k,hn,o,hj,oo,b,ih oo,ha,i,e,g,hC,hZ⟩;have d:retB v.imp (ownN ps j s)=I_ j_ (if x.kind=7\/x.kind=8 then Q4_ s else -1):=by
   rw[hi];unfold ownN;rw[X7_ o];rfl
  rw[d];have hV:=h.form;have c:=λ(D:Int) hv=>((h.kids D hv).1.1:(0:Int)<=D)
  obtain⟨kd,t,l,z⟩:=x;simp only at hV c
  cases hV with
  |leaf q hq=>
   rcases hq with rfl|rfl|rfl
   ·exact jq_ v hi ps m f j t z a s W h
   ·exact jr_ v hi ps m f j t z a s W h
   exact js_ v hi ps m f j t z a s W h
  |list l hl=>exact Qa6_ v hi ps m f j t z a s W l h hl
  |call D l h0 hl=>
   obtain⟨q,rfl⟩:=eo_ (c D sm_);exact Qa4_ v hi ps m f j t z a s W q l h h0 hl
  |dot D h0=>
   obtain⟨q,rfl⟩:=eo_ (c D sm_);exact Qc6_ v hi ps m f j t z a s W q h h0
  |chain l h2 hl=>exact jp_ v hi ps m f j t z a s W l h hl
  |pick a1 b1 c1 hl=>exact Qa7_ v hi ps m f j t z a s W [a1,b1,c1] h hl<|h_ rfl
  |fn l D h0 hnm=>
   obtain⟨q,rfl⟩:=eo_ (c D sm_);exact Qfo_ v hi ps m f j t z a s W l q h h0
  |casc D l h1 h0 hl=>
   obtain⟨q,rfl⟩:=eo_ (c D sm_);exact Qa5_ v hi ps m f j t z a s W q l h h0 hl h1
  |par D h0=>
   obtain⟨q,rfl⟩:=eo_ (c D sm_);exact Qc7_ v hi ps m f j t z a s W q h h0
def QiG_:Lib.hasSuffix t.data.toList [61]=YZ_ t:=by
 unfold YZ_
 cases h:t.data.toList.getLast? with
 |none=>
  rw[List.getLast?_eq_none_iff.1 h]
  rfl
 |some c=>
  obtain⟨ys,hy⟩:=List.getLast?_eq_some_iff.1 h;rw[hy];simp only[Lib.hasSuffix,List.isSuffixOf,List.reverse_append,List.reverse_singleton,List.singleton_append,List.isPrefixOf,τc];exact BEq.comm
def Qc2_ (s:Bool) (hs:YZ_ t=s) (ht:t.size<=4194304) (w:Ω):
  Δ π 177 #[T_ t,T_ ⟨#[61]⟩] w (RS_ (B_ s) w):=by
 refine(Tryz.strings_HasSuffix t ⟨#[61]⟩ w oo).mono ?_;rintro e w' ⟨he,hw⟩;exact⟨by rw[he];exact Qg_ ((QiG_ t).trans hs),hw.symm⟩
def kK_ (h1:t.size<=40) (hp:QV_ t=τ):Δ π 221 #[T_ t] r (RS_ (B_ τ) r):=by
 have HP:=h_<|YE_ t r mx_;rw[hp]at HP;have hI:(t.size:Int)<=40:=oo;clear hp;go_in;go_wp2_with fail
 refine mb_ HP.o ?_;rintro w1 rfl;exact Θ
def qz_ (n c:Nat) (ps:List PN) (k:Nat) (w:Ω) (hn:n<=1048576) (a:Nps w e n ps) (hb:Ψ (PNs ps)) (d:k<n) (f:QI_ (Qc_ ps (k:Int))) (hd:1<=Kt_ ps k):
  Δ π 220 #[S_ e n c,I_ j_ (k:Int)] w (RB_ (B_ τ) w):=by
 have HN:=h_<|Ym_ (n:=n) (show inB (k:Int) 0 ((n:Int)-1)=τ from dt_ oo) e c w;obtain⟨x,hx⟩:=a.get d;have HV:=h_<|Z0_ x.kind w;rw[Qr_ hx]at f;rw[show Qk_ x.kind=τ from dt_ f]at HV;have HD:=h_<|JL_ e n c ps k w hn a hb d;obtain⟨b,off,A',c',eD,g,y0,y1,y2,y3⟩:=a.atc d hx;clear a f;have h:(0:Int)<Kt_ ps k:=oo;subst eD;go_in;go_wp2_with fail
 refine mb_ HN.o ?_;rintro w1 rfl;go_wp2_with fail;refine mb_ HV.o ?_;rintro w1 rfl;go_wp2_with fail;refine mb_ HD.o ?_;intro w1 h1;go_wp2;go_ret;exact⟨rfl,h1⟩
structure PcN (P:Hn) (B:Nat) (A0 A1 A2 A3:OA) (c0 c1 c2 c3:Nat) (w:Ω):Prop where
 r0:Mine w B 192 2 A0 (η P.l0) c0 (P.l0.flatMap Q0_)
 r1:Mine w B 178 5 A1 (η P.l1) c1 (P.l1.flatMap Qo_)
 r2:Mine w B 213 3 A2 (η P.l2) c2 (P.l2.flatMap QJ_)
 r3:Mine w B 215 2 A3 (η P.l3) c3 (P.l3.flatMap KF_)
def PcN.pcM {P:Hn} {A1 A2 A3:OA} {c2 c3:Nat}  (B:PcN P f z A1 A2 A3 h q c2 c3 w):PcM P z A1 A2 A3 w:=⟨B.r0.rd,B.r1.rd,B.r2.rd,B.r3.rd⟩
def PcN.more {P:Hn} {B B':Nat} {A1 A2 A3:OA} {c3:Nat} (A0:PcN P B z A1 A2 A3 f h q c3 w) (a:B'<=B):PcN P B' z A1 A2 A3 f h q c3 w:=⟨A0.r0.more a,A0.r1.more a,A0.r2.more a,A0.r3.more a⟩
def PcoR (P:Hn) (w:Ω) (e:Ending) (w':Ω):Prop:=∃A0 A1 A2 A3 c0 c1 c2 c3,e=R_ (U_ #[A_ (pcCells P A0 A1 A2 A3 c0 c1 c2 c3),B_ τ])/\PcN P w.heap.size A0 A1 A2 A3 c0 c1 c2 c3 w'/\Λ w w'
def BdC.start {D:BD} (hT:D.w0.heap.size<=D.T) (hb:Blk w D.T (bty D.imp) (Kh_ D.imp D.m D.A D.n D.c (S_ ν 0 0) (S_ ν 0 0) (S_ ν 0 0) (S_ ν 0 0) x)) (ho:Below D.w0.heap.size D.w0 w):BdC D (J9_ x) w:=
 ⟨ν,0,ν,0,ν,0,ν,0,⟨hb,Mine.mk_nil _ _ _ _,Mine.mk_nil _ _ _ _,Mine.mk_nil _ _ _ _,Mine.mk_nil _ _ _ _,hT,ho⟩⟩
def Bt.start {F:FuncId} {D:BD} (hC:BdC D (J9_ x) w) (hN:KidC F D y (f+1)) (hF:TreeF y f) (hp:PNs y) (h1:x.size<=40) (h3:Kk_ y h<=300):Bt F D y (f+1) (XZ_ y (f+1) x (h:Int)) w (J9_ x) (-1) (evP x (h:Int)) w:=by
 refine⟨hC,rfl,?_,Kb.refl _,hN,xV_ oo hF hp (f+1),lz_ _⟩;have h2:=zr_ 2000000 y x h;have h5:Kk_ y h*2000000<=300*2000000:=Nat.mul_le_mul_right _ h3;show x.size+_<=_;unfold Xj_;omega
def QfG_ {w:Ω} {B:Nat} {e:TypeId} {z:Nat} {A:OA} {n c:Nat} {xs:List Υ} {g:Nat} {t:TypeId} {cs:Array Υ} (h:Mine w B e z A n c xs) (hb:Blk w g t cs) (a:t≠e) (b d f i v4:Υ):Mine (((((w.setCell ⟨g,0,ν⟩ b).setCell ⟨g,1,ν⟩ d).setCell ⟨g,2,ν⟩ f).setCell ⟨g,3,ν⟩ i).setCell ⟨g,4,ν⟩ v4) B e z A n c xs:=by
 have b1:=hb.set_ 0 b;have b2:=b1.set_ 1 d;have b3:=b2.set_ 2 f;have b4:=b3.set_ 3 i;exact((((h.far_set hb a 0 b).far_set b1 a 1 d).far_set b2 a 2 f).far_set b3 a 3 i).far_set b4 a 4 v4
def Qcv_ (h:Λ w d) (a:w.heap.size<=f) (v0 v1 v2 v3 v4:Υ):Λ w (((((d.setCell ⟨f,0,ν⟩ v0).setCell ⟨f,1,ν⟩ v1).setCell ⟨f,2,ν⟩ v2).setCell ⟨f,3,ν⟩ v3).setCell ⟨f,4,ν⟩ v4):=
 ((((h.setCell a v0).setCell a v1).setCell a v2).setCell a v3).setCell a v4
def PcN.put5 {P:Hn} {A1 A2 A3:OA} {c2 c3:Nat}  (A0:PcN P f z A1 A2 A3 h q c2 c3 w) {g:Nat} {cs:Array Υ} (B:Blk w g 149 cs) (a b c d e:Υ):PcN P f z A1 A2 A3 h q c2 c3 (((((w.setCell ⟨g,0,ν⟩ a).setCell ⟨g,1,ν⟩ b).setCell ⟨g,2,ν⟩ c).setCell ⟨g,3,ν⟩ d).setCell ⟨g,4,ν⟩ e):=
 ⟨QfG_ A0.r0 B dc_ a b c d e,QfG_ A0.r1 B dc_ a b c d e,QfG_ A0.r2 B dc_ a b c d e,QfG_ A0.r3 B dc_ a b c d e⟩
def BdA.pcN {D:BD} {fin:Pb} {a width:Int} {A1 A2 A3:OA} {c3:Nat}  (tx:BdA D ⟨fin.rules,fin.chunks++[(fin.text++x,0,0,φ,0)],fin.spans,fin.ties,b⟩ z f A1 h A2 q A3 c3 w):PcN (hnOf fin x a width) D.w0.heap.size z A1 A2 A3 f h q c3 w:=⟨tx.r0,tx.r1,tx.r2,tx.r3⟩
def Qcr_ {e:Array Oper} {rest:List Oper} {o:Oper} {a:Act} {Q:Exit->Act->Ω->Prop} (s x:Operand) {xs:List ChunkD} {t:BA}
  (HM:Ψ (Mine w f 178 5 z h q (xs.flatMap Qo_))) (hB:f<=w.heap.size) (B:o.guard=ν) (ho:o.op=.call { callee:=.builtin .append,args:=#[s,x],argTypes:=#[145,145] }) (hs:a.eval s=S_ z h q) (hx:a.eval x=S_ (σ ⟨w.heap.size,0,ν⟩) 1 1) (k:h<=100000)
  (w1:∀A' c' w',Ψ (w'.ownsRow f 178 5 (S_ A' (h+1) c') (h+1) (xs.flatMap Qo_++Qo_ (t,0,0,φ,0)))->Ψ ((w.alloc (C_ #[T_ t,I_ j_ 0,I_ j_ 0,B_ φ,I_ j_ 0] 178)).grownBy w' (S_ z h q).ownBlock)->wpList π e Q rest (a.put o.dst (S_ A' (h+1) c')) w'):wpList π e Q (o::rest) a (w.alloc (C_ #[T_ t,I_ j_ 0,I_ j_ 0,B_ φ,I_ j_ 0] 178)):=by
 obtain⟨i0,hi,g,i,j⟩:=info_parts Vh_;refine wpList_append_own _ B s x _ ho f 178 i0 (A_ #[T_ ⟨#[]⟩,I_ j_ 0,I_ j_ 0,B_ φ,I_ j_ 0]) 5 48 underlying145 hi g i j rfl dc_ (S_ z h q) h (xs.flatMap Qo_) hs (Mine.alloc HM.o _) ⟨w.heap.size,0,ν⟩ 1 1 (Qo_ (t,0,0,φ,0)) hx rfl (World.news_of_block (cs:=#[T_ t,I_ j_ 0,I_ j_ 0,B_ φ,I_ j_ 0]) (t:=178) (fr:=(0,0)) (heap_alloc_new w _)) (Vc_ _) mx_ oo so_ ?_;intro v' w5 d hg _;obtain⟨A5,c5,rfl,_⟩:=Mine.of d;exact w1 A5 c5 w5 d hg
def qp_ (Q:Wp) (G:Wk Q) (A:OA) (c:Nat) (k:Nat) (j f:BA) (a:Int) (w:Ω) (ar:Nps w A (Q.m+1) Q.ps) (N:k<Q.m+1) (hv:QI_ (Qc_ Q.ps (k:Int))) (hp:QV_ j=τ) (h1:j.size<=40) (hq:QV_ f=τ) (h2:f.size<=40) (ha:0<=a/\a<=60) (E:Kk_ Q.ps k<=300):
  Δ π 222 #[S_ A (Q.m+1) c,I_ j_ (k:Int),T_ j,T_ f,I_ j_ a] w (PcoR (KZ_ Q j (k:Int) f a) w):=by
 have HR:=h_ (UM_ G 2100000 (lr_ _) ([],1) ha hp h1 h2 (k:=(k:Int)) ⟨oo,oo⟩ hv (by rw[it_];exact E)).1;have L:=h_ (show okP (KZ_ Q j (k:Int) f a)=τ from qM_ (VD_ G.F (lr_ _) hp N hv) ha hq);have Z:=h_ (show(XZ_ Q.ps (Q.m+1) j (k:Int)).text.size<=1000000000 from by
  have h3:=UO_ G.F G.P (Q.m+1) j k;have h5:Kk_ Q.ps k*2000000<=300*2000000:=Nat.mul_le_mul_right _ E;unfold tot at h3;omega)
 have I:(XZ_ Q.ps (Q.m+1) j (k:Int)).chunks.length<=79:=(VD_ G.F (lr_ _) hp N hv).c79;unfold KZ_ at HR L;have ab:=G.F.few;obtain⟨t,v⟩:=ex_ (w.alloc (C_ #[I_ j_ 0,S_ ν 0 0,S_ ν 0 0,S_ ν 0 0,S_ ν 0 0] 149));have ah:=h_ (show Blk t w.heap.size 149 #[I_ j_ 0,S_ ν 0 0,S_ ν 0 0,S_ ν 0 0,S_ ν 0 0]by rw[<-v];exact Blk.new _ _ _);have ac:t.heap.size=w.heap.size+1:=by rw[<-v,ws_]
 have af:=h_ (show Λ w t by rw[<-v];exact Ql_ br);have Y:=h_ (show Nps t A (Q.m+1) Q.ps by rw[<-v];exact ar.alloc _);obtain⟨W1,H⟩:=ex_ (t.alloc (C_ #[I_ j_ a,S_ ν 0 0,S_ ν 0 0,S_ ν 0 0,S_ ν 0 0,S_ A (Q.m+1) c,T_ j,B_ τ] 225));have S:=h_ (show BdC ⟨τ,w.heap.size+1,a,A,Q.m+1,c,t⟩ (J9_ j) W1 from BdC.start (D:=⟨τ,w.heap.size+1,a,A,Q.m+1,c,t⟩) (Nat.le_of_eq ac) (by rw[<-H,<-ac];exact Blk.new t 225 _) (by rw[<-H];exact Ql_ br));have M:=h_<|Bt.start S.o (jt_ ⟨τ,w.heap.size+1,a,A,Q.m+1,c,t⟩ rfl Q.ps Q.m Y.o G.F G.P rfl (Q.m+1) (lr_ _)) G.F G.P h1 E;obtain⟨ps,o⟩:=ex_ Q.ps;obtain⟨m,y⟩:=ex_ Q.m;rw[o,y]at HR L Z M I;rw[show KZ_ Q j (k:Int) f a=hnOf (XZ_ ps (m+1) j (k:Int)) f a Q.width by unfold KZ_;rw[o,y]];rw[o]at hv Y;rw[y]at N ab H Y;rw[y];rw[y]at S;clear o y ar G hp hq;obtain⟨D,hD⟩:∃D:BD,(⟨τ,w.heap.size+1,a,A,m+1,c,t⟩:BD)=D:=⟨_,rfl⟩;have hi:D.imp=τ:=by rw[<-hD]
 have ak:=h_ (show D.T=w.heap.size+1 by rw[<-hD]);have V:=h_ (show D.w0=t by rw[<-hD]);have aF:=h_ (show D.m=a by rw[<-hD]);rw[hD]at M;clear hD S;obtain⟨fin,J⟩:=ex_ (XZ_ ps (m+1) j (k:Int));rw[J]at HR L Z M |-
 have aE:=h_ (show η fin.chunks<=79 by rw[<-J];exact I);clear J I;have aH:=h_ (λW=>Qc2_ j (YZ_ j) rfl oo W);go_in;go_upto_region 3 with fail
 try rw[v]
 try rw[H]
 clear v H ac;rw[<-ak.o];go_wp2_with fail;refine mb_ (aH.o _) ?_;rintro w1 rfl
 go_upto_if 21 with fail
 go_cut [12] (λx wx=>x=P_ (σ ⟨D.T,0,ν⟩)/\∃(s:Pb) (r:Int),Ψ (Bt 224 D ps (m+1) fin W1 s r [.kid (k:Int) 0] wx))
 ·
  cases he:YZ_ j with
  |true=>
   rw[show evP j (k:Int)=[.rule 2 2,.split 1 τ 4,.kid (k:Int) 0]by unfold evP;rw[ip_ he];rfl]at M;clear he;go_wp2_with fail;refine Bt.irule hi M ?_;intro a4 aC aO;clear M aO;go_wp2_with fail;refine Bt.isplit hi aC rfl ?_;intro a5 HT a6;go_wp2;go_meet;exact⟨rfl,_,_,HT⟩
  |false=>
   rw[show evP j (k:Int)=[.kid (k:Int) 0]by unfold evP;rw[in_ (by rw[he];simp)];rfl]at M;clear he;go_wp2;go_meet;exact⟨rfl,_,_,M⟩
 case rest=>
 obtain⟨rfl,s0,r0,HT⟩:=hcut;clear M;go_wp2_with fail;refine Bt.kid HT N hv oo oo rfl ?_ (λ_=>oo);intro B ae aP;clear HT aP;obtain⟨A0,c0,A1,c1,A2,c2,A3,c3,hA⟩:=ae.o.fin_.1;have O:=h_ hA;have P:=h_<|ah.o.next (by have:=hA.old;rw[V.o]at this;exact this);clear hA ae;obtain⟨x0,x1,x2,x3,xn,xt,xb,xf,xz⟩:=O.o.icells hi;have aL:=Z.o;have aN:¬9223372036854775807<fin.text.size+f.size:=oo;have a3:=aE.o;have X:=h_ O.o.r1;have ao:D.w0.heap.size<=B.heap.size:=O.o.old.size;have aq:D.fo 1=2:=by unfold BD.fo;rw[hi];rfl
 have HP:=h_ (λ(v':Υ) (w3:Ω) h1 h2=>O.o.app1 (i:=2) aq (show Λ B (B.alloc (C_ #[T_ (fin.text++f),I_ j_ 0,I_ j_ 0,B_ φ,I_ j_ 0] 178))from Ql_ br) (d:=(fin.text++f,0,0,φ,0)) (v':=v') (w3:=w3) h1 h2);have ag:=h_ (λ(w3:Ω) (hg:(B.alloc (C_ #[T_ (fin.text++f),I_ j_ 0,I_ j_ 0,B_ φ,I_ j_ 0] 178)).grownBy w3 (S_ A1 (η fin.chunks) c1).ownBlock)=>(P.o.alloc _).grown hg (λe=>by
  obtain⟨cs,b⟩:=Qw_ X.o (g:=w.heap.size) (by cases A1<;>first|(simp[Value.ownBlock]at e;done)|(simpa[Value.ownBlock]using e.symm));exact Kj_ P.o b dc_ rfl))
 clear aq;go_upto_region 8 with(at_builtin;refine Qcr_ (.tmp 29) (.tmp 35) X ao rfl rfl er_ er_ oo ?_;intro z C w5 al K;have F:=(O.o.grown (Ql_ br) O.o.r1 (w3:=w5) K.o (Ne.symm (YY_ D.imp).2.2.1) dc_).1;have ai:=h_ (ag.o _ K.o);rw[hi]at F;have j5:w5.cell? ⟨D.T,2,ν⟩=σ (S_ A1 (η fin.chunks) c1):=F.cell 2;have jf:=F.frozen;have jz:=F.lt;have HW:=h_ (HP.o _ _ al.o K.o);clear F)
 obtain⟨A',c',ev,aJ,ap,aK⟩:=HW.o;injection ev with ev1 ev2 ev3;subst ev1;subst ev3;have R:=h_ ap;have aM:w.heap.size≠D.T:=by rw[ak.o];omega
 have aj:=h_ (ai.o.far (p:=⟨D.T,2,ν⟩) aM (S_ z (η fin.chunks+1) C));clear ev2 aJ ap aK HW ai P O X HP ag al K j5 jf jz x0 x1 x2 x3 xn xt xb xf xz aL aN ao;generalize w5.setCell ⟨D.T,2,ν⟩ (S_ z (η fin.chunks+1) C)=W6 at *;have am:=h_ (show Δ π 247 #[A_ #[I_ j_ a,S_ A0 (η fin.rules) c0,S_ z (η fin.chunks+1) C,S_ A2 (η fin.spans) c2,S_ A3 (η fin.ties) c3]] W6 (RB_ (B_ τ) W6)from by
  have h:=JM_ (hnOf fin f a Q.width) A0 z A2 A3 c0 C c2 c3 W6 ⟨R.o.r0.rd,R.o.r1.rd,R.o.r2.rd,R.o.r3.rd⟩ HR.o L.o;unfold pcCells at h;rw[show(hnOf fin f a Q.width).l1.length=η fin.chunks+1 by show(_++[_]).length=_;simp]at h;exact h)
 have U:=h_ (λ(W:Ω) (h:Λ W6 W)=>(show Blk W D.T (bty τ) #[I_ j_ a,S_ A0 (η fin.rules) c0,S_ z (η fin.chunks+1) C,S_ A2 (η fin.spans) c2,S_ A3 (η fin.ties) c3,S_ D.A D.n D.c,T_ fin.text,B_ τ]from by
  have n:=R.o.blk.next h;unfold Kh_ at n;rw[hi,aF.o]at n;rw[lA]at n;exact n))
 have n:=U.o W6 br;have y0:=n.q0;have y1:=n.q1;have y2:=n.q2;have y3:=n.q3;have y4:=n.q4;have yz:=n.lt;clear n;go_wp2_with fail;refine mb_ am.o ?_;intro w7 h7;have T:=h_<|R.o.next h7;have l:=h_<|aj.o.next h7;have n:=U.o w7 h7;clear y0 y1 y2 y3 y4 yz h7 R aj am U;have y0:=n.q0;have y1:=n.q1;have y2:=n.q2;have y3:=n.q3;have y4:=n.q4;have yz:=n.lt;have z0:=l.o.q0;have z1:=l.o.q1;have z2:=l.o.q2;have z3:=l.o.q3;have z4:=l.o.q4;have zf:=l.o.frozen;have zz:=l.o.lt;clear n;go_wp2;have q:=h_<|((((l.o.set_ 0 (I_ j_ a)).set_ 1 (S_ A0 (η fin.rules) c0)).set_ 2 (S_ z (η fin.chunks+1) C)).set_ 3 (S_ A2 (η fin.spans) c2)).set_ 4 (S_ A3 (η fin.ties) c3);have hC:=T.o;have aG:=h_<|((hC.pcN (a:=a) (width:=Q.width)).more (show w.heap.size<=D.w0.heap.size by have:=af.o.size;rw[V.o];exact this)).put5 l.o (I_ j_ a) (S_ A0 (η fin.rules) c0) (S_ z (η fin.chunks+1) C) (S_ A2 (η fin.spans) c2) (S_ A3 (η fin.ties) c3);have aD:=h_<|Qcv_ (Qb_ af.o (by have h:=T.o.old;rw[V.o]at h;exact h)) (lr_ _) (I_ j_ a) (S_ A0 (η fin.rules) c0) (S_ z (η fin.chunks+1) C) (S_ A2 (η fin.spans) c2)<|S_ A3 (η fin.ties) c3;clear y0 y1 y2 y3 y4 yz z0 z1 z2 z3 z4 zf zz l T hC;generalize ((((w7.setCell ⟨w.heap.size,0,ν⟩ (I_ j_ a)).setCell ⟨w.heap.size,1,ν⟩ (S_ A0 (η fin.rules) c0)).setCell ⟨w.heap.size,2,ν⟩ (S_ z (η fin.chunks+1) C)).setCell ⟨w.heap.size,3,ν⟩ (S_ A2 (η fin.spans) c2)).setCell ⟨w.heap.size,4,ν⟩ (S_ A3 (η fin.ties) c3)=W9 at *;have z0:W9.cell? ⟨w.heap.size,0,ν⟩=σ (I_ j_ a):=q.o.cell 0;have z1:W9.cell? ⟨w.heap.size,1,ν⟩=σ (S_ A0 (η fin.rules) c0):=q.o.cell 1;have z2:W9.cell? ⟨w.heap.size,2,ν⟩=σ (S_ z (η fin.chunks+1) C):=q.o.cell 2;have z3:W9.cell? ⟨w.heap.size,3,ν⟩=σ (S_ A2 (η fin.spans) c2):=q.o.cell 3;have z4:W9.cell? ⟨w.heap.size,4,ν⟩=σ (S_ A3 (η fin.ties) c3):=q.o.cell 4;have zz:=q.o.lt;refine bodyPost_ret (by simp[results,Tryz.results222,go_sem,z0,z1,z2,z3,z4];try rfl) rfl ?_;refine⟨A0,z,A2,A3,c0,C,c2,c3,?_,aG.o,aD.o⟩;unfold pcCells;rw[show(hnOf fin f a Q.width).l1.length=η fin.chunks+1 by show(_++[_]).length=_;simp]
 rfl
def U2_ (Q:Wp) (K:Wk Q) (A:OA) (c:Nat) (k:Nat) (f b:BA) (a:Int) (w:Ω) (y:Nps w A (Q.m+1) Q.ps) (i:k<Q.m+1) (X:QI_ (Qc_ Q.ps (k:Int))) (U:QV_ f=τ) (h1:f.size<=40) (V:QV_ b=τ) (h2:b.size<=40) (R:0<=a/\a<=60) (J:Kk_ Q.ps k<=300):
  Δ π 176 #[S_ A (Q.m+1) c,I_ j_ (k:Int),T_ f,T_ b,I_ j_ a] w (PcoR (KZ_ Q f (k:Int) b a) w):=by
 have q:=K.F.few;obtain⟨x,hx⟩:=y.get i;have hd:=(X1_ K.D i hx).1.1;have O:=h_ (λ(W:Ω) (h:Nps W A (Q.m+1) Q.ps)=>qz_ A (Q.m+1) c Q.ps k W oo h (h_ K.P) i X hd);have HR:=h_ (λW=>Q2_ (show inB a 0 60=τ from dt_ ⟨R.1,R.2⟩) W);have D:=h_ (λW=>kK_ f W h1 U);have E:=h_ (λW=>kK_ b W h2 V);have j:=h_ (λ(W:Ω) (h:Nps W A (Q.m+1) Q.ps)=>qp_ Q K A c k f b a W h i X U h1 V h2 R J);obtain⟨P,hP⟩:=ex_ (KZ_ Q f (k:Int) b a);rw[hP]at j |-
 have p:Λ w (w.alloc (C_ #[I_ j_ 0,S_ ν 0 0,S_ ν 0 0,S_ ν 0 0,S_ ν 0 0] 149)):=Ql_ br;have B:=h_ p;have l:=h_<|y.next p;have H:=h_<|Blk.new w 149 #[I_ j_ 0,S_ ν 0 0,S_ ν 0 0,S_ ν 0 0,S_ ν 0 0];clear y K hx hd X U V hP p;obtain⟨n,hn⟩:=ex_ (Q.m+1);rw[hn]at O j l i |-
 clear hn q;go_in;go_wp2_with fail;refine mb_ (O.o _ l.o) ?_;intro w1 L;have m:=h_<|Qb_ B.o L;have G:=h_<|l.o.next L;have o:=h_<|H.o.next L;clear B l H L;go_wp2_with fail
 refine mb_ (HR.o _) ?_;rintro w2 rfl;go_wp2_with fail;refine mb_ (D.o _) ?_;rintro w2 rfl;go_wp2_with fail;refine mb_ (E.o _) ?_;rintro w2 rfl;go_wp2_with fail;refine(j.o _ G.o).mono ?_;rintro e z ⟨A0,A1,A2,A3,c0,c1,c2,c3,rfl,hm,S⟩;unfold pcCells;have d:=h_<|o.o.next S;have F:=h_<|hm.more m.o.size;have C:=h_<|Qb_ m.o S;have T:=o.o.lt;clear hm S m G o O HR D E j;obtain⟨n0,r⟩:=ex_ (η P.l0);obtain⟨n1,s⟩:=ex_ (η P.l1);obtain⟨n2,t⟩:=ex_ (η P.l2);obtain⟨n3,v⟩:=ex_ (η P.l3);have HE:=h_ (show pcCells P A0 A1 A2 A3 c0 c1 c2 c3=#[I_ j_ P.m,S_ A0 n0 c0,S_ A1 n1 c1,S_ A2 n2 c2,S_ A3 n3 c3]by unfold pcCells;rw[r,s,t,v]);rw[r,s,t,v];have g:=h_<|((((d.o.set_ 0 (I_ j_ P.m)).set_ 1 (S_ A0 n0 c0)).set_ 2 (S_ A1 n1 c1)).set_ 3 (S_ A2 n2 c2)).set_ 4 (S_ A3 n3 c3);have N:=h_<|F.o.put5 d.o (I_ j_ P.m) (S_ A0 n0 c0) (S_ A1 n1 c1) (S_ A2 n2 c2)<|S_ A3 n3 c3;have M:=h_<|Qcv_ C.o (lr_ _) (I_ j_ P.m) (S_ A0 n0 c0) (S_ A1 n1 c1) (S_ A2 n2 c2)<|S_ A3 n3 c3;have Y:z.cell? ⟨w.heap.size,0,ν⟩=σ (I_ j_ 0):=d.o.cell 0;have Z:z.cell? ⟨w.heap.size,1,ν⟩=σ (S_ ν 0 0):=d.o.cell 1;have z2:z.cell? ⟨w.heap.size,2,ν⟩=σ (S_ ν 0 0):=d.o.cell 2;have z3:z.cell? ⟨w.heap.size,3,ν⟩=σ (S_ ν 0 0):=d.o.cell 3;have z4:z.cell? ⟨w.heap.size,4,ν⟩=σ (S_ ν 0 0):=d.o.cell 4;have zf:=d.o.frozen;have zz:=d.o.lt;clear d F C T r s t v;go_wp2;clear Y Z z2 z3 z4 zf zz;generalize ((((z.setCell ⟨w.heap.size,0,ν⟩ (I_ j_ P.m)).setCell ⟨w.heap.size,1,ν⟩ (S_ A0 n0 c0)).setCell ⟨w.heap.size,2,ν⟩ (S_ A1 n1 c1)).setCell ⟨w.heap.size,3,ν⟩ (S_ A2 n2 c2)).setCell ⟨w.heap.size,4,ν⟩ (S_ A3 n3 c3)=I at *;have Y:I.cell? ⟨w.heap.size,0,ν⟩=σ (I_ j_ P.m):=g.o.cell 0;have Z:I.cell? ⟨w.heap.size,1,ν⟩=σ (S_ A0 n0 c0):=g.o.cell 1;have z2:I.cell? ⟨w.heap.size,2,ν⟩=σ (S_ A1 n1 c1):=g.o.cell 2;have z3:I.cell? ⟨w.heap.size,3,ν⟩=σ (S_ A2 n2 c2):=g.o.cell 3;have z4:I.cell? ⟨w.heap.size,4,ν⟩=σ (S_ A3 n3 c3):=g.o.cell 4;have zz:=g.o.lt;refine bodyPost_ret (by simp[results,Tryz.results176,go_sem,Y,Z,z2,z3,z4];try rfl) rfl ?_;exact⟨A0,A1,A2,A3,c0,c1,c2,c3,by rw[HE.o],N.o,M.o⟩
def Qdi_ (h:0<x.size):x.data.toList.getLast? =σ (x[x.size-1]):=by
 rw[List.getLast?_eq_getElem?,QF_,List.getElem?_eq_getElem (by rw[QF_];omega)]
 rfl
def WK_ (Q:Wp) (E:Wk Q) (A:OA) (c:Nat) (k:Nat) (i f:BA) (a:Int) (w:Ω) (T:Nps w A (Q.m+1) Q.ps) (y:k<Q.m+1) (hv:QI_ (Qc_ Q.ps (k:Int))) (hp:QV_ i=τ) (h1:i.size<=40) (hq:QV_ f=τ) (h2:f.size<=40) (ha:0<=a/\a<=60) (G:Kk_ Q.ps k<=300):
    Δ π 113 #[S_ A (Q.m+1) c,I_ j_ (k:Int),T_ i,T_ f,I_ j_ a] w (PcoR (KZ_ Q i (k:Int) f a) w):=by
  have HR:=h_ (UM_ E 2100000 (lr_ _) ([],1) ha hp h1 h2 (k:=(k:Int)) ⟨oo,oo⟩ hv (by rw[it_];exact G)).1;have R:=h_ (show okP (KZ_ Q i (k:Int) f a)=τ from qM_ (VD_ E.F (lr_ _) hp y hv) ha hq);have ag:=h_ (show(XZ_ Q.ps (Q.m+1) i (k:Int)).text.size<=1000000000 from by
    have h3:=UO_ E.F E.P (Q.m+1) i k;have h5:Kk_ Q.ps k*2000000<=300*2000000:=Nat.mul_le_mul_right _ G;unfold tot at h3;omega)
  have J:(XZ_ Q.ps (Q.m+1) i (k:Int)).chunks.length<=79:=(VD_ E.F (lr_ _) hp y hv).c79;unfold KZ_ at HR R;have ai:=E.F.few;obtain⟨x,hx⟩:=T.get y;have hd:=(X1_ E.D y hx).1.1;have O:=h_ (λ(W:Ω) (h:Nps W A (Q.m+1) Q.ps)=>show Δ π 77 #[S_ A (Q.m+1) c,I_ j_ (k:Int)] W (RB_ (I_ j_ (Kt_ Q.ps k)) W)from by
    have h:=V9_ A (Q.m+1) c Q.ps (k:Int) W oo h (h_ E.P);rwa[show VS_ Q.ps (k:Int)=Kt_ Q.ps k by unfold VS_;rw[ip_ ⟨oo,by rw[T.len];omega⟩,it_]]at h)
  have aF:=h_ (λW=>show Δ π 133 #[I_ j_ x.kind] W (RS_ (B_ τ) W)from by
    have h:=Zq_ x.kind W;rw[Qr_ hx]at hv;rwa[show Qk_ x.kind=τ from dt_ hv]at h)
  have aC:=h_ (λW=>Ko_ (show inB a 0 60=τ from dt_ ⟨ha.1,ha.2⟩) W);have aA:=h_ (λW=>by have h:=Vl_ i W mx_;rwa[hp]at h);have aB:=h_ (λW=>by have h:=Vl_ f W mx_;rwa[hq]at h);obtain⟨W0,H⟩:=ex_ (w.alloc (C_ #[I_ j_ 0,S_ ν 0 0,S_ ν 0 0,S_ ν 0 0,S_ ν 0 0] 149));have V:=h_ (show Blk W0 w.heap.size 149 #[I_ j_ 0,S_ ν 0 0,S_ ν 0 0,S_ ν 0 0,S_ ν 0 0]by rw[<-H];exact Blk.new _ _ _);have ao:=h_ (show Λ w W0 by rw[<-H];exact Ql_ br);have P:=h_ (show Nps W0 A (Q.m+1) Q.ps by rw[<-H];exact T.alloc _);have q:=h_ (λ(W:Ω) (h:Nps W A (Q.m+1) Q.ps)=>h.atc y hx);have S:=h_ (λ(W:Ω) (h:Nps W A (Q.m+1) Q.ps) (W1:Ω) (hC:BdC ⟨φ,W.heap.size,a,A,Q.m+1,c,W⟩ (J9_ i) W1)=>Bt.start hC (j9_ ⟨φ,W.heap.size,a,A,Q.m+1,c,W⟩ rfl Q.ps Q.m h E.F E.P rfl (Q.m+1) (lr_ _)) E.F E.P h1 G);obtain⟨ps,z⟩:=ex_ Q.ps;obtain⟨m,L⟩:=ex_ Q.m;rw[z,L]at HR R ag J S P O q;rw[show KZ_ Q i (k:Int) f a=hnOf (XZ_ ps (m+1) i (k:Int)) f a Q.width by unfold KZ_;rw[z,L]];rw[z]at hv hd;rw[L]at y ai;rw[L];clear z L T E hp hq hx;obtain⟨fin,K⟩:=ex_ (XZ_ ps (m+1) i (k:Int));rw[K]at HR R ag S |-
  have a8:=h_ (show η fin.chunks<=79 by rw[<-K];exact J);clear K J;obtain⟨dv,aK⟩:=ex_ (Kt_ ps k);rw[aK]at hd O;clear aK;have bl:(dv==0)=φ:=by rw[bn_];omega
  have bn:¬(40:Int)<i.size:=oo;have bo:¬(40:Int)<f.size:=oo;go_in;go_upto_region 1 with fail
  try rw[H]
  clear H;go_wp2_with fail;refine mb_ (O.o _ P.o) ?_;intro w1 b1;have ap:=h_<|Qb_ ao.o b1;have ae:=h_<|P.o.next b1;have F:=h_<|V.o.next b1;clear ao P V b1;obtain⟨b,off,A',c',eD,aJ,y0,y1,y2,y3⟩:=q.o _ ae.o;subst eD;go_wp2_with fail
  refine mb_ (aF.o _) ?_;rintro w2 rfl;go_wp2_with fail;refine mb_ (aC.o _) ?_;rintro w2 rfl;go_wp2_with fail;refine mb_ (aA.o _) ?_;rintro w2 rfl;go_wp2_with fail;refine mb_ (aB.o _) ?_;rintro w2 rfl;go_upto_region 4 with fail
  have HS:=h_<|S.o w1 ae.o (w1.alloc (C_ #[S_ (σ ⟨b,off,ν⟩) (m+1) c,I_ j_ a,S_ ν 0 0,S_ ν 0 0,S_ ν 0 0,S_ ν 0 0,T_ i,B_ φ] 172))<|BdC.start (D:=⟨φ,w1.heap.size,a,σ ⟨b,off,ν⟩,m+1,c,w1⟩) (lr_ _) (Blk.new w1 172 _)<|Ql_ br;generalize w1.alloc (C_ #[S_ (σ ⟨b,off,ν⟩) (m+1) c,I_ j_ a,S_ ν 0 0,S_ ν 0 0,S_ ν 0 0,S_ ν 0 0,T_ i,B_ φ] 172)=W4 at *;obtain⟨D,hD⟩:∃D:BD,(⟨φ,w1.heap.size,a,σ ⟨b,off,ν⟩,m+1,c,w1⟩:BD)=D:=⟨_,rfl⟩;have hi:D.imp=φ:=by rw[<-hD]
  have az:=h_ (show D.T=w1.heap.size by rw[<-hD]);have ac:=h_ (show D.w0=w1 by rw[<-hD]);have a9:=h_ (show D.m=a by rw[<-hD]);rw[hD]at HS;have Y:=h_ F.o.lt;rw[<-az.o];clear hD y0 y1 y2 y3 aJ O aF aC aA aB ae bl hd bn bo;go_cut [67] (λx wx=>x=B_ (YZ_ i)/\W4=wx)
  ·
    by_cases aj:i.size=0
    · obtain rfl:i=⟨#[]⟩:=VY_ (ln_ (by rw[QF_];exact aj))
      go_wp2;go_meet;exact⟨rfl,rfl⟩
    have ak:0<i.size:=oo;have bp:=Qis_ ak;have bK:(!i.toList.isEmpty)=τ:=(by rw[List.isEmpty_eq_false_iff.2 bp];rfl);have bN:(1:Int)<=i.size:=oo;by_cases C:i[i.size-1]=61
    · have ad:=h_ (show YZ_ i=τ by unfold YZ_;rw[Qdi_ ak,C];rfl)
      have bd:((i[i.size-1].toNat:Int)==61)=τ:=(by rw[C];rfl);clear C aj;go_wp2;go_meet;exact⟨congrArg B_ ad.o.symm,rfl⟩
    have ad:=h_ (show YZ_ i=φ by unfold YZ_;rw[Qdi_ ak];exact bn_.2 C);have bd:((i[i.size-1].toNat:Int)==61)=φ:=by
      rw[bn_];intro e;exact C<|UInt8.toNat_inj.1 (by simpa using(show i[i.size-1].toNat=61 from oo))
    clear C aj;go_wp2;go_meet;exact⟨congrArg B_ ad.o.symm,rfl⟩
  case rest=>
  obtain⟨rfl,rfl⟩:=hcut
  go_upto_if 67 with fail
  go_cut [12] (λx wx=>x=P_ (σ ⟨D.T,0,ν⟩)/\∃(s:Pb) (r:Int),Ψ (Bt 137 D ps (m+1) fin W4 s r [.kid (k:Int) 0] wx))
  ·
    cases he:YZ_ i with
    |true=>
      rw[show evP i (k:Int)=[.rule 2 2,.split 1 τ 4,.kid (k:Int) 0]by unfold evP;rw[ip_ he];rfl]at HS;clear he;go_wp2_with fail;refine Bt.srule hi HS ?_;intro bL a6 bs;clear HS bs;go_wp2_with fail;refine Bt.ssplit hi a6 rfl ?_;intro bM HT bO;go_wp2;go_meet;exact⟨rfl,_,_,HT⟩
    |false=>
      rw[show evP i (k:Int)=[.kid (k:Int) 0]by unfold evP;rw[in_ (by rw[he];simp)];rfl]at HS;clear he;go_wp2;go_meet;exact⟨rfl,_,_,HS⟩
  case rest=>
  obtain⟨rfl,s0,r0,HT⟩:=hcut;clear HS;go_wp2_with fail;refine Bt.kid HT y hv oo oo rfl ?_ (λe=>absurd (hi.symm.trans e) dc_);intro bc an bv;clear HT bv;have bi:=ag.o;have aE:=h_<|Xh_ D hi fin f bc an.o.fin_.1 (by unfold Xj_;omega);clear an;go_wp2_with fail
  refine mb_ aE.o ?_;rintro j ⟨be,bx⟩;obtain⟨A0,c0,A1,c1,A2,c2,A3,c3,hA⟩:=be;replace hA:BdA D ⟨fin.rules,fin.chunks,fin.spans,fin.ties,fin.text++f⟩ A0 c0 A1 c1 A2 c2 A3 c3 j:=hA;have U:=h_ hA;have X:=h_<|F.o.next (by have:=hA.old;rw[ac.o]at this;exact this);clear hA aE bx F S q;obtain⟨x0,x1,x2,x3,xn,xt,xb,xf,xz⟩:=U.o.scells hi;dsimp only at x0 x1 x2 x3 xt;have bI:=a8.o;have aL:D.fo 1=3:=by unfold BD.fo;rw[hi];rfl
  obtain⟨i0,aM,aP,aQ,aR⟩:=info_parts Vh_;have HI:=h_ (ai_ aM (ai_ aP (ai_ aQ aR)));have N:Λ j (j.alloc (C_ #[T_ (fin.text++f),I_ j_ 0,I_ j_ 0,B_ φ,I_ j_ 0] 178)):=Ql_ br;have HM:=h_ (U.o.r1.next N);have aN:(j.alloc (C_ #[T_ (fin.text++f),I_ j_ 0,I_ j_ 0,B_ φ,I_ j_ 0] 178)).heap[j.heap.size]? =σ (C_ #[T_ (fin.text++f),I_ j_ 0,I_ j_ 0,B_ φ,I_ j_ 0] 178 (0,0)):=heap_alloc_new j _;have ay:=h_ (show D.w0.heap.size<=(j.alloc (C_ #[T_ (fin.text++f),I_ j_ 0,I_ j_ 0,B_ φ,I_ j_ 0] 178)).heap.size from lt_ U.o.old.size N.size);have aq:=h_ (λ(w3:Ω) hg=>(U.o.grown N U.o.r1 (w3:=w3) hg (Ne.symm (YY_ D.imp).2.2.1) dc_).1);have HP:=h_ (λ(v':Υ) (w3:Ω) h1 h2=>U.o.app1 aL N (d:=(fin.text++f,0,0,φ,0)) (v':=v') (w3:=w3) h1 h2);have ar:=h_ (λ(w3:Ω) (hg:(j.alloc (C_ #[T_ (fin.text++f),I_ j_ 0,I_ j_ 0,B_ φ,I_ j_ 0] 178)).grownBy w3 (S_ A1 (η fin.chunks) c1).ownBlock)=>(X.o.alloc _).grown hg (λe=>by
    obtain⟨cs,b⟩:=Qw_ U.o.r1 (g:=w.heap.size) (by cases A1<;>first|(simp[Value.ownBlock]at e;done)|(simpa[Value.ownBlock]using e.symm));exact Kj_ X.o b dc_ rfl))
  clear aM aP aQ aR N aL;go_upto_region 8 with fail
  go_region_law
    (refine step_append_lies _ rfl (.tmp 83) (.tmp 89) 145 rfl D.w0.heap.size 178 i0 (A_ #[T_ ⟨#[]⟩,I_ j_ 0,I_ j_ 0,B_ φ,I_ j_ 0]) 5 48 underlying145 HI.o.1 HI.o.2.1 HI.o.2.2.1 HI.o.2.2.2 rfl dc_ (S_ A1 (η fin.chunks) c1) (η fin.chunks) (fin.chunks.flatMap Qo_) ev_ (by first|exact HM.o.drew|exact HM.o) ⟨j.heap.size,0,ν⟩ 1 1 (Qo_ (fin.text++f,0,0,φ,0)) ev_ (by rfl) (World.news_of_block (cs:=#[T_ (fin.text++f),I_ j_ 0,I_ j_ 0,B_ φ,I_ j_ 0]) (t:=178) (fr:=(0,0)) aN) (Vc_ _) dc_ mx_ oo (by first|exact ay.o) (j.heap.size+1) sm_ ?_
     intro q6 cap w6 M v bk bJ;have l:(j.alloc (C_ #[T_ (fin.text++f),I_ j_ 0,I_ j_ 0,B_ φ,I_ j_ 0] 178)).grownBy w6 (S_ A1 (η fin.chunks) c1).ownBlock:=(by first|exact v|exact Q9_ v);have I:=aq.o _ l;have ax:=h_ (ar.o _ l);rw[hi]at I;have j5:w6.cell? ⟨D.T,3,ν⟩=σ (S_ A1 (η fin.chunks) c1):=I.cell 3;have jf:=I.frozen;have jz:=I.lt;have HW:=h_ (HP.o _ _ M l);clear M v bk l I)
  all_goals
    obtain⟨A',c',ev,bg,aI,bh⟩:=HW.o;injection ev with ev1 ev2 ev3;subst ev1;subst ev3;have Z:=h_ aI;have bj:w.heap.size≠D.T:=(by have:=Y.o;rw[az.o];omega);have av:=h_ (ax.o.far (p:=⟨D.T,3,ν⟩) bj (S_ (σ ⟨q6,0,ν⟩) (η fin.chunks+1) cap));clear ev2 bg aI bh HW ax X U HM HP ar aq ay aN j5 jf jz x0 x1 x2 x3 xn xt xb xf xz bi;generalize w6.setCell ⟨D.T,3,ν⟩ (S_ (σ ⟨q6,0,ν⟩) (η fin.chunks+1) cap)=W6 at *;have aD:=h_ (show Δ π 139 #[A_ #[I_ j_ a,S_ A0 (η fin.rules) c0,S_ (σ ⟨q6,0,ν⟩) (η fin.chunks+1) cap,S_ A2 (η fin.spans) c2,S_ A3 (η fin.ties) c3]] W6 (RB_ (B_ τ) W6)from by
      have h:=J7_ (hnOf fin f a Q.width) A0 (σ ⟨q6,0,ν⟩) A2 A3 c0 cap c2 c3 W6 ⟨Z.o.r0.rd,Z.o.r1.rd,Z.o.r2.rd,Z.o.r3.rd⟩ HR.o R.o;unfold pcCells at h;rw[show(hnOf fin f a Q.width).l1.length=η fin.chunks+1 by show(_++[_]).length=_;simp]at h;exact h)
    have ab:=h_ (λ(W:Ω) (h:Λ W6 W)=>(show Blk W D.T (bty φ) #[S_ D.A D.n D.c,I_ j_ a,S_ A0 (η fin.rules) c0,S_ (σ ⟨q6,0,ν⟩) (η fin.chunks+1) cap,S_ A2 (η fin.spans) c2,S_ A3 (η fin.ties) c3,T_ (fin.text++f),B_ φ]from by
      have o:=Z.o.blk.next h;unfold Kh_ at o;rw[hi,a9.o]at o;rw[lA]at o;exact o))
    have o:=ab.o W6 br;have y0:=o.q1;have y1:=o.q2;have y2:=o.q3;have y3:=o.q4;have y4:=o.q5;have yz:=o.lt;clear o;go_wp2_with fail;refine mb_ aD.o ?_;intro w7 h7;have aa:=h_<|Z.o.next h7;have n:=h_<|av.o.next h7;have o:=ab.o w7 h7;clear y0 y1 y2 y3 y4 yz h7 Z av aD ab;have y0:=o.q1;have y1:=o.q2;have y2:=o.q3;have y3:=o.q4;have y4:=o.q5;have yz:=o.lt;have z0:=n.o.q0;have z1:=n.o.q1;have z2:=n.o.q2;have z3:=n.o.q3;have z4:=n.o.q4;have zf:=n.o.frozen;have zz:=n.o.lt;clear o;go_wp2;have B:=h_<|((((n.o.set_ 0 (I_ j_ a)).set_ 1 (S_ A0 (η fin.rules) c0)).set_ 2 (S_ (σ ⟨q6,0,ν⟩) (η fin.chunks+1) cap)).set_ 3 (S_ A2 (η fin.spans) c2)).set_ 4 (S_ A3 (η fin.ties) c3);have hC:=aa.o;have bb:=h_<|((hC.pcN (a:=a) (width:=Q.width)).more (show w.heap.size<=D.w0.heap.size by have:=ap.o.size;rw[ac.o];exact this)).put5 n.o (I_ j_ a) (S_ A0 (η fin.rules) c0) (S_ (σ ⟨q6,0,ν⟩) (η fin.chunks+1) cap) (S_ A2 (η fin.spans) c2) (S_ A3 (η fin.ties) c3);have a7:=h_<|Qcv_ (Qb_ ap.o (by have h:=aa.o.old;rw[ac.o]at h;exact h)) (lr_ _) (I_ j_ a) (S_ A0 (η fin.rules) c0) (S_ (σ ⟨q6,0,ν⟩) (η fin.chunks+1) cap) (S_ A2 (η fin.spans) c2)<|S_ A3 (η fin.ties) c3;clear y0 y1 y2 y3 y4 yz z0 z1 z2 z3 z4 zf zz n aa hC;generalize ((((w7.setCell ⟨w.heap.size,0,ν⟩ (I_ j_ a)).setCell ⟨w.heap.size,1,ν⟩ (S_ A0 (η fin.rules) c0)).setCell ⟨w.heap.size,2,ν⟩ (S_ (σ ⟨q6,0,ν⟩) (η fin.chunks+1) cap)).setCell ⟨w.heap.size,3,ν⟩ (S_ A2 (η fin.spans) c2)).setCell ⟨w.heap.size,4,ν⟩ (S_ A3 (η fin.ties) c3)=W9 at *;have z0:W9.cell? ⟨w.heap.size,0,ν⟩=σ (I_ j_ a):=B.o.cell 0;have z1:W9.cell? ⟨w.heap.size,1,ν⟩=σ (S_ A0 (η fin.rules) c0):=B.o.cell 1;have z2:W9.cell? ⟨w.heap.size,2,ν⟩=σ (S_ (σ ⟨q6,0,ν⟩) (η fin.chunks+1) cap):=B.o.cell 2;have z3:W9.cell? ⟨w.heap.size,3,ν⟩=σ (S_ A2 (η fin.spans) c2):=B.o.cell 3;have z4:W9.cell? ⟨w.heap.size,4,ν⟩=σ (S_ A3 (η fin.ties) c3):=B.o.cell 4;have zz:=B.o.lt;refine bodyPost_ret (by simp[results,Tryz.results113,go_sem,z0,z1,z2,z3,z4];try rfl) rfl ?_;refine⟨A0,σ ⟨q6,0,ν⟩,A2,A3,c0,cap,c2,c3,?_,bb.o,a7.o⟩;unfold pcCells;rw[show(hnOf fin f a Q.width).l1.length=η fin.chunks+1 by show(_++[_]).length=_;simp]
    rfl
abbrev wty (a:Bool):TypeId:=if a then 119 else 93
def QeP_ (a:Bool):wty a≠9/\wty a≠96:=by cases a<;>decide
structure WD where
 imp:Bool
 T:Nat
 A:OA
 c:Nat
 Q:Wp
 w0:Ω
def q7_ (D:WD) (v:Υ) (st:Int):Array Υ:=#[S_ D.A (D.Q.m+1) D.c,I_ j_ D.Q.width,I_ j_ D.Q.budget,v,I_ j_ st]
structure WrA (D:WD) (s:Ws) (A:OA) (c:Nat) (w:Ω):Prop where
 blk:Blk w D.T (wty D.imp) (q7_ D (S_ A s.1.length c) s.2)
 row:Mine w D.w0.heap.size 9 1 A s.1.length c (Qm_ s.1)
 bT:D.w0.heap.size<=D.T
 old:Below D.w0.heap.size D.w0 w
def WrM (D:WD) (s:Ws) (w:Ω):Prop:=∃A c,WrA D s A c w
def WrR (D:WD) (s:Ws) (w:Ω) (e:Ending) (w':Ω):Prop:=e=R_ (U_ #[])/\WrM D s w'/\Kb w w'
section
variable {D:WD} {s:Ws} {A:OA} {c:Nat} {w w' w1:Ω}
def WrA.next (h:WrA D s A c w) (a:Λ w w'):WrA D s A c w':=⟨h.blk.next a,h.row.next a,h.bT,Qb_ h.old a⟩
def WrM.next (h:WrM D s w) (hb:Λ w w'):WrM D s w':=by
 obtain⟨A,c,h⟩:=h;exact⟨A,c,h.next hb⟩
def WrM.old (h:WrM D s w):Below D.w0.heap.size D.w0 w:=by
 obtain⟨A,c,h⟩:=h;exact h.old
def WrA.cells (h:WrA D s A c w):w.cell? ⟨D.T,0,ν⟩=σ (S_ D.A (D.Q.m+1) D.c)/\w.cell? ⟨D.T,1,ν⟩=σ (I_ j_ D.Q.width)/\w.cell? ⟨D.T,2,ν⟩=σ (I_ j_ D.Q.budget)/\w.cell? ⟨D.T,3,ν⟩=σ (S_ A s.1.length c)/\w.cell? ⟨D.T,4,ν⟩=σ (I_ j_ s.2)/\(∀i,w.frozen? ⟨D.T,i,ν⟩=φ)/\D.T<w.heap.size:=
 ⟨h.blk.cell 0,h.blk.cell 1,h.blk.cell 2,h.blk.cell 3,h.blk.cell 4,h.blk.frozen,h.blk.lt⟩
def WrM.cells (h:WrM D s w):w.cell? ⟨D.T,0,ν⟩=σ (S_ D.A (D.Q.m+1) D.c)/\w.cell? ⟨D.T,1,ν⟩=σ (I_ j_ D.Q.width)/\w.cell? ⟨D.T,2,ν⟩=σ (I_ j_ D.Q.budget)/\w.cell? ⟨D.T,4,ν⟩=σ (I_ j_ s.2)/\(∀i,w.frozen? ⟨D.T,i,ν⟩=φ)/\D.T<w.heap.size:=by
 obtain⟨A,c,h⟩:=h;exact⟨h.blk.cell 0,h.blk.cell 1,h.blk.cell 2,h.blk.cell 4,h.blk.frozen,h.blk.lt⟩
def WrA.put (h:WrA D s A c w) {A':OA} {c' n:Nat} {ls:List BA} (hn:n=(s.1++ls).length) (hm:Mine w' D.w0.heap.size 9 1 A' n c' (Qm_ (s.1++ls))) (a:w.heap.size<=w'.heap.size/\∀g t cs,Blk w g t cs->t≠9->Blk w' g t cs) (hb:∀w0,Below D.w0.heap.size w0 w->Below D.w0.heap.size w0 w'):
  Blk w' D.T (wty D.imp) (q7_ D (S_ A s.1.length c) s.2)/\WrA D (s.1++ls,s.2) A' c' (w'.setCell ⟨D.T,3,ν⟩ (S_ A' n c'))/\Kb w (w'.setCell ⟨D.T,3,ν⟩ (S_ A' n c')):=by
 subst hn;obtain⟨n1,n2⟩:=QeP_ D.imp;have k0:=a.2 _ _ _ h.blk n1;exact⟨k0,⟨k0.set_ 3 _,Qt_ hm k0 (Ne.symm n1) _ _,h.bT,(hb _ h.old).setCell h.bT _⟩,Kb.trans ⟨a.1,λg cs hg=>a.2 _ _ _ hg dc_⟩ (Kb.set k0 n2 _ _)⟩
def WrA.state (h:WrA D s A c w) (st:Int):WrA D (s.1,st) A c (w.setCell ⟨D.T,4,ν⟩ (I_ j_ st))/\Kb w (w.setCell ⟨D.T,4,ν⟩ (I_ j_ st)):=
 ⟨⟨h.blk.set_ 4 _,Qt_ h.row h.blk (Ne.symm (QeP_ D.imp).1) _ _,h.bT,h.old.setCell h.bT _⟩,Kb.set h.blk (QeP_ D.imp).2 _ _⟩
end
def QiR_ (F:FuncId) (D:WD) (f:Nat):Prop:=
 ∀(j:Nat) (a:Int) (s:Ws) (W:Ω),j<f->XS_ (Qc_ D.Q.ps (j:Int))->(0<=a/\a+2*Kt_ D.Q.ps j<=28)->szL s.1+Kk_ D.Q.ps j*2100000<=632000000->WrM D s W->
  Δ π F #[P_ (σ ⟨D.T,0,ν⟩),I_ j_ (j:Int),I_ j_ a] W (WrR D (ZN_ D.Q f j a s) W)
structure WK (F:FuncId) (D:WD) (f:Nat):Prop where
 N:QiR_ F D f
 K:Wk D.Q
 P:Nps D.w0 D.A (D.Q.m+1) D.Q.ps
 B:0<=D.Q.budget/\D.Q.budget<=100000
 hf:f<=D.Q.m+1
structure Wt (F:FuncId) (D:WD) (f:Nat) (fin:Ws) (w:Ω) (a:Int) (s:Ws) (es:List Wv) (W:Ω):Prop where
 M:WrM D s W
 L:runW D.Q (ZN_ D.Q f) a s es=fin
 Z:szL s.1+wW 2100000 D.Q.ps es<=632000000
 O:∀e∈es,okW D.Q f a e
 ha:0<=a/\a<=26
 K:WK F D f
 k:Kb w W
section
variable {F:FuncId} {D:WD} {f:Nat} {fin s:Ws} {a:Int} {e:Wv} {es:List Wv} {w W W':Ω}
def Wt.size (H:Wt F D f fin w a s (e::es) W):szL s.1+wE 2100000 D.Q.ps e<=632000000:=by
 have h2:=H.Z;rw[vk_]at h2;omega
def Wt.jump (H:Wt F D f fin w a s (e::es) W) {b:Ws} (hs:b=Qen_ D.Q (ZN_ D.Q f) a s e) (hM:WrM D b W') (hk:Kb W W'):Wt F D f fin w a b es W':=by
 subst hs;have hz:=xH_ H.K.K H.K.hf (Wq_ H.K.K f H.K.hf) H.ha (H.O e sm_) H.size;refine⟨hM,H.L,?_,λu hu=>H.O u (List.mem_cons_of_mem _ hu),H.ha,H.K,H.k.trans hk⟩;have h2:=H.Z;rw[vk_]at h2;omega
def Wt.next (H:Wt F D f fin w a s es W) (hb:Λ W W'):Wt F D f fin w a s es W':=⟨H.M.next hb,H.L,H.Z,H.O,H.ha,H.K,H.k.trans (Kb.below hb)⟩
def Wt.end_ (H:Wt F D f fin w a s [] W):WrM D fin W/\Kb w W:=by
 have h:=H.L;subst h;exact⟨H.M,H.k⟩
end
structure Mt (F:FuncId) (D:WD) (f:Nat) (fin:Ws) (w:Ω) (a:Int) (l:LI) (i:Nat) (s:Ws) (W:Ω):Prop where
 M:WrM D s W
 L:Wg_ D.Q (ZN_ D.Q f) a s (l.drop i)=fin
 Z:szL s.1+((l.drop i).length+Kv_ (Kk_ D.Q.ps) (l.drop i)*2100000)<=632000000
 O:∀v∈l,(0<=v/\v<(f:Int))/\XS_ (Qc_ D.Q.ps v)/\a+2*Kt_ D.Q.ps v.toNat<=28
 ha:0<=a
 K:WK F D f
 k:Kb w W
section
variable {F:FuncId} {D:WD} {f:Nat} {fin s s1:Ws} {a:Int} {l:LI} {i q:Nat} {w W W1:Ω} {R:Ending->Ω->Prop}
def Mt.next (H:Mt F D f fin w a l i s W) (hb:Λ W W1):Mt F D f fin w a l i s W1:=⟨H.M.next hb,H.L,H.Z,H.O,H.ha,H.K,H.k.trans (Kb.below hb)⟩
def Mt.end_ (H:Mt F D f fin w a l i s W) (hi:η l<=i):WrM D fin W/\Kb w W:=by
 have h:=H.L;rw[List.drop_of_length_le hi]at h;subst h;exact⟨H.M,H.k⟩
def vH_ {l:LI} {i:Nat} {v:Int} (h:l[i]? =σ v):l.drop i=v::l.drop (i+1):=by
 obtain⟨h1,h2⟩:=gs_.1 h;rw[List.drop_eq_getElem_cons h1,h2]
def Mt.room (H:Mt F D f fin w a l i s W) (hd:l[i]? =σ (q:Int)):szL s.1+1+Kk_ D.Q.ps q*2100000+((l.drop (i+1)).length+Kv_ (Kk_ D.Q.ps) (l.drop (i+1))*2100000)<=632000000:=by
 have h:=H.Z;rw[vH_ hd,List.length_cons]at h;have e:Kv_ (Kk_ D.Q.ps) ((q:Int)::l.drop (i+1))=Kk_ D.Q.ps q+Kv_ (Kk_ D.Q.ps) (l.drop (i+1)):=by simp[Kv_]
 rw[e,Nat.add_mul]at h;omega
def Mt.node (H:Ψ (Mt F D f fin w a l i s W)) (hd:Ψ (l[i]? =σ (q:Int))) (c:Ψ (s1=if X4_ D.Q.ps (q:Int)=τ then WX_ s [⟨#[]⟩] 1 else s)) (hM:Ψ (WrM D s1 W1/\Kb W W1)) (k:∀W2,Ψ (Mt F D f fin w a l (i+1) (ZN_ D.Q f q a s1) W2)->R (R_ (U_ #[])) W2):Δ π F #[P_ (σ ⟨D.T,0,ν⟩),I_ j_ (q:Int),I_ j_ a] W1 R:=by
 have h:=H.o;have b:=h.O _ (lm_ hd.o);have hr:=h.room hd.o;have g:szL s1.1<=szL s.1+1:=by
  rw[c.o];split
  ·rw[Va_,ve_];exact lr_ _
  omega
 rw[it_]at b;have d:=Wq_ h.K.K f h.K.hf q a s1 oo b.2.1 ⟨h.ha,b.2.2⟩ oo;refine mb_ (h.K.N q a s1 W1 oo b.2.1 ⟨h.ha,b.2.2⟩ oo hM.o.1) ?_;rintro w1 ⟨h1,h2⟩;refine k w1 ⟨h1,?_,?_,h.O,h.ha,h.K,(h.k.trans hM.o.2).trans h2⟩
 ·have hL:=h.L;rw[vH_ hd.o]at hL;rw[c.o];rw[<-hL];show _=Wg_ D.Q (ZN_ D.Q f) a (oneW D.Q (ZN_ D.Q f) a s (q:Int)) _;unfold oneW;rw[it_]
 omega
end
def GA_ {D:WD} {x:PN} (hP:Nps D.w0 D.A (D.Q.m+1) D.Q.ps) (hj:f<D.Q.m+1) (hx:D.Q.ps[f]? =σ x) (hb:Below D.w0.heap.size D.w0 w):∃b off A' c',D.A=σ ⟨b,off,ν⟩/\b<w.heap.size/\w.cell? ⟨b,off+f*4,ν⟩=σ (I_ j_ x.kind)/\w.cell? ⟨b,off+f*4+1,ν⟩=σ (T_ x.text)/\w.cell? ⟨b,off+f*4+2,ν⟩=σ (S_ A' (η x.kids) c')/\w.cell? ⟨b,off+f*4+3,ν⟩=σ (B_ x.blank)/\Rd D.w0 1 A' (η x.kids) (Qa_ x.kids)/\η x.kids<=c':=by
 obtain⟨b,off,A',c',e,a,y0,y1,y2,y3,d,hr⟩:=hP.atc hj hx;have c:=(QW_ hb).1;exact⟨b,off,A',c',e,ll_ a hb.size,(c _ _ a).trans y0,(c _ _ a).trans y1,(c _ _ a).trans y2,(c _ _ a).trans y3,hr,d⟩
structure WIn (F:FuncId) (D:WD) (f j:Nat) (x:PN) (a:Int) (s:Ws) (W:Ω):Prop where
 K:WK F D f
 hx:D.Q.ps[j]? =σ x
 hj:j<f+1
 hs:XS_ x.kind
 ha:0<=a/\a+2*Kt_ D.Q.ps j<=28
 hz:szL s.1+Kk_ D.Q.ps j*2100000<=632000000
 hC:WrM D s W
section
variable {F:FuncId} {D:WD} {f j:Nat} {x:PN} {a:Int} {s:Ws} {W:Ω}
def WIn.lt (h:WIn F D f j x a s W):j<D.Q.m+1:=by have:=(gs_.1 h.hx).1;rw[h.K.K.F.tree.len]at this;exact this
def WIn.form (h:WIn F D f j x a s W):StF D.Q.ps x.kind x.kids:=Qem_ (h.K.K.F.node j h.lt) h.hx h.hs
def WIn.a26 (h:WIn F D f j x a s W):0<=a/\a<=26:=by
 have h1:=vG_ h.K.K h.lt;have h2:=h.ha;omega
def WIn.kids (h:WIn F D f j x a s W):∀v∈x.kids,(0<=v/\v<(f:Int))/\v<=900:=λv hv=>by
 have h1:=(h.K.K.F.tree.good j x h.hx).2 v hv;have h2:=h.K.K.F.few;have h3:=h.lt;have h4:=h.hj;omega
def WIn.few (h:WIn F D f j x a s W):η x.kids<=12:=(h.K.K.F.tree.good j x h.hx).1
def WIn.wt (h:WIn F D f j x a s W) (cs:Array Υ):Wt F D f (ZN_ D.Q (f+1) j a s) (W.alloc (C_ cs 96)) a s (evsW D.Q.ps x) (W.alloc (C_ cs 96)):=by
 refine⟨h.hC.next grow_,(zK_ h.hx a s).symm,?_,QcK_ h.K.K h.hx h.hs h.hj h.ha.2,h.a26,h.K,Kb.refl _⟩;have h1:=UU_ h.K.K (lr_ 2100000) h.hx h.hs;have h2:=h.hz;omega
def WIn.at_ (h:WIn F D f j x a s W):∃b off A' c',D.A=σ ⟨b,off,ν⟩/\b<W.heap.size/\W.cell? ⟨b,off+j*4,ν⟩=σ (I_ j_ x.kind)/\W.cell? ⟨b,off+j*4+1,ν⟩=σ (T_ x.text)/\W.cell? ⟨b,off+j*4+2,ν⟩=σ (S_ A' (η x.kids) c')/\W.cell? ⟨b,off+j*4+3,ν⟩=σ (B_ x.blank)/\Rd D.w0 1 A' (η x.kids) (Qa_ x.kids)/\η x.kids<=c':=GA_ h.K.P h.lt h.hx h.hC.old
end
def ke_ {ks:List BA} {k:BA} {v':Υ} (HM:Mine w f 9 1 z h q (Qm_ ks)) (hB:f<=w.heap.size) (B:d.ownsRow f 9 1 v' (h+1) (Qm_ ks++[T_ k])) (a:(w.alloc (C_ #[T_ k] 9)).grownBy d (S_ z h q).ownBlock):
  ∃A' c',v'=S_ A' (h+1) c'/\Mine d f 9 1 A' (h+1) c' (Qm_ (ks++[k]))/\(w.heap.size<=d.heap.size/\∀g t cs,Blk w g t cs->t≠9->Blk d g t cs)/\(∀w0,Below f w0 w->Below f w0 d):=by
 obtain⟨A5,c5,rfl,m5⟩:=Mine.of B;refine⟨A5,c5,rfl,by rw[show Qm_ (ks++[k])=Qm_ ks++[T_ k]by simp[Qm_]];exact m5,⟨lt_ sm_ a.size,λg t cs b ht=>?_⟩,λw0 b=>?_⟩
 ·refine(b.alloc _).grown a (λe=>?_);rw[Q3_]at e;obtain⟨i,b'⟩:=Qw_ HM e.symm;exact Kj_ b b' ht rfl
 exact(b.alloc hB _).grown a so_ (λg a=>by rw[Q3_]at a;exact(Mine.blk HM a).1)
def Je_ {w':Ω} (h:Below f w d) (h2:Λ d w') (hB:f<=d.heap.size):Below f w w':=h.trans (h2.mono hB)
def Qae_ (D:WD) (hi:D.imp=τ) (s:Ws) (a:Int) (t:BA) (W:Ω) (h:WrM D s W) (ha:0<=a/\a<=60) (hz:szL s.1+(61+t.size)<=1000000000):
  Δ π 123 #[P_ (σ ⟨D.T,0,ν⟩),I_ j_ a,T_ t] W (WrR D (WX_ s [QK_ a++t] 1) W):=by
 obtain⟨A,c,h⟩:=h;obtain⟨x0,x1,x2,x3,x4,xf,xz⟩:=h.cells;have hl:s.1.length<=1000000000:=by have:=Ya_ s.1;omega
 have o:=h_ (λZ (q:Λ W Z)=>show Δ π 175 #[I_ j_ a] Z (RB_ (T_ (QK_ a)) W)from(V1_ a Z ⟨ha.1,oo⟩).mono (by rintro e w1 ⟨rfl,rfl⟩;exact⟨rfl,q⟩));have I:(QK_ a).size<=60:=by rw[Kc_];omega
 obtain⟨i,v⟩:=ex_ (QK_ a);rw[v]at o I |-
 have hq:¬9223372036854775807<i.size+t.size:=oo;have HA:=h_ h;have m:=h_ h.old.size;obtain⟨n,hn⟩:=ex_ s.1.length;have HP:=h_ (λA' c' w' h1 h2 h3=>h.put (w':=w') (A':=A') (c':=c') (n:=n+1) (ls:=[i++t]) (by rw[<-hn];simp) h1 h2 h3);have HM:=h_ h.row;rw[hn]at hl x3 HM;obtain⟨i0,y,B,C,E⟩:=info_parts qy_;have F:=h_ (ai_ y (ai_ B (ai_ C E)));clear y B C E h v hz ha;go_in;go_region_law (first
  |(
   have _s:=G;refine step_append_lies _ rfl (.tmp 11) (.tmp 16) 31 rfl D.w0.heap.size 9 i0 (T_ ⟨#[]⟩) 1 16 underlying31 F.o.1 F.o.2.1 F.o.2.2.1 F.o.2.2.2 rfl dc_ (S_ A n c) n (Qm_ s.1) ev_ (Mine.alloc M4.o _) ⟨H.heap.size,0,ν⟩ 1 1 [T_ (i++t)] ev_ (by rfl) (World.news_of_block (cs:=#[T_ (i++t)]) (t:=9) (fr:=(0,0)) (heap_alloc_new H _)) (λx hx=>by simp at hx;subst hx;rfl) dc_ mx_ oo so_ (H.heap.size+1) sm_ ?_;intro v' cap K l b M L;have f:(H.alloc (C_ #[T_ (i++t)] 9)).grownBy K (S_ A n c).ownBlock:=(by first|exact b|exact Q9_ b);obtain⟨A6,c6,ev,z,j,r⟩:=ke_ (ks:=s.1) (k:=i++t) M4.o J l f;have d:=HP.o A6 c6 K z ⟨lt_ G.o.size j.1,λg t cs q ht=>j.2 g t cs (q.next G.o) ht⟩ (λw0 q=>r w0 (Je_ q G.o m.o));injection ev with ev1 ev2 ev3;subst ev1;subst ev3;have j3:K.cell? ⟨D.T,3,ν⟩=σ (S_ A s.1.length c):=d.1.cell 3;have jf:=d.1.frozen;have jz:=d.1.lt;have HW:=h_ d.2)
  |(
   refine GJ_ rfl 175 func175 nr_ nr_ _ _ rfl #[I_ j_ a] ev_ (o.o _ (by first|exact br|exact br.drew)) ?_;rintro e H ⟨rfl,p⟩;refine⟨_,rfl,?_⟩;have G:=h_ p;have M4:=h_ (HM.o.next p);have k3:=((QW_ p).1 _ 3 xz).trans x3;have kz:=ll_ xz p.size;have J:=lt_ m.o p.size))
 all_goals
  clear d j3 jf jz z j r;go_end0;exact⟨rfl,⟨_,_,HW.o.1⟩,HW.o.2⟩
def Qaz_ (D:WD) (hi:D.imp=φ) (s:Ws) (a:Int) (t:BA) (W:Ω) (h:WrM D s W) (ha:0<=a/\a<=60) (hz:szL s.1+(61+t.size)<=1000000000):
  Δ π 96 #[P_ (σ ⟨D.T,0,ν⟩),I_ j_ a,T_ t] W (WrR D (WX_ s [QK_ a++t] 1) W):=by
 obtain⟨A,c,h⟩:=h;obtain⟨x0,x1,x2,x3,x4,xf,xz⟩:=h.cells;have hl:s.1.length<=1000000000:=by have:=Ya_ s.1;omega
 have o:=h_ (λZ (q:Λ W Z)=>show Δ π 112 #[I_ j_ a] Z (RB_ (T_ (QK_ a)) W)from(V8_ a Z ⟨ha.1,oo⟩).mono (by rintro e w1 ⟨rfl,rfl⟩;exact⟨rfl,q⟩));have I:(QK_ a).size<=60:=by rw[Kc_];omega
 obtain⟨i,v⟩:=ex_ (QK_ a);rw[v]at o I |-
 have hq:¬9223372036854775807<i.size+t.size:=oo;have HA:=h_ h;have m:=h_ h.old.size;obtain⟨n,hn⟩:=ex_ s.1.length;have HP:=h_ (λA' c' w' h1 h2 h3=>h.put (w':=w') (A':=A') (c':=c') (n:=n+1) (ls:=[i++t]) (by rw[<-hn];simp) h1 h2 h3);have HM:=h_ h.row;rw[hn]at hl x3 HM;obtain⟨i0,y,B,C,E⟩:=info_parts qy_;have F:=h_ (ai_ y (ai_ B (ai_ C E)));clear y B C E h v hz ha;go_in;go_region_law (first
  |(
   have _s:=G;refine step_append_lies _ rfl (.tmp 10) (.tmp 15) 31 rfl D.w0.heap.size 9 i0 (T_ ⟨#[]⟩) 1 16 underlying31 F.o.1 F.o.2.1 F.o.2.2.1 F.o.2.2.2 rfl dc_ (S_ A n c) n (Qm_ s.1) ev_ (Mine.alloc M4.o _) ⟨H.heap.size,0,ν⟩ 1 1 [T_ (i++t)] ev_ (by rfl) (World.news_of_block (cs:=#[T_ (i++t)]) (t:=9) (fr:=(0,0)) (heap_alloc_new H _)) (λx hx=>by simp at hx;subst hx;rfl) dc_ mx_ oo so_ (H.heap.size+1) sm_ ?_;intro v' cap K l b M L;have f:(H.alloc (C_ #[T_ (i++t)] 9)).grownBy K (S_ A n c).ownBlock:=(by first|exact b|exact Q9_ b);obtain⟨A6,c6,ev,z,j,r⟩:=ke_ (ks:=s.1) (k:=i++t) M4.o J l f;have d:=HP.o A6 c6 K z ⟨lt_ G.o.size j.1,λg t cs q ht=>j.2 g t cs (q.next G.o) ht⟩ (λw0 q=>r w0 (Je_ q G.o m.o));injection ev with ev1 ev2 ev3;subst ev1;subst ev3;have j3:K.cell? ⟨D.T,3,ν⟩=σ (S_ A s.1.length c):=d.1.cell 3;have jf:=d.1.frozen;have jz:=d.1.lt;have HW:=h_ d.2)
  |(
   refine GJ_ rfl 112 func112 nr_ nr_ _ _ rfl #[I_ j_ a] ev_ (o.o _ (by first|exact br|exact br.drew)) ?_;rintro e H ⟨rfl,p⟩;refine⟨_,rfl,?_⟩;have G:=h_ p;have M4:=h_ (HM.o.next p);have k3:=((QW_ p).1 _ 3 xz).trans x3;have kz:=ll_ xz p.size;have J:=lt_ m.o p.size))
 all_goals
  clear d j3 jf jz z j r;go_end0;exact⟨rfl,⟨_,_,HW.o.1⟩,HW.o.2⟩
def Gs_ {x:PN} (hx:y[f]? =σ x):QC_ y (f:Int)=x.kids:=by unfold QC_;rw[it_,X7_ hx]
def vy_ {x:PN} {z:Bool} (hx:y[f]? =σ x) (hz:x.blank=z):X4_ y (f:Int)=z:=by unfold X4_;rw[it_,X7_ hx,hz]
def Mt.blank {F:FuncId} {D:WD} {fin s:Ws}   {i q:Nat}  (H:Mt F D f fin w a l i s d) (hd:l[i]? =σ (q:Int)):∃A c,Ψ (Mine d D.w0.heap.size 9 1 A s.1.length c (Qm_ s.1))/\d.cell? ⟨D.T,3,ν⟩=σ (S_ A s.1.length c)/\s.1.length<=632000000/\D.w0.heap.size<=d.heap.size/\
  Ψ (∀A' c' w',Ψ (Mine w' D.w0.heap.size 9 1 A' (s.1.length+1) c' (Qm_ (s.1++[⟨#[]⟩])))->Ψ (d.heap.size<=w'.heap.size/\∀g t cs,Blk d g t cs->t≠9->Blk w' g t cs)->Ψ (∀w0,Below D.w0.heap.size w0 d->Below D.w0.heap.size w0 w')->w'.cell? ⟨D.T,3,ν⟩=σ (S_ A s.1.length c)/\(∀i,w'.frozen? ⟨D.T,i,ν⟩=φ)/\D.T<w'.heap.size/\Ψ (WrM D (WX_ s [⟨#[]⟩] 1) (w'.setCell ⟨D.T,3,ν⟩ (S_ A' (s.1.length+1) c'))/\Kb d (w'.setCell ⟨D.T,3,ν⟩ (S_ A' (s.1.length+1) c')))):=by
 obtain⟨A,c,h⟩:=H.M;have h1:=Ya_ s.1;have h2:=H.room hd;refine⟨A,c,h.row,h.blk.cell 3,oo,h.old.size,λA' c' w' m k b=>?_⟩;obtain⟨k0,k1,k2⟩:=h.put (ls:=[⟨#[]⟩]) sm_ m.o k.o b.o;exact⟨k0.cell 3,k0.frozen,k0.lt,⟨A',c',k1⟩,k2⟩
def Jh_ (D:WD) (hi:D.imp=τ) (p:WK 104 D f) (fin s:Ws) (a:Int) (A':OA) (n c':Nat) (l:LI) (W:Ω) (hl:η l=n) (hn:n<=1000) (hr:Rd D.w0 1 A' n (Qa_ l)) (y:Mt 104 D f fin W a l 0 s W):
  Δ π 81 #[P_ (σ ⟨D.T,0,ν⟩),S_ A' n c',I_ j_ a] W (WrR D fin W):=by
 have HL:=h_ hl;have HR:=h_ hr;have y:=h_ y;have E:=h_ p.P;have F:=h_ p.K.F.tree.len;have K:=p.K.F.few;have P:=p.hf;obtain⟨m,hm⟩:=ex_ (D.Q.m+1);clear hl hr p;go_in;go_wp2;go_loopw [10] (λx wr=>∃(i:Nat) (h:Ws),i<=n/\x=I_ j_ i/\Ψ (Mt 104 D f fin W a l i h wr)) (λx _=>n-(intOf x).toNat)
 ·exact⟨0,s,lz_ _,rfl,y⟩
 clear y;obtain⟨i,h,Q,rfl,H⟩:=hrel;by_cases J:i<n
 ·obtain⟨v,hd⟩:∃d,l[i]? =σ d:=⟨_,gE (by have:=HL.o;omega)⟩;have hv:=(H.o.O v (lm_ hd)).1;obtain⟨q,rfl⟩:=eo_ hv.1;have hq:q<f:=oo;have I:=H.o.M.old;obtain⟨b5,O,rfl,o,cv⟩:=Qu_ (HR.o.below I) J hd;obtain⟨x,M⟩:∃x,D.Q.ps[q]? =σ x:=⟨_,gE (by rw[F.o];omega)⟩;obtain⟨b,off,A2,c2,eD,r,y0,y1,y2,N,_,_⟩:=GA_ E.o oo M I;obtain⟨x0,x1,x2,x4,xf,xz⟩:=H.o.M.cells;rw[eD]at x0;have HD:=h_ hd;have g:=h_ (λz j=>vy_ (z:=z) M j);clear hv I y0 y1 y2 M
  cases j:x.blank with
  |true=>
   rw[j]at N;obtain⟨A,c,C,x3,L,hB,e⟩:=H.o.blank hd;have k:=h_ (show WX_ h [⟨#[]⟩] 1=if X4_ D.Q.ps (q:Int)=τ then WX_ h [⟨#[]⟩] 1 else h by rw[ip_ (g.o τ j)]);clear hd j g;obtain⟨n1,t⟩:=ex_ h.1.length;rw[t]at C x3 L e;clear t;go_upto_region 5 with(at_builtin;refine XW_ (.tmp 27) (.tmp 28) C hB rfl rfl er_ er_ oo ?_;intro A5 c5 w5 M5 K5 B5;obtain⟨j5,jf,jz,G⟩:=e.o A5 c5 w5 M5 K5 B5)
   clear C e x0 x1 x2 x3 x4 xf xz cv r o N;generalize w5.setCell ⟨D.T,3,ν⟩ (S_ A5 (n1+1) c5)=W5 at *;go_wp2_with fail;refine Mt.node H HD k G ?_;intro W6 B;go_wp2;exact⟨⟨i+1,_,oo,by go_num,B⟩,ms_⟩
  |false=>
   rw[j]at N;have k:=h_ (show h=if X4_ D.Q.ps (q:Int)=τ then WX_ h [⟨#[]⟩] 1 else h by rw[in_ (by rw[g.o φ j];simp)]);have G:=h_<|ai_ H.o.M<|Kb.refl wr;clear hd j g;go_wp2_with fail
   refine Mt.node H HD k G ?_;intro W6 B;go_wp2;exact⟨⟨i+1,_,oo,by go_num,B⟩,ms_⟩
 obtain rfl:i=n:=oo;have h2:=h_<|H.o.end_<|Nat.le_of_eq HL.o;go_wp2;go_end0;exact⟨rfl,h2.o⟩
def Vv_ (D:WD) (hi:D.imp=φ) (r:WK 78 D f) (fin s:Ws) (a:Int) (A':OA) (n c':Nat) (l:LI) (W:Ω) (hl:η l=n) (hn:n<=1000) (hr:Rd D.w0 1 A' n (Qa_ l)) (F:Mt 78 D f fin W a l 0 s W):
  Δ π 56 #[P_ (σ ⟨D.T,0,ν⟩),S_ A' n c',I_ j_ a] W (WrR D fin W):=by
 have HL:=h_ hl;have I:=h_ hr;have F:=h_ F;have M:=h_ r.P;have N:=h_ r.K.F.tree.len;have P:=r.K.F.few;have X:=r.hf;clear hl hr r;go_in;go_wp2;go_loopw [6] (λx wr=>∃(i:Nat) (j:Ws),i<=n/\x=I_ j_ i/\Ψ (Mt 78 D f fin W a l i j wr)) (λx _=>n-(intOf x).toNat)
 ·exact⟨0,s,lz_ _,rfl,F⟩
 clear F;obtain⟨i,j,Y,rfl,H⟩:=hrel;by_cases y:i<n
 ·obtain⟨v,hd⟩:∃d,l[i]? =σ d:=⟨_,gE (by have:=HL.o;omega)⟩;have hv:=(H.o.O v (lm_ hd)).1;obtain⟨q,rfl⟩:=eo_ hv.1;have hq:q<f:=oo;have O:=H.o.M.old;obtain⟨b5,E,rfl,e,J⟩:=Qu_ (I.o.below O) y hd;obtain⟨x,R⟩:∃x,D.Q.ps[q]? =σ x:=⟨_,gE (by rw[N.o];omega)⟩;obtain⟨b,off,A2,c2,eD,t,y0,y1,y2,y3,_,_⟩:=GA_ M.o oo R O;obtain⟨x0,x1,S,T,U,V⟩:=H.o.M.cells;rw[eD]at x0;have G:=h_ hd;have o:=h_ (λ(Z:Ω) (hZ:Below D.w0.heap.size D.w0 Z)=>show Z.cell? ⟨b5,E+i,ν⟩=σ (I_ j_ (q:Int))from QO_ I.o hZ y G.o);have h:=h_ (λz C=>vy_ (z:=z) R C);clear hv O y0 y1 y2 R;obtain⟨z,C⟩:=ex_ x.blank;rw[C]at y3;have h:=h_ (h.o z C);clear hd C;go_upto_region 3 with fail
  go_quiet (fail);have k:=h_<|H.o.next (show Λ wr (wr.drewN nq)from below_drewN (Below.refl wr.heap.size wr) _);clear H x0 x1 S T U V J t e y3;generalize wr.drewN nq=wq at *;have J:=o.o wq k.o.M.old;have e:=ZU_ I.o k.o.M.old oo;obtain⟨x0,x1,S,T,U,V⟩:=k.o.M.cells
  cases z with
  |true=>
   obtain⟨A,c,L,x3,Q,hB,g⟩:=k.o.blank G.o;have m:=h_ (show WX_ j [⟨#[]⟩] 1=if X4_ D.Q.ps (q:Int)=τ then WX_ j [⟨#[]⟩] 1 else j by rw[ip_ h.o]);obtain⟨n1,B⟩:=ex_ j.1.length;rw[B]at L x3 Q g;clear B;go_upto_region 5 with(at_builtin;refine XW_ (.tmp 28) (.tmp 29) L hB rfl rfl er_ er_ oo ?_;intro A5 c5 w5 M5 K5 B5;obtain⟨j5,jf,jz,p⟩:=g.o A5 c5 w5 M5 K5 B5)
   clear L g x0 x1 S x3 T U V J e;generalize w5.setCell ⟨D.T,3,ν⟩ (S_ A5 (n1+1) c5)=W5 at *;have J:=o.o W5 p.o.1.old;have e:=ZU_ I.o p.o.1.old oo;go_wp2_with fail;refine Mt.node k G m p ?_;intro W6 K;go_wp2;exact⟨⟨i+1,_,oo,by go_num,K⟩,ms_⟩
  |false=>
   have m:=h_ (show j=if X4_ D.Q.ps (q:Int)=τ then WX_ j [⟨#[]⟩] 1 else j by rw[in_ (by rw[h.o];simp)]);have p:=h_<|ai_ k.o.M<|Kb.refl wq;go_wp2_with fail
   refine Mt.node k G m p ?_;intro W6 K;go_wp2;exact⟨⟨i+1,_,oo,by go_num,K⟩,ms_⟩
 obtain rfl:i=n:=oo;have h2:=h_<|H.o.end_<|Nat.le_of_eq HL.o;go_wp2;go_end0;exact⟨rfl,h2.o⟩
def Mt.start {F:FuncId} {D:WD} {a':Int}  {s:Ws}  (hK:WK F D f) (h:WrM D s w) (c:okW D.Q f a (.all l)) (ha:0<=a) (b:a'=a+2) (hz:szL s.1+wE 2100000 D.Q.ps (.all l)<=632000000):Mt F D f (Wg_ D.Q (ZN_ D.Q f) (a+2) s l) w a' l 0 s w:=by
 subst b;exact⟨h,by rw[List.drop_zero],by rw[List.drop_zero];exact hz,c,oo,hK,Kb.refl _⟩
def qo_ (D:WD) (hi:D.imp=τ) (d:WK 104 D f) (s:Ws) (a:Int) (q:Nat) (W:Ω) (h:WrM D s W) (hq:q<D.Q.m+1) (g:okW D.Q f a (.all (QC_ D.Q.ps (q:Int)))) (ha:0<=a/\a<=26) (k:szL s.1+wE 2100000 D.Q.ps (.all (QC_ D.Q.ps (q:Int)))<=632000000):
  Δ π 125 #[P_ (σ ⟨D.T,0,ν⟩),I_ j_ (q:Int),I_ j_ a] W (WrR D (Wg_ D.Q (ZN_ D.Q f) (a+2) s (QC_ D.Q.ps (q:Int))) W):=by
 obtain⟨x,i⟩:∃x,D.Q.ps[q]? =σ x:=⟨_,gE (by rw[d.K.F.tree.len];omega)⟩;rw[Gs_ i]at g k |-
 obtain⟨b,off,A2,c2,eD,l,y0,y1,y2,y3,hr,o⟩:=GA_ d.P hq i h.old;obtain⟨x0,x1,x2,x4,xf,xz⟩:=h.cells;rw[eD]at x0;have j:=d.K.F.few;have p:=(d.K.F.tree.good q x i).1;have HA:=h_<|Jh_ D hi d _ s (a+2) A2 (η x.kids) c2 x.kids W rfl oo hr<|Mt.start d h g ha.1 rfl k;obtain⟨fin,c⟩:=ex_ (Wg_ D.Q (ZN_ D.Q f) (a+2) s x.kids);rw[c]at HA |-
 obtain⟨m,n⟩:=ha;clear h d g k hr i c;go_in;go_wp2_with fail;refine mb_ HA.o ?_;intro w1 h1;have H1:=h_ h1;clear h1;go_wp2;go_end0;exact⟨rfl,H1.o⟩
def qY_ (D:WD) (hi:D.imp=φ) (d:WK 78 D f) (s:Ws) (a:Int) (q:Nat) (W:Ω) (h:WrM D s W) (hq:q<D.Q.m+1) (g:okW D.Q f a (.all (QC_ D.Q.ps (q:Int)))) (ha:0<=a/\a<=26) (k:szL s.1+wE 2100000 D.Q.ps (.all (QC_ D.Q.ps (q:Int)))<=632000000):
  Δ π 99 #[P_ (σ ⟨D.T,0,ν⟩),I_ j_ (q:Int),I_ j_ a] W (WrR D (Wg_ D.Q (ZN_ D.Q f) (a+2) s (QC_ D.Q.ps (q:Int))) W):=by
 obtain⟨x,i⟩:∃x,D.Q.ps[q]? =σ x:=⟨_,gE (by rw[d.K.F.tree.len];omega)⟩;rw[Gs_ i]at g k |-
 obtain⟨b,off,A2,c2,eD,l,y0,y1,y2,y3,hr,o⟩:=GA_ d.P hq i h.old;obtain⟨x0,x1,x2,x4,xf,xz⟩:=h.cells;rw[eD]at x0;have j:=d.K.F.few;have p:=(d.K.F.tree.good q x i).1;have HA:=h_<|Vv_ D hi d _ s (a+2) A2 (η x.kids) c2 x.kids W rfl oo hr<|Mt.start d h g ha.1 rfl k;obtain⟨fin,c⟩:=ex_ (Wg_ D.Q (ZN_ D.Q f) (a+2) s x.kids);rw[c]at HA |-
 obtain⟨m,n⟩:=ha;clear h d g k hr i c;go_in;go_wp2_with fail;refine mb_ HA.o ?_;intro w1 h1;have H1:=h_ h1;clear h1;go_wp2;go_end0;exact⟨rfl,H1.o⟩
def QgF_ (s:Ws) (w:Ω) (e:Ending) (w':Ω):Prop:=∃A c,e=R_ (A_ #[S_ A s.1.length c,I_ j_ s.2])/\Mine w' w.heap.size 9 1 A s.1.length c (Qm_ s.1)/\Λ w w'
def W9_ (P:Hn) (A0 A1 A2 A3:OA) (c0 c1 c2 c3:Nat) (N:Nat) (w:Ω) (m:PcM P A0 A1 A2 A3 w) (K:PcR P) (E:okP P=τ) (hN:N<=100000):
  Δ π 179 #[A_ (pcCells P A0 A1 A2 A3 c0 c1 c2 c3),I_ j_ P.width,I_ j_ (N:Int)] w (QgF_ (YI_ P.m P.l1 (KU_ P (N:Int)).1,(KU_ P (N:Int)).2) w):=by
 have l:=h_ (λW h=>W8_ P A0 A1 A2 A3 c0 c1 c2 c3 N W (m.next h) K E hN);have k:=G6_ P (N:Int);have a:=(G5_ K (N:Int)).2;obtain⟨R,hv⟩:=ex_ (KU_ P (N:Int));rw[hv]at l k a |-
 obtain⟨v,st⟩:=R;dsimp only at k a |-
 have s:=h_ (λW h V n S hr=>V3_ P A0 A1 A2 A3 c0 c1 c2 c3 V n S v W (m.next h) K hr a);obtain⟨L,hL⟩:=ex_ (YI_ P.m P.l1 v);rw[hL]at s |-
 have Y:(st==0)=φ:=by rw[bn_];omega
 obtain⟨wd,F⟩:=ex_ P.width;rw[F]at l |-
 clear m K E hN hv k a hL F;unfold pcCells at l s |-
 obtain⟨M,m⟩:=ex_ P.m;obtain⟨G,y⟩:=ex_ (η P.l0);obtain⟨H,z⟩:=ex_ (η P.l1);obtain⟨I,B⟩:=ex_ (η P.l2);obtain⟨J,C⟩:=ex_ (η P.l3);rw[m,y,z,B,C]at l s |-
 clear m y z B C;have i:=h_ (show Λ w ((w.alloc (C_ (pcC M A0 G c0 A1 H c1 A2 I c2 A3 J c3) 149)).alloc (C_ #[S_ ν 0 0,I_ j_ 0] 61))from grow_);have q:=h_ ((Blk.new w 149 (pcC M A0 G c0 A1 H c1 A2 I c2 A3 J c3)).alloc (C_ #[S_ ν 0 0,I_ j_ 0] 61));have r:Ψ (Blk ((w.alloc (C_ (pcC M A0 G c0 A1 H c1 A2 I c2 A3 J c3) 149)).alloc (C_ #[S_ ν 0 0,I_ j_ 0] 61)) (w.heap.size+1) 61 #[S_ ν 0 0,I_ j_ 0]):=h_ (by
  have h:=Blk.new (w.alloc (C_ (pcC M A0 G c0 A1 H c1 A2 I c2 A3 J c3) 149)) 61 #[S_ ν 0 0,I_ j_ 0];rwa[ws_]at h)
 go_in;go_wp2_with fail;refine(l.o _ i.o).mono ?_;rintro e w1 ⟨V,n,S,rfl,Z,D,g⟩;have f:=h_<|Qb_ i.o g;have t:=h_<|q.o.next g;have x:=h_<|r.o.next g;have HV:=h_ D.rd;obtain⟨q0,q1,q2,q3,q4,T⟩:=Vp_ t.o;clear D g i q r l;go_wp2_with fail
 refine(s.o _ f.o V n S HV.o).mono ?_;rintro e w2 ⟨A,c,rfl,D,g⟩;have HM:=h_<|D.more f.o.size;have o:=h_<|Qb_ f.o g;have b:=h_<|x.o.next g;have U:=b.o.q0;have X:=b.o.q1;have zf:=b.o.frozen;have zz:=b.o.lt;clear D g f t x HV s q0 q1 q2 q3 q4 T;go_wp2;have j:=h_<|(b.o.set_ 0 (S_ A (η L) c)).set_ 1 (I_ j_ st);have Q:=h_<|Qt_ (Qt_ HM.o b.o dc_ 0 (S_ A (η L) c)) (b.o.set_ 0 (S_ A (η L) c)) dc_ 1<|I_ j_ st;have O:=h_<|(o.o.setCell (p:=⟨w.heap.size+1,0,ν⟩) (show w.heap.size<=w.heap.size+1 from oo) (S_ A (η L) c)).setCell (p:=⟨w.heap.size+1,1,ν⟩) (show w.heap.size<=w.heap.size+1 from oo) (I_ j_ st);clear U X zf zz b HM o;generalize (w2.setCell ⟨w.heap.size+1,0,ν⟩ (S_ A (η L) c)).setCell ⟨w.heap.size+1,1,ν⟩ (I_ j_ st)=W9 at *;have U:W9.cell? ⟨w.heap.size+1,0,ν⟩=σ (S_ A (η L) c):=j.o.cell 0;have X:W9.cell? ⟨w.heap.size+1,1,ν⟩=σ (I_ j_ st):=j.o.cell 1;have zz:=j.o.lt;refine bodyPost_ret (by simp[results,Tryz.results179,go_sem,U,X];try rfl) rfl ?_;exact⟨A,c,rfl,Q.o,O.o⟩
def XJ_ {x:Υ} (hc:w.cell? ⟨f,q,ν⟩=σ x) (a:f≠h) (i j:Nat) (u v:Υ):((w.setCell ⟨h,i,ν⟩ u).setCell ⟨h,j,ν⟩ v).cell? ⟨f,q,ν⟩=σ x:=by
 have e:∀(i:Nat) (w:Ω) (u:Υ),(w.setCell ⟨h,i,ν⟩ u).cell? ⟨f,q,ν⟩=w.cell? ⟨f,q,ν⟩:=λi w u=>World.cell?_setCell_other _ _ _ _ (by intro e;injection e with e _ _;exact a e.symm)
 rw[e,e];exact hc
def WrM.far {D:WD} {s:Ws} {cs:Array Υ} (h:WrM D s w) (hb:Blk w f 61 cs) (hg:D.w0.heap.size<=f) (i:Nat) (u:Υ):WrM D s (w.setCell ⟨f,i,ν⟩ u):=by
 obtain⟨A,c,h⟩:=h;have a:61≠wty D.imp:=by cases D.imp<;>decide
 exact⟨A,c,h.blk.far (Kj_ h.blk hb (Ne.symm a)) u,Qt_ h.row hb dc_ _ _,h.bT,h.old.setCell hg _⟩
def WrM.app {D:WD} {s:Ws} (h:WrM D s w) (ls:List BA) (n:Nat) (hn:s.1.length+η ls=n):∃A c,Ψ (Mine w D.w0.heap.size 9 1 A s.1.length c (Qm_ s.1))/\w.cell? ⟨D.T,3,ν⟩=σ (S_ A s.1.length c)/\D.w0.heap.size<=w.heap.size/\
  Ψ (∀A' c' w',Ψ (Mine w' D.w0.heap.size 9 1 A' n c' (Qm_ (s.1++ls)))->Ψ (w.heap.size<=w'.heap.size/\∀g t cs,Blk w g t cs->t≠9->Blk w' g t cs)->Ψ (∀w0,Below D.w0.heap.size w0 w->Below D.w0.heap.size w0 w')->w'.cell? ⟨D.T,3,ν⟩=σ (S_ A s.1.length c)/\(∀i,w'.frozen? ⟨D.T,i,ν⟩=φ)/\D.T<w'.heap.size/\Ψ (WrM D (s.1++ls,s.2) (w'.setCell ⟨D.T,3,ν⟩ (S_ A' n c'))/\Kb w (w'.setCell ⟨D.T,3,ν⟩ (S_ A' n c')))/\Ψ (∀g cs,Blk w g 61 cs->Blk (w'.setCell ⟨D.T,3,ν⟩ (S_ A' n c')) g 61 cs)):=by
 obtain⟨A,c,h⟩:=h;refine⟨A,c,h.row,h.blk.cell 3,h.old.size,λA' c' w' m k b=>?_⟩;obtain⟨k0,k1,k2⟩:=h.put (ls:=ls) (by rw[lA];exact hn.symm) m.o k.o b.o;have a:61≠wty D.imp:=by cases D.imp<;>decide
 exact⟨k0.cell 3,k0.frozen,k0.lt,⟨⟨A',c',k1⟩,k2⟩,λg cs hb=>(k.o.2 g _ cs hb dc_).far (Kj_ (k.o.2 g _ cs hb dc_) k0 a) _⟩
def xU_ {F:FuncId} {D:WD} (g:WK F D f) {s:Ws}   {a:Int} (ha:0<=a/\a<=26) (j:okW D.Q f a (.val x (h:Int) b)) (hz:szL s.1+wE 2100000 D.Q.ps (.val x (h:Int) b)<=632000000):∃(P:Hn) (N:Nat) (L:List BA) (st:Int) (v:LI),(KZ_ D.Q x (h:Int) b a=P/\PcR P/\okP P=τ/\P.width=D.Q.width)/\(D.Q.budget=(N:Int)/\N<=100000)/\KU_ P (N:Int)=(v,st)/\YI_ P.m P.l1 v=L/\(st=1\/st=2)/\η v=η P.l0/\valW D.Q s x (h:Int) b a=WX_ s L st/\szL s.1+szL L<=632000000/\h<D.Q.m+1/\Kk_ D.Q.ps h<=300:=by
 obtain⟨⟨h1,h2⟩,⟨h3,h4⟩,h5,h6⟩:=j;have hf:=g.hf;have l:szL s.1+(10000+x.size+b.size+Kk_ D.Q.ps (h:Int).toNat*2100000)<=632000000:=hz;obtain⟨hR,hS⟩:=UM_ g.K 2100000 (lr_ _) s (a:=a) ⟨ha.1,oo⟩ h1 h2 h4 (k:=(h:Int)) oo h6 oo;have hO:okP (KZ_ D.Q x (h:Int) b a)=τ:=qM_ (a:=a) (VD_ g.K.F (lr_ _) h1 (show h<D.Q.m+1 from oo) h6) ⟨ha.1,oo⟩ h3;obtain⟨N,hN⟩:=eo_ g.B.1;have c:=G6_ (KZ_ D.Q x (h:Int) b a) (N:Int);have i:=(G5_ hR (N:Int)).2;rw[it_]at l;obtain⟨R,e⟩:=ex_ (KU_ (KZ_ D.Q x (h:Int) b a) (N:Int));have d:valW D.Q s x (h:Int) b a=WX_ s (YI_ (KZ_ D.Q x (h:Int) b a).m (KZ_ D.Q x (h:Int) b a).l1 R.1) R.2:=by unfold valW;dsimp only;rw[hN,e]
 rw[e]at c i;refine⟨KZ_ D.Q x (h:Int) b a,N,YI_ (KZ_ D.Q x (h:Int) b a).m (KZ_ D.Q x (h:Int) b a).l1 R.1,R.2,R.1,⟨rfl,hR,hO,rfl⟩,⟨hN,by have:=g.B.2;omega⟩,e,rfl,c,i,d,?_,oo,oo⟩;rw[d,Va_]at hS;rw[show wE 2100000 D.Q.ps (.val x (h:Int) b)=10000+x.size+b.size+Kk_ D.Q.ps h*2100000 from rfl]at hS;omega
def kJ_ (D:WD) (hi:D.imp=τ) (hK:WK 104 D f) (s:Ws) (x i:BA) (q:Nat) (a:Int) (W:Ω) (h:WrM D s W) (ha:0<=a/\a<=26) (am:okW D.Q f a (.val x (q:Int) i)) (hz:szL s.1+wE 2100000 D.Q.ps (.val x (q:Int) i)<=632000000):
    Δ π 124 #[P_ (σ ⟨D.T,0,ν⟩),T_ x,I_ j_ (q:Int),T_ i,I_ j_ a] W (WrR D (valW D.Q s x (q:Int) i a) W):=by
  obtain⟨P,N,L,st,v,⟨hP,hR,hO,ao⟩,⟨hN,r⟩,hv,hL,aC,_,H,aP,aB,ai⟩:=xU_ hK ha am hz;obtain⟨⟨h1,h2⟩,⟨h3,h4⟩,h5,h6⟩:=am;have O:=h_ (λW h=>U2_ D.Q hK.K D.A D.c q x i a W h aB h6 h1 h2 h3 h4 ⟨ha.1,oo⟩ ai);rw[hP]at O;have j:=h_ (λA0 A1 A2 A3 c0 c1 c2 c3 W hM=>W9_ P A0 A1 A2 A3 c0 c1 c2 c3 N W hM hR hO r);rw[hv]at j;dsimp only at j;rw[hL,ao,<-hN]at j;rw[H];have ag:=h_<|hK.P.next h.old;have HW:=h_ h;obtain⟨u0,u1,u2,u4,uf,uz⟩:=h.cells;have aN:=Ya_ L;have aO:=Ya_ s.1;clear hK hz hP hR hO hv hL H h1 h2 h3 h4 h5 h6 h ao hN;unfold pcCells at j;obtain⟨Y,R⟩:=ex_ (η P.l0);obtain⟨Z,r⟩:=ex_ (η P.l1);obtain⟨N2,S⟩:=ex_ (η P.l2);obtain⟨N3,T⟩:=ex_ (η P.l3);have HE:=h_ (λA0 A1 A2 A3 c0 c1 c2 c3=>show pcCells P A0 A1 A2 A3 c0 c1 c2 c3=pcC P.m A0 Y c0 A1 Z c1 A2 N2 c2 A3 N3 c3 by unfold pcCells;rw[R,r,S,T]);rw[R,r,S,T]at j;clear R r S T;go_in;go_wp2_with fail
  refine(O.o _ ag.o).mono ?_;rintro e w1 ⟨A0,A1,A2,A3,c0,c1,c2,c3,rfl,an,m⟩;rw[HE.o];have U:Λ W (w1.alloc (C_ (pcC P.m A0 Y c0 A1 Z c1 A2 N2 c2 A3 N3 c3) 149)):=Qb_ m<|Ql_ br;have ak:Λ w1 (w1.alloc (C_ (pcC P.m A0 Y c0 A1 Z c1 A2 N2 c2 A3 N3 c3) 149)):=Ql_ br;have o:=h_<|HW.o.next U;have I:=h_ U;have y:=h_<|an.pcM.next ak;have Q:=h_<|Blk.new w1 149<|pcC P.m A0 Y c0 A1 Z c1 A2 N2 c2 A3 N3 c3;clear u0 u1 u2 u4 uf uz an m U ak HW ag O;go_upto_region 5 with fail
  generalize w1.alloc (C_ (pcC P.m A0 Y c0 A1 Z c1 A2 N2 c2 A3 N3 c3) 149)=b at *;obtain⟨u0,u1,u2,u4,uf,uz⟩:=o.o.cells;obtain⟨q0,q1,q2,q3,q4,aD⟩:=Vp_ Q.o;have n1:w1.heap.size≠b.heap.size:=oo;have n2:D.T≠b.heap.size:=oo
  go_region_held3 (λw'=>w'.cell? ⟨w1.heap.size,0,ν⟩=σ (I_ j_ P.m)/\w'.cell? ⟨w1.heap.size,1,ν⟩=σ (S_ A0 Y c0)/\w'.cell? ⟨w1.heap.size,2,ν⟩=σ (S_ A1 Z c1)/\w'.cell? ⟨w1.heap.size,3,ν⟩=σ (S_ A2 N2 c2)/\w'.cell? ⟨w1.heap.size,4,ν⟩=σ (S_ A3 N3 c3)/\w'.cell? ⟨D.T,1,ν⟩=σ (I_ j_ D.Q.width)/\w'.cell? ⟨D.T,2,ν⟩=σ (I_ j_ D.Q.budget))
    (first|exact⟨q0,q1,q2,q3,q4,u1,u2⟩|exact⟨v0,v1,v2,v3,v4,y1,y2⟩|exact⟨XJ_ v0 n1 _ _ _ _,XJ_ v1 n1 _ _ _ _,XJ_ v2 n1 _ _ _ _,XJ_ v3 n1 _ _ _ _,XJ_ v4 n1 _ _ _ _,XJ_ y1 n2 _ _ _ _,XJ_ y2 n2 _ _ _ _⟩|go_keep)
    (first
      |(go_at_call 179;refine(j.o A0 A1 A2 A3 c0 c1 c2 c3 _ (by first|exact y.o|exact y.o.next br.drew|exact y.o.next (show Λ b (b.alloc _).drew from(Ql_ br).drew))).mono ?_;rintro e w3 ⟨k,l,rfl,hm,m⟩;have V:Λ b w3:=(by first|exact m|exact br.drew.trans m|exact Qb_ (show Λ b (b.alloc _).drew from(Ql_ br).drew) m);have M:Ψ (Mine w3 D.w0.heap.size 9 1 k (η L) l (Qm_ L)):=h_ (hm.more (lt_ o.o.old.size (by first|exact lr_ _|exact(show Λ b (b.alloc _).drew from(Ql_ br).drew).size)));have C:=h_ (o.o.next V);have J:=h_ (Qb_ I.o V);obtain⟨v0,v1,v2,v3,v4,aJ⟩:=Vp_ (Q.o.next V);obtain⟨y0,y1,y2,y4,yf,yz⟩:=C.o.cells;try (have d:Ψ (Blk w3 b.heap.size 61 #[S_ ν 0 0,I_ j_ 0]):=h_ ((Blk.new b 61 #[S_ ν 0 0,I_ j_ 0]).next (br.drew.trans m));have k0:w3.cell? ⟨b.heap.size,0,ν⟩=σ (S_ ν 0 0):=d.o.cell 0;have k1:w3.cell? ⟨b.heap.size,1,ν⟩=σ (I_ j_ 0):=d.o.cell 1;have kf:=d.o.frozen;have kz:=d.o.lt)))
  all_goals
    have al:=o.o.old.size
    first
    |(have K:Ψ (Blk ((w3.setCell ⟨b.heap.size,0,ν⟩ (S_ k (η L) l)).setCell ⟨b.heap.size,1,ν⟩ (I_ j_ st)) b.heap.size 61 #[S_ k (η L) l,I_ j_ st]):=h_ ((d.o.set_ 0 (S_ k (η L) l)).set_ 1 (I_ j_ st));have E:=h_ ((C.o.far d.o al 0 (S_ k (η L) l)).far (d.o.set_ 0 (S_ k (η L) l)) al 1 (I_ j_ st));have z:=h_ (Qt_ (Qt_ M.o d.o dc_ 0 (S_ k (η L) l)) (d.o.set_ 0 (S_ k (η L) l)) dc_ 1 (I_ j_ st));have ac:=h_ ((J.o.setCell (p:=⟨b.heap.size,0,ν⟩) I.o.size (S_ k (η L) l)).setCell (p:=⟨b.heap.size,1,ν⟩) I.o.size (I_ j_ st));generalize (w3.setCell ⟨b.heap.size,0,ν⟩ (S_ k (η L) l)).setCell ⟨b.heap.size,1,ν⟩ (I_ j_ st)=W5 at *;generalize b.heap.size=g at K |-)
    |(have K:=h_ (Blk.new w3 61 #[S_ k (η L) l,I_ j_ st]);have G:Λ w3 (w3.alloc (C_ #[S_ k (η L) l,I_ j_ st] 61)):=Ql_ br;have E:=h_ (C.o.next G);have z:=h_ (M.o.next G);have ac:=h_ (Qb_ J.o G);clear G;generalize w3.alloc (C_ #[S_ k (η L) l,I_ j_ st] 61)=W5 at *;generalize w3.heap.size=g at K |-)
    clear v0 v1 v2 v3 v4 aJ y0 y1 y2 y4 yf yz q0 q1 q2 q3 q4 aD u0 u1 u2 u4 uf uz C M J o Q y j n1 n2;obtain⟨n1,X⟩:=ex_ s.1.length;obtain⟨A5,c5,B,x3,aj,n⟩:=E.o.app L (n1+η L) (by rw[X]);obtain⟨x0,x1,x2,x4,xf,xz⟩:=E.o.cells;have g0:W5.cell? ⟨g,0,ν⟩=σ (S_ k (η L) l):=K.o.cell 0;have gz:=K.o.lt;have aM:n1+η L<=632000000:=oo;rw[X]at B x3 n;clear X x0 x1 x2 x4;go_upto_region 6 with fail
    go_region_law
      (refine z1_ (.tmp 59) (.tmp 61) (by first|exact B.o.drew|exact B.o) (by first|exact z.o.drew|exact z.o) aj rfl rfl ev_ ev_ oo ?_
       intro A6 c6 w6 M6 K6 B6;obtain⟨j3,jf,jz,F,ad⟩:=n.o A6 c6 w6 M6 (h_ ⟨K6.o.1,λg t cs m ht=>K6.o.2 g t cs m ht⟩) (h_ (λw0 m=>B6.o w0 (by first|exact m.drew|exact m))))
    all_goals
      have ae:=h_<|ad.o _ _ K.o;clear ad K n B z x3 xf xz g0 gz aj E j3 jf jz;generalize w6.setCell ⟨D.T,3,ν⟩ (S_ A6 (n1+η L) c6)=W7 at *;obtain⟨u0,u1,u2,u4,uf,uz⟩:=F.o.1.cells;have g1:W7.cell? ⟨g,1,ν⟩=σ (I_ j_ st):=ae.o.cell 1;have gz:=ae.o.lt;have af:=h_<|(Kb.below ac.o).trans F.o.2;rcases aC with rfl|rfl
      · go_wp2
        go_end0;exact⟨rfl,F.o.1,af.o⟩
      have ah:Ψ (WrM D (WX_ s L 2) (W7.setCell ⟨D.T,4,ν⟩ (I_ j_ 2))/\Kb W7 (W7.setCell ⟨D.T,4,ν⟩ (I_ j_ 2))):=h_ (by
        obtain⟨A,c,h⟩:=F.o.1;exact⟨⟨A,c,(h.state 2).1⟩,(h.state 2).2⟩)
      go_wp2;go_end0;exact⟨rfl,ah.o.1,af.o.trans ah.o.2⟩
def xF_ (D:WD) (hi:D.imp=φ) (hK:WK 78 D f) (s:Ws) (r d:BA) (q:Nat) (a:Int) (W:Ω) (h:WrM D s W) (ha:0<=a/\a<=26) (al:okW D.Q f a (.val r (q:Int) d)) (hz:szL s.1+wE 2100000 D.Q.ps (.val r (q:Int) d)<=632000000):
  Δ π 98 #[P_ (σ ⟨D.T,0,ν⟩),I_ j_ (q:Int),T_ r,T_ d,I_ j_ a] W (WrR D (valW D.Q s r (q:Int) d a) W):=by
 obtain⟨P,N,L,st,v,⟨hP,hR,hO,an⟩,⟨hN,o⟩,hv,hL,aH,p,F,aN,aG,ag⟩:=xU_ hK ha al hz;obtain⟨⟨h1,h2⟩,⟨h3,h4⟩,h5,h6⟩:=al;have I:=h_ (λW h=>WK_ D.Q hK.K D.A D.c q r d a W h aG h6 h1 h2 h3 h4 ⟨ha.1,oo⟩ ag);rw[hP]at I;have l:=h_ (λA0 A1 A2 A3 c0 c1 c2 c3 W hM=>zf_ P A0 A1 A2 A3 c0 c1 c2 c3 N W hM hR hO o);rw[hv,an,<-hN]at l;have k:=h_ (λA0 A1 A2 A3 c0 c1 c2 c3 W hM V n E hr=>ze_ P A0 A1 A2 A3 c0 c1 c2 c3 V n E v W hM hR hr p);rw[hL]at k;rw[F];have ad:=h_<|hK.P.next h.old;have HW:=h_ h;obtain⟨u0,u1,u2,u4,uf,uz⟩:=h.cells;have aL:=Ya_ L;have aM:=Ya_ s.1;clear hK hz hP hR hO hv hL F h1 h2 h3 h4 h5 h6 h an hN p;unfold pcCells at l k;obtain⟨X,O⟩:=ex_ (η P.l0);obtain⟨Y,o⟩:=ex_ (η P.l1);obtain⟨Z,Q⟩:=ex_ (η P.l2);obtain⟨N3,R⟩:=ex_ (η P.l3);have HE:=h_ (λA0 A1 A2 A3 c0 c1 c2 c3=>show pcCells P A0 A1 A2 A3 c0 c1 c2 c3=pcC P.m A0 X c0 A1 Y c1 A2 Z c2 A3 N3 c3 by unfold pcCells;rw[O,o,Q,R]);rw[O,o,Q,R]at l k;clear O o Q R;go_in;go_wp2_with fail
 refine(I.o _ ad.o).mono ?_;rintro e w1 ⟨A0,A1,A2,A3,c0,c1,c2,c3,rfl,am,C⟩;rw[HE.o];have S:Λ W (w1.alloc (C_ (pcC P.m A0 X c0 A1 Y c1 A2 Z c2 A3 N3 c3) 149)):=Qb_ C<|Ql_ br;have ai:Λ w1 (w1.alloc (C_ (pcC P.m A0 X c0 A1 Y c1 A2 Z c2 A3 N3 c3) 149)):=Ql_ br;have J:=h_<|HW.o.next S;have ab:=h_ S;have x:=h_<|am.pcM.next ai;have M:=h_<|Blk.new w1 149<|pcC P.m A0 X c0 A1 Y c1 A2 Z c2 A3 N3 c3;clear u0 u1 u2 u4 uf uz am C S ai HW ad I;go_upto_region 3 with fail
 generalize w1.alloc (C_ (pcC P.m A0 X c0 A1 Y c1 A2 Z c2 A3 N3 c3) 149)=W2 at *;obtain⟨u0,u1,u2,u4,uf,uz⟩:=J.o.cells;obtain⟨q0,q1,q2,q3,q4,U⟩:=Vp_ M.o;go_cut [12,13] (λa b wx=>∃(V:OA) (n E:Nat),a=S_ V n E/\b=I_ j_ st/\n<=8/\Ψ (Rd wx 1 V n (Qa_ v))/\Ψ (Λ W2 wx))
 ·
  go_region_with (go_at_call 115;refine(l.o A0 A1 A2 A3 c0 c1 c2 c3 _ (by first|exact x.o|exact x.o.next br.drew)).mono ?_;rintro e w3 ⟨V,n,E,rfl,ak,hm,C⟩;have aF:Ψ (Λ W2 w3):=h_ (by first|exact C|exact br.drew.trans C);have m:=h_ hm.rd)
  all_goals
   go_wp2_with fail;go_meet;exact⟨V,n,E,rfl,rfl,ak,m,aF⟩
 case rest=>
 obtain⟨V,n,E,rfl,rfl,ak,m,i⟩:=hcut;have G:=h_<|x.o.next i.o;have K:=h_<|J.o.next i.o;have ae:=h_<|M.o.next i.o;have aA:=h_<|Qb_ ab.o i.o;clear q0 q1 q2 q3 q4 U u0 u1 u2 u4 uf uz J M x ab l i;obtain⟨n1,T⟩:=ex_ s.1.length;obtain⟨A5,c5,H,x3,B,j⟩:=K.o.app L (n1+η L) (by rw[T]);obtain⟨x0,x1,x2,x4,xf,xz⟩:=K.o.cells;obtain⟨q0,q1,q2,q3,q4,U⟩:=Vp_ ae.o;have aK:n1+η L<=632000000:=oo;rw[T]at H x3 j;clear T x0 x1 x2 x4;go_upto_region 4 with fail
 go_region_law (first
  |(
    have _s:=z;refine z1_ (.tmp 58) (.tmp 61) M4.o N4.o aj rfl rfl ev_ ev_ oo ?_;intro A6 c6 w6 M6 K6 B6;obtain⟨j3,jf,jz,y,aB⟩:=j.o A6 c6 w6 M6 (h_ ⟨lt_ z.o.size K6.o.1,λg t cs C ht=>K6.o.2 g t cs (C.next z.o) ht⟩) (h_ (λw0 C=>B6.o w0 (Je_ C z.o B))))
  |(
    refine GJ_ rfl 116 func116 nr_ nr_ _ _ rfl #[A_ (pcC P.m A0 X c0 A1 Y c1 A2 Z c2 A3 N3 c3),S_ V n E] ev_ (k.o A0 A1 A2 A3 c0 c1 c2 c3 _ (by first|exact G.o|exact G.o.next br.drew) V n E (by first|exact m.o.drew|exact m.o)) ?_;rintro e w4 ⟨A4,c4,rfl,m4,h4⟩;refine⟨_,rfl,?_⟩;have z:=h_ (show Λ wc w4 by first|exact h4|exact br.drew.trans h4);have M4:=h_ (H.o.next z.o);have N4:=h_ (m4.more (show D.w0.heap.size<=wc.heap.size from B));have k3:=((QW_ z.o).1 _ 3 xz).trans x3;have kz:=ll_ xz z.o.size;have aj:=lt_ B z.o.size))
 all_goals
  clear j H x3 xf xz B K j3 jf jz q0 q1 q2 q3 q4 U ae G m k k3 kz aj M4 N4 z aB;generalize w6.setCell ⟨D.T,3,ν⟩ (S_ A6 (n1+η L) c6)=W7 at *;obtain⟨u0,u1,u2,u4,uf,uz⟩:=y.o.1.cells;have ac:=h_<|(Kb.below aA.o).trans y.o.2;rcases aH with rfl|rfl
  ·go_wp2;go_end0;exact⟨rfl,y.o.1,ac.o⟩
  have af:Ψ (WrM D (WX_ s L 2) (W7.setCell ⟨D.T,4,ν⟩ (I_ j_ 2))/\Kb W7 (W7.setCell ⟨D.T,4,ν⟩ (I_ j_ 2))):=h_ (by
    obtain⟨A,c,h⟩:=y.o.1;exact⟨⟨A,c,(h.state 2).1⟩,(h.state 2).2⟩)
  go_wp2;go_end0;exact⟨rfl,af.o.1,ac.o.trans af.o.2⟩
section
variable {D:WD} {f:Nat} {fin s:Ws} {a:Int} {es:List Wv} {w W:Ω} {R:Ending->Ω->Prop}
def Wt.iline (hi:D.imp=τ) (H:Ψ (Wt 104 D f fin w a s (.line x::es) W)) (k:∀s1 W1,Ψ (Wt 104 D f fin w a s1 es W1)->R (R_ (U_ #[])) W1):Δ π 123 #[P_ (σ ⟨D.T,0,ν⟩),I_ j_ a,T_ x] W R:=by
 have hz:szL s.1+(61+x.size)<=632000000:=H.o.size;refine mb_ (Qae_ D hi s a x W H.o.M ⟨H.o.ha.1,by have:=H.o.ha;omega⟩ oo) ?_;rintro w1 ⟨h1,h2⟩;exact k _ w1<|h_<|H.o.jump rfl h1 h2
def Wt.sline (hi:D.imp=φ) (H:Ψ (Wt 78 D f fin w a s (.line x::es) W)) (k:∀s1 W1,Ψ (Wt 78 D f fin w a s1 es W1)->R (R_ (U_ #[])) W1):Δ π 96 #[P_ (σ ⟨D.T,0,ν⟩),I_ j_ a,T_ x] W R:=by
 have hz:szL s.1+(61+x.size)<=632000000:=H.o.size;refine mb_ (Qaz_ D hi s a x W H.o.M ⟨H.o.ha.1,by have:=H.o.ha;omega⟩ oo) ?_;rintro w1 ⟨h1,h2⟩;exact k _ w1<|h_<|H.o.jump rfl h1 h2
def Wt.ival {q:Nat} (hi:D.imp=τ) (H:Ψ (Wt 104 D f fin w a s (.val x (q:Int) b::es) W)) (hq:q<f) (hv:QI_ (Qc_ D.Q.ps (q:Int))) (k:∀s1 W1,Ψ (Wt 104 D f fin w a s1 es W1)->R (R_ (U_ #[])) W1):Δ π 124 #[P_ (σ ⟨D.T,0,ν⟩),T_ x,I_ j_ (q:Int),T_ b,I_ j_ a] W R:=by
 refine mb_ (kJ_ D hi H.o.K s x b q a W H.o.M H.o.ha (H.o.O _ sm_) H.o.size) ?_;rintro w1 ⟨h1,h2⟩;exact k _ w1<|h_<|H.o.jump rfl h1 h2
def Wt.sval {q:Nat} (hi:D.imp=φ) (H:Ψ (Wt 78 D f fin w a s (.val x (q:Int) b::es) W)) (hq:q<f) (hv:QI_ (Qc_ D.Q.ps (q:Int))) (k:∀s1 W1,Ψ (Wt 78 D f fin w a s1 es W1)->R (R_ (U_ #[])) W1):Δ π 98 #[P_ (σ ⟨D.T,0,ν⟩),I_ j_ (q:Int),T_ x,T_ b,I_ j_ a] W R:=by
 refine mb_ (xF_ D hi H.o.K s x b q a W H.o.M H.o.ha (H.o.O _ sm_) H.o.size) ?_;rintro w1 ⟨h1,h2⟩;exact k _ w1<|h_<|H.o.jump rfl h1 h2
def Wt.iblock {q:Nat} (hi:D.imp=τ) (H:Ψ (Wt 104 D f fin w a s (.all (QC_ D.Q.ps (q:Int))::es) W)) (hq:q<f) (k:∀s1 W1,Ψ (Wt 104 D f fin w a s1 es W1)->R (R_ (U_ #[])) W1):Δ π 125 #[P_ (σ ⟨D.T,0,ν⟩),I_ j_ (q:Int),I_ j_ a] W R:=by
 refine mb_ (qo_ D hi H.o.K s a q W H.o.M (by have:=H.o.K.hf;omega) (H.o.O _ sm_) H.o.ha H.o.size) ?_;rintro w1 ⟨h1,h2⟩;exact k _ w1<|h_<|H.o.jump rfl h1 h2
def Wt.sblock {q:Nat} (hi:D.imp=φ) (H:Ψ (Wt 78 D f fin w a s (.all (QC_ D.Q.ps (q:Int))::es) W)) (hq:q<f) (k:∀s1 W1,Ψ (Wt 78 D f fin w a s1 es W1)->R (R_ (U_ #[])) W1):Δ π 99 #[P_ (σ ⟨D.T,0,ν⟩),I_ j_ (q:Int),I_ j_ a] W R:=by
 refine mb_ (qY_ D hi H.o.K s a q W H.o.M (by have:=H.o.K.hf;omega) (H.o.O _ sm_) H.o.ha H.o.size) ?_;rintro w1 ⟨h1,h2⟩;exact k _ w1<|h_<|H.o.jump rfl h1 h2
def Wt.iall {c':Nat} (hi:D.imp=τ) (H:Ψ (Wt 104 D f fin w a s (.all l::es) W)) (hr:Rd D.w0 1 z (η l) (Qa_ l)) (hl:η l<=12) (k:∀s1 W1,Ψ (Wt 104 D f fin w a s1 es W1)->R (R_ (U_ #[])) W1):Δ π 81 #[P_ (σ ⟨D.T,0,ν⟩),S_ z (η l) c',I_ j_ (a+2)] W R:=by
 refine mb_ (Jh_ D hi H.o.K _ s (a+2) z (η l) c' l W rfl oo hr (Mt.start H.o.K H.o.M (H.o.O _ sm_) H.o.ha.1 rfl H.o.size)) ?_;rintro w1 ⟨h1,h2⟩;exact k _ w1<|h_<|H.o.jump rfl h1 h2
def Wt.sall {c':Nat} (hi:D.imp=φ) (H:Ψ (Wt 78 D f fin w a s (.all l::es) W)) (hr:Rd D.w0 1 z (η l) (Qa_ l)) (hl:η l<=12) (k:∀s1 W1,Ψ (Wt 78 D f fin w a s1 es W1)->R (R_ (U_ #[])) W1):Δ π 56 #[P_ (σ ⟨D.T,0,ν⟩),S_ z (η l) c',I_ j_ (a+2)] W R:=by
 refine mb_ (Vv_ D hi H.o.K _ s (a+2) z (η l) c' l W rfl oo hr (Mt.start H.o.K H.o.M (H.o.O _ sm_) H.o.ha.1 rfl H.o.size)) ?_;rintro w1 ⟨h1,h2⟩;exact k _ w1<|h_<|H.o.jump rfl h1 h2
end
def Qa0_ (ps:List PN) (A':OA) (c':Nat) (l:LI) (v9:Int) (kd:Int) (t:BA) (z:Bool) (W:Ω) (hP:Nps W e n ps) (I:PNs ps) (hm:η l<=11) (M:t.size<=1048576) (hr:Rd W 1 A' (η l+1) (Qa_ (l++[v9]))) (X:η l+1<=c') (hv:Ψ (∀v∈l,0<=v/\v<(n:Int))) (ag:n<=300):
  Δ π 126 #[S_ e n c,A_ #[I_ j_ kd,T_ t,S_ A' (η l+1) c',B_ z]] W λA w'=>A=R_ (T_ (t++⟨#[40]⟩++Q5_ (l.map (QE_ ps))++⟨#[41,32,123]⟩))/\Λ W w':=by
 have J:=h_ hr;have HP:=h_ hP;have y:=h_ (show ∀k:Int,(QE_ ps k).size<=1048576 from λk=>Yt_ I _);have B:=h_<|Jj_ (l:=l.map (QE_ ps)) (λt M=>by obtain⟨u,_,rfl⟩:=List.mem_map.1 M;exact y.o u) so_ (η l);have s:=h_ (show(l.map (QE_ ps)).take (η l)=l.map (QE_ ps)from List.take_of_length_le sm_);rw[s.o]at B;obtain⟨L,a,rfl⟩:=ZC_ J.o oo;have g:=h_ (show Λ W (W.alloc (C_ #[I_ j_ kd,T_ t,S_ (σ ⟨L,a,ν⟩) (η l+1) c',B_ z] 96))from grow_);have h:=h_ (show Mine (W.alloc (C_ #[I_ j_ kd,T_ t,S_ (σ ⟨L,a,ν⟩) (η l+1) c',B_ z] 96)) W.heap.size 9 1 ν 0 0 (Qm_ ((l.take 0).map (QE_ ps)))from Mine.mk_nil _ _ _ _);have O:=h_ (λ(Z:Ω) (V:Λ W Z) (i:Nat) (v:Int) (hd:(l++[v9])[i]? =σ v)=>QO_ J.o V (by have:=(gs_.1 hd).1;simpa using this) hd);have R:=h_ (λ(Z:Ω) (V:Λ W Z)=>ZU_ J.o V oo);have m:=h_<|Blk.new W 96 #[I_ j_ kd,T_ t,S_ (σ ⟨L,a,ν⟩) (η l+1) c',B_ z];obtain⟨b,q⟩:=ex_ (η l);have j:=h_ q;rw[q]at hm g h m X |-
 clear hr hP I q J s;have ae:(b:Int)<=(c':Int):=oo;go_in;go_wp2;go_loopw [5,16] (λo x wr=>∃(i:Nat) (e:OA) (c:Nat),i<=b/\x=I_ j_ i/\o=S_ e i c/\Ψ (Mine wr W.heap.size 9 1 e i c (Qm_ ((l.take i).map (QE_ ps))))/\Ψ (Λ W wr)/\Ψ (Blk wr W.heap.size 96 #[I_ j_ kd,T_ t,S_ (σ ⟨L,a,ν⟩) (b+1) c',B_ z])) (λ_ x _=>b-(intOf x).toNat)
 ·exact⟨0,ν,0,lz_ _,rfl,rfl,h,g,m⟩
 clear h g m;obtain⟨i,An,cn,af,rfl,rfl,S,r,m⟩:=hrel;have F:=r.o.size;by_cases h1:i<b
 ·obtain⟨v,hd⟩:∃d,l[i]? =σ d:=⟨_,gE (by rw[j.o];exact h1)⟩;obtain⟨aa,ak⟩:=hv.o v (lm_ hd);obtain⟨p,rfl⟩:=eo_ aa;have H:p<n:=oo;have ck:=O.o wr r.o i (p:Int) (by rw[List.getElem?_append_left (by rw[j.o];exact h1)];exact hd);have cl:=R.o wr r.o;obtain⟨x,hx⟩:=HP.o.get H;obtain⟨bn,ad,A9,c9,eD,E,_,y1,_⟩:=HP.o.atc H hx;subst eD;have G:=(QW_ r.o).1;have yn:=(G _ _ E).trans y1;have ac:=ll_ E F;have C:=h_ (Gy_ (ps:=ps) hd);have U:=h_ (show QE_ ps (p:Int)=x.text by unfold QE_;rw[it_,X7_ hx]);rw[U.o]at C;clear hd y1 G hx;go_wp2_with (at_builtin;refine XW_ (.tmp 20) (.tmp 26) S F rfl rfl er_ er_ oo ?_;intro A5 c5 w5 T Q N);go_roundw
  ·exact⟨i+1,A5,c5,oo,by go_num,rfl,by rw[C.o];exact T,h_ (N.o _ r.o),h_ (Q.o.2 _ _ _ m.o dc_)⟩
  exact ms_
 obtain rfl:b=i:=oo;have HJ:=h_ (show(l.take b).map (QE_ ps)=l.map (QE_ ps)by rw[List.take_of_length_le (Nat.le_of_eq j.o)]);have P:=h_ (λW2 (hb:Λ wr W2)=>vT_ An b cn (l.map (QE_ ps)) W2 oo (by rw[<-HJ.o];exact S.o.rd.next hb) (λt M=>by obtain⟨u,_,rfl⟩:=List.mem_map.1 M;exact y.o u) (Mine.cap S.o));have Y:=B.o;have ah:¬9223372036854775807<t.size+1:=oo;have ai:¬9223372036854775807<t.size+1+(Q5_ (l.map (QE_ ps))).size:=oo;have aj:¬9223372036854775807<t.size+1+(Q5_ (l.map (QE_ ps))).size+3:=oo;have K:=m.o;have x1:=K.q1;have xg:=K.lt;clear K Y;go_upto_region 7 with fail
 go_cut [4] (λx wx=>x=T_ (t++⟨#[40]⟩++Q5_ (l.map (QE_ ps))++⟨#[41,32,123]⟩)/\Ψ (Λ W wx))
 ·
  go_region_with (go_at_call 180;refine mb_ (P.o _ (by first|exact br|exact br.drew)) ?_;intro w8 h8;have D:Λ wr w8:=(by first|exact h8|exact br.drew.trans h8);have f:=h_ (Qb_ r.o D);have K8:=m.o.next D;have al:w8.cell? ⟨W.heap.size,1,ν⟩=σ (T_ t):=K8.cell 1;have am:=K8.lt)
  all_goals
   go_wp2_with fail;go_meet;exact⟨rfl,f⟩
 case rest=>
 obtain⟨rfl,f⟩:=hcut;go_wp2;go_ret;exact⟨rfl,f.o⟩
def Wt.told0 {D:WD} {fin s:Ws}  {es:List Wv}  {R:Ending->Ω->Prop} {kd:Int} {c:BA}   {W:Bool} (hi:D.imp=φ) (hr:Rd D.w0 1 z 0 (Qa_ [])) (H:Ψ (Wt 78 D f fin w a s (.line b::es) d)) (k:∀s1 W1,Ψ (Wt 78 D f fin w a s1 es W1)->R (R_ (U_ #[])) W1):
  Δ π 97 #[P_ (σ ⟨D.T,0,ν⟩),A_ #[I_ j_ kd,T_ x,S_ z 0 h,B_ W],T_ b,T_ c,I_ j_ a] d R:=by
 have H1:=h_<|H.o.next (show Λ d (d.alloc (C_ #[I_ j_ kd,T_ x,S_ z 0 h,B_ W] 96))from grow_);clear H
 suffices t:Δ π 97 #[P_ (σ ⟨D.T,0,ν⟩),A_ #[I_ j_ kd,T_ x,S_ z 0 h,B_ W],T_ b,T_ c,I_ j_ a] d (λe w'=>e=R_ (U_ #[])/\∃s1,Wt 78 D f fin w a s1 es w')from
  t.mono (by rintro e w1 ⟨rfl,s1,h1⟩;exact k s1 w1 (h_ h1))
 clear k;go_in;go_wp2_with fail;refine Wt.sline hi H1 ?_;intro s1 W1 H2;go_wp2;refine bodyPost_ret (results_none rfl _ _ _) rfl ?_;exact⟨rfl,s1,H2.o⟩
def Wt.told1 {D:WD} {fin s:Ws}  {es:List Wv}  {R:Ending->Ω->Prop} {kd:Int} {W:BA}   {t:Bool}  (hi:D.imp=φ) (g:Rd D.w0 1 z 1 (Qa_ [(q:Int)])) (H:Ψ (Wt 78 D f fin w a s (.val W (q:Int) ⟨#[59]⟩::es) d)) (hq:q<f) (hv:QI_ (Qc_ D.Q.ps (q:Int))) (k:∀s1 W1,Ψ (Wt 78 D f fin w a s1 es W1)->R (R_ (U_ #[])) W1):
  Δ π 97 #[P_ (σ ⟨D.T,0,ν⟩),A_ #[I_ j_ kd,T_ x,S_ z 1 h,B_ t],T_ b,T_ W,I_ j_ a] d R:=by
 obtain⟨b5,c,rfl⟩:=ZC_ g sm_;have hb:Λ d (d.alloc (C_ #[I_ j_ kd,T_ x,S_ (σ ⟨b5,c,ν⟩) 1 h,B_ t] 96)):=grow_;have H1:=h_<|H.o.next hb;have cv:=QO_ g H.o.M.old (i:=0) sm_ rfl;rw[Nat.add_zero]at cv;have j:=ZU_ g H.o.M.old sm_;clear H hb g
 suffices A':Δ π 97 #[P_ (σ ⟨D.T,0,ν⟩),A_ #[I_ j_ kd,T_ x,S_ (σ ⟨b5,c,ν⟩) 1 h,B_ t],T_ b,T_ W,I_ j_ a] d (λe w'=>e=R_ (U_ #[])/\∃s1,Wt 78 D f fin w a s1 es w')from
  A'.mono (by rintro e w1 ⟨rfl,s1,h1⟩;exact k s1 w1 (h_ h1))
 clear k;go_in;go_wp2_with fail;refine Wt.sval hi H1 hq hv ?_;intro s1 W1 H2;go_wp2;go_end0;exact⟨rfl,s1,H2.o⟩
def Y5_ (t:BA):Option (List PN):=
 if (KV_ t).2.2=τ then
  match Xg_ (KV_ t).1 with
  |none=>ν
  |some s=>if Yb_ s.nodes=τ then σ s.nodes else ν
 else ν
def PreC (c:UInt8) (n:Nat) (x:BA):Prop:=x.size<=n/\∀y l,x.data.toList=y::l->y=c
def Qgt_ {c:UInt8} {l y:List UInt8} (h:y <+: (c::l)):PreC c (η l+1) ⟨y.toArray⟩:=by
 obtain⟨z,d⟩:=h;refine⟨?_,λa b e=>?_⟩
 ·have:=congrArg List.length d;simp at this;show y.toArray.size<=_;simp;omega
 have e':y=a::b:=by simpa using e
 subst e';simp at d;exact d.1
def qN_:PreC s (η u+1) ⟨((s::u).take k).toArray⟩:=Qgt_ (List.take_prefix _ _)
def Qgc_ (c:UInt8):Lib.trimRightB u c <+: u:=by
 unfold Lib.trimRightB;have h:u.reverse.dropWhile (·==c) <:+ u.reverse:=List.dropWhile_suffix _;have:=List.reverse_prefix.2 h;rwa[List.reverse_reverse]at this
def QfO_:PreC s (η u+1) (VX_ ⟨((s::u).take k).toArray⟩):=by
 unfold VX_;refine Qgt_ (List.IsPrefix.trans (Qgc_ _ _) ?_);simpa using List.take_prefix k (s::u)
def zj_ (n:Nat) (d:SgP):Prop:=d.2.1.size<=n/\(((d.2.1.toList==[41])=τ\/(d.2.1.toList==[61,62])=τ\/(d.2.1.toList==[44])=τ)->d.1=4)
def UD_ {c:UInt8} (h:PreC c f x) (h1:c≠41) (h2:c≠61) (h3:c≠44) (k q:Int) (b:Bool):zj_ f (k,x,q,b):=by
 refine⟨h.1,λe=>?_⟩;exfalso;rw[ByteArray.toList_eq]at e;rcases e with e|e|e
 ·exact h1 (h.2 41 [] (eq_of_beq e)).symm
 ·exact h2 (h.2 61 [62] (eq_of_beq e)).symm
 exact h3 (h.2 44 [] (eq_of_beq e)).symm
def Qia_ {c:UInt8} (h:Kz_ c=τ):c≠41/\c≠61/\c≠44:=by
 unfold Kz_ at h;have:=od_ h;refine⟨?_,?_,?_⟩<;>(rintro rfl;simp at this)
def Qfj_ {c:UInt8} (h:QN_ c=τ):c≠41/\c≠61/\c≠44:=by
 unfold QN_ at h;have:=od_ h;refine⟨?_,?_,?_⟩<;>(rintro rfl;simp at this)
def Qht_ {c:UInt8} {l:List UInt8} (h:0<KD_ (c::l)):c=47:=by
 rcases Classical.em (c=47)with e|e
 ·exact e
 rw[VH_ e]at h;omega
def QbS_ (b:Bool):zj_ (η u+1) ((Kq_ (s::u) k).1,(Kq_ (s::u) k).2.1,(Kq_ (s::u) k).2.2.1,b):=by
 have hz:∀c p,zj_ (η u+1) (c,⟨#[]⟩,p,b):=λc p=>⟨lz_ _,λe=>by
  exfalso;rw[ByteArray.toList_eq]at e;rcases e with e|e|e<;>cases e⟩
 unfold Kq_;by_cases i:0<KD_ (s::u)
 ·rw[ip_ i];have:=Qht_ i;exact UD_ (QfO_ s u _) (by rw[this];decide) (by rw[this];decide) (by rw[this];decide) _ _ _
 rw[in_ i];by_cases h1:QN_ s=τ
 ·simp only;rw[ip_ h1];obtain⟨d,f,g⟩:=Qfj_ h1;split
  ·exact hz _ _
  exact UD_ (qN_ s u _) d f g _ _ _
 simp only;rw[in_ h1];by_cases h:Kz_ s=τ
 ·rw[ip_ h];obtain⟨d,f,g⟩:=Qia_ h;split
  ·exact hz _ _
  exact UD_ (qN_ s u _) d f g _ _ _
 rw[in_ h];by_cases a:s=39
 ·rw[ip_ a];exact UD_ (qN_ s u _) (by rw[a];decide) (by rw[a];decide) (by rw[a];decide) _ _ _
 rw[in_ a];refine⟨?_,λ_=>rfl⟩;have:=vZ_ (s::u) marks04;show(XU_ (s::u)).toArray.size<=_;unfold XU_;simpa using this
def jX_ (hn:η u<=k):∀(f at_ br:Nat) (acc:List SgP),(∀d∈acc,zj_ k d)->∀d∈(XR_ u f at_ br acc).1,zj_ k d:=by
 intro f
 induction f with
 |zero=>intro at_ br acc h;exact h
 |succ f b=>
  intro at_ br acc h;unfold XR_;split
  ·exact h
  rename_i c l' hd;split
  ·exact b _ _ _ h
  split
  ·exact b _ _ _ h
  split
  ·intro d hd;cases hd
  refine b _ _ _ (λd a=>?_);rcases List.mem_append.1 a with a|a
  ·exact h d a
  obtain rfl:=ms1_.1 a;have hl:η l'+1<=k:=by
   have:=congrArg List.length hd;simp at this;omega
  have:=QbS_ c l' at_ (decide (1<br));exact⟨lt_ this.1 hl,this.2⟩
def WH_:∀d∈(KV_ t).1,zj_ 3000 d:=by
 unfold KV_;split
 ·intro d hd;cases hd
 exact jX_ _ 3000 (by rw[QF_];omega) _ _ _ _ (λd hd=>by cases hd)
def QbX_:Yd_ (KV_ t).1:=λd hd=>(WH_ t d hd).1
def jY_:XC_ (KV_ t).1:=λd hd=>(WH_ t d hd).2
def VK_ {t:BA} {s:PS} (h:Xg_ (KV_ t).1=σ s):η s.nodes<=300/\PNs s.nodes:=by
 obtain⟨h1,h2⟩:=QaV_ (QbX_ t) s h;exact⟨h1,λp hp=>by have:=h2 p hp;exact⟨by have:=this.1;omega,by have:=this.2;omega⟩⟩
def zO_ (h:Y5_ x=σ y):Yb_ y=τ/\η y<=300/\PNs y:=by
 unfold Y5_ at h;split at h
 ·cases a:Xg_ (KV_ x).1 with
  |none=>rw[a]at h;cases h
  |some s=>
   rw[a]at h;simp only at h;split at h
   ·rename_i ht;obtain rfl:=oi_ h;exact⟨ht,(VK_ a).1,(VK_ a).2⟩
   cases h
 cases h
def RdI.nps {R:RC} {s:PS} {row:ON}  (hi:R.imp=τ) (h:RdI R f (σ s) row w):
  ∃A c,w.cell? ⟨R.T,4,ν⟩=σ (B_ φ)/\w.cell? ⟨R.T,5,ν⟩=σ (S_ A (η s.nodes) c)/\(∀i,w.frozen? ⟨R.T,i,ν⟩=φ)/\R.T<w.heap.size/\Nps w A (η s.nodes) s.nodes:=by
 obtain⟨a,b,AN,cN,l,d,⟨rfl,_,e⟩,_⟩:=h;obtain⟨c0,c2,c3,c4,c5,cf,cz⟩:=d.ci hi;have hl:η s.nodes=η l:=by rw[e,List.length_map]
 refine⟨AN,cN,c4,by rw[hl];exact c5,cf,cz,l,⟨hl.symm,?_,λx g=>(d.2.2.1.1 x g).2.rd⟩,λx g=>(d.2.2.1.1 x g).1.1,e.symm⟩;rw[hl];exact d.2.1.rd
def RdI.set4 {R:RC} {s:PS} {row:ON}  (hi:R.imp=τ) (h:RdI R f (σ s) row w):RdI R f (σ s) row (w.setCell ⟨R.T,4,ν⟩ (B_ φ)):=by
 obtain⟨a,b,AN,cN,l,hc,⟨rfl,h1,h2⟩,c⟩:=h;have:=hc.set (i:=4) (u:=B_ φ) (a':=a) (d':=f) (b':=φ) (by unfold RC.cells;rw[ip_ hi];simp) hc.2.2.2.2.1;exact⟨a,φ,AN,cN,l,this.1,⟨rfl,h1,h2⟩,c⟩
def RdI.set4b {R:RC} {st:RdSt} {row:ON}  (hi:R.imp=τ) (h:RdI R f st row w):(w.setCell ⟨R.T,4,ν⟩ (B_ τ)).cell? ⟨R.T,4,ν⟩=σ (B_ τ)/\R.T<(w.setCell ⟨R.T,4,ν⟩ (B_ τ)).heap.size:=by
 obtain⟨a,b,AN,cN,l,hc,j,c⟩:=h;obtain⟨a',b',g,i,l',d,e,_⟩:=(RdI.bad1 hi hc c).1;obtain⟨c0,c2,c3,c4,c5,cf,cz⟩:=d.ci hi;obtain rfl:b'=τ:=e;exact⟨c4,cz⟩
def RdR (t:BA) (w:Ω) (e:Ending) (w':Ω):Prop:=
 ∃(T:Nat) (p:Int),e=R_ (U_ #[P_ (σ ⟨T,0,ν⟩),I_ j_ p])/\w'.cell? ⟨T,4,ν⟩=σ (B_ (Y5_ t).isNone)/\T<w'.heap.size/\Λ w w'/\∀ps,Y5_ t=σ ps->p=0/\∃A c,w'.cell? ⟨T,5,ν⟩=σ (S_ A (η ps) c)/\Nps w' A (η ps) ps
def Qag_ {t:BA} (h:(KV_ t).2.2=φ):Y5_ t=ν:=by unfold Y5_;rw[h];rfl
def zN_ {t:BA} (h:(KV_ t).2.2=τ) (hn:Xg_ (KV_ t).1=ν):Y5_ t=ν:=by unfold Y5_;rw[h,ip_ rfl,hn]
def Qah_ {t:BA} (h:(KV_ t).2.2=τ) {s:PS} (hn:Xg_ (KV_ t).1=σ s):Y5_ t=if Yb_ s.nodes=τ then σ s.nodes else ν:=by unfold Y5_;rw[h,ip_ rfl,hn]
def V7_ (t:BA) (w:Ω) (ht:t.size<=1048576):Δ π 79 #[T_ t] w (RdR t w):=by
 have HS:=h_<|U4_ t w ht;have M:=zW_ t;have o:=h_ (λh=>Qag_ (t:=t) h);have p:=h_ (λh1 h2=>zN_ (t:=t) h1 h2);have q:=h_ (λh1 (s:PS) h2=>Qah_ (t:=t) h1 (s:=s) h2);have B:=h_ (λ(s:PS) h=>VK_ (t:=t) (s:=s) h);unfold RdR;unfold vm_ at HS;generalize Y5_ t=RP at o p q |-
 generalize KV_ t=Z at HS M o p q B;obtain⟨sg,pl,ok⟩:=Z;dsimp only at HS M o p q B;obtain⟨n,hn⟩:=ex_ (η sg);rw[hn]at HS M;go_in;go_wp2_with fail;refine HS.o.mono ?_;rintro e w1 ⟨A,c,rfl,m1,h1⟩;have k:=h1.size;have ap:=h_ m1;have H:=h_ h1;clear m1 h1 HS
 cases ok with
 |false=>
  have Q:=o.o (by trivial);subst Q;have K:=Blk.new w1 117 #[S_ A n c,I_ j_ t.size,I_ j_ 0,I_ j_ 0,B_ τ,S_ ν 0 0,S_ ν 0 0];have k4:=K.q4;have kz:=K.lt;have ao:=h_<|H.o.alloc k<|C_ #[S_ A n c,I_ j_ t.size,I_ j_ 0,I_ j_ 0,B_ τ,S_ ν 0 0,S_ ν 0 0] 117;clear K o p q B;go_wp2;go_ret2;exact⟨w1.heap.size,pl,rfl,k4,kz,ao.o,λps h=>by cases h⟩
 |true=>
  obtain⟨R,O⟩:∃R:RC,R=⟨τ,w1.heap.size,A,n,c,t.size,S_ ν 0 0,sg,w1,λ_=>False⟩:=⟨_,rfl⟩;have K:=Blk.new w1 117 #[S_ A n c,I_ j_ t.size,I_ j_ 0,I_ j_ 0,B_ φ,S_ ν 0 0,S_ ν 0 0];have ae:RdI R 0 (σ ⟨0,[]⟩) ν (w1.alloc (C_ #[S_ A n c,I_ j_ t.size,I_ j_ 0,I_ j_ 0,B_ φ,S_ ν 0 0,S_ ν 0 0] 117)):=by
   subst O;exact⟨0,φ,ν,0,[],⟨K,Mine.mk_nil _ _ _ _,⟨λx hx=>absurd hx sm_,λg hg=>False.elim hg⟩,by simp,lz_ _,br.alloc (lr_ _) _,⟨hn,M,ap.o.rd,lr_ _⟩⟩,⟨rfl,rfl,rfl⟩,rfl⟩
  have r:R.imp=τ:=by rw[O]
  have C:R.T=w1.heap.size:=by rw[O]
  have j:R.n=n:=by rw[O]
  have X:R.M=S_ ν 0 0:=by rw[O]
  have J:R.sg=sg:=by rw[O]
  have G:R.A=A/\R.c=c:=by rw[O];exact⟨rfl,rfl⟩
  have hF:=QcN_ R r (n+2) (14*(n+2)) (by rw[j];omega) oo (by rw[j];omega) (GQ_ R r (n+2) (by rw[j];omega) _) (σ ⟨0,[]⟩) ν _ ae X;have ai:ji_ R.sg (Qd_ R.sg (n+2) (14*(n+2))) (n+2) (σ ⟨0,[]⟩)=Xg_ sg:=by rw[J];unfold Xg_;rw[hn]
  rw[ai,C]at hF;have HF:=h_ hF;have aE:=h_<|H.o.alloc k<|C_ #[S_ A n c,I_ j_ t.size,I_ j_ 0,I_ j_ 0,B_ φ,S_ ν 0 0,S_ ν 0 0] 117;have Y:R.w0=w1:=by rw[O]
  clear hF ai K ae;go_wp2_with fail;refine mb_ HF.o ?_;rintro w2 ⟨v,row',f,aG⟩;have I:Ψ (Λ w w2):=(show Λ w w2 from H.o.trans (by have:=f.old;rw[show(R.mem v).w0=w1 from Y]at this;exact this.mono k));have aI:=f.old.size
  cases D:Xg_ sg with
  |none=>
   have Q:=p.o (by trivial) D;subst Q;rw[D]at f;obtain⟨a,b,AN,cN,l,hc,hb,aj⟩:=f;obtain⟨c0,c2,c3,F,V,N,m⟩:=RdC.ci (R:=R.mem v) r hc;obtain rfl:b=τ:=hb;have af:=hc.2.2.2.2.1;have d:=hc.2.2.2.2.2.2.rd.below hc.2.2.2.2.2.1;change w2.cell? ⟨R.T,0,ν⟩=σ (S_ R.A R.n R.c)at c0;change w2.cell? ⟨R.T,2,ν⟩=_ at c2;change w2.cell? ⟨R.T,4,ν⟩=_ at F;change R.T<_ at m;change a<=R.n at af;change Rd w2 4 R.A R.n (R.sg.flatMap ZP_)at d;rw[C]at c0 c2 F m;rw[G.1,j,G.2]at c0;rw[j]at af;rw[G.1,j,J]at d;clear hc c3 V N aj HF o p q B X J G C j r Y;by_cases aB:a<n
   ·obtain⟨x,hx⟩:∃x,sg[a]? =σ x:=⟨_,gE oo⟩;obtain⟨b1,off,hA,aD,e0,e1,e2,e3⟩:=Yv_ d aB hx;subst hA;have ah:(a:Int)<n:=oo;clear d hx e0 e1 e3;go_wp2;go_quiet (fail);go_wp2;go_ret2;exact⟨w1.heap.size,_,rfl,F,m,Qb_ I.o (below_drewN br _),λps h=>by cases h⟩
   have ah:¬(a:Int)<n:=oo;clear d;go_wp2;go_ret2;exact⟨w1.heap.size,_,rfl,F,m,I.o,λps h=>by cases h⟩
  |some s=>
   have Q:=q.o (by trivial) s D;obtain⟨aH,ak⟩:=B.o s D;rw[D]at f;obtain⟨A2,aq,F,V,N,m,P⟩:=RdI.nps (R:=R.mem v) r f;change w2.cell? ⟨R.T,4,ν⟩=_ at F;change w2.cell? ⟨R.T,5,ν⟩=_ at V;change ∀i,w2.frozen? ⟨R.T,i,ν⟩=φ at N;change R.T<_ at m;rw[C]at F V N m;have ac:=h_ f;have U:=h_ r;have HT:=h_<|V4_ A2 (η s.nodes) aq s.nodes w2 oo P<|h_ ak;have hz:=H.o.size;have ad:=h_ C;clear P ak f HF o p q B X J G C j r Y D
   cases E:Yb_ s.nodes with
   |true=>
    rw[E,ip_ rfl]at Q;rw[E]at HT;subst Q;clear E;go_wp2_with fail;refine mb_ HT.o ?_;intro w3 y;have ar:=((QW_ y).1 _ 4 m).trans F;have aF:=((QW_ y).1 _ 5 m).trans V;have ax:∀i,w3.frozen? ⟨w1.heap.size,i,ν⟩=φ:=λi=>((QW_ y).2 _ i m).trans (N i)
    have ay:=ll_ m y.size;obtain⟨A4,av,q4,q5,_,qz,z⟩:=RdI.nps (R:=R.mem v) U.o (RdI.set4 (R:=R.mem v) U.o (ac.o.next y));change (w3.setCell ⟨R.T,4,ν⟩ (B_ φ)).cell? ⟨R.T,4,ν⟩=_ at q4;change (w3.setCell ⟨R.T,4,ν⟩ (B_ φ)).cell? ⟨R.T,5,ν⟩=_ at q5;change R.T<(w3.setCell ⟨R.T,4,ν⟩ (B_ φ)).heap.size at qz;change Nps (w3.setCell ⟨R.T,4,ν⟩ (B_ φ)) _ _ _ at z;rw[ad.o]at q4 q5 qz z;have S:=h_<|ai_ q4<|ai_ q5<|ai_ qz z;clear q4 q5 qz z;have T:=h_<|(Qb_ I.o y).setCell (show w.heap.size<=(⟨w1.heap.size,4,ν⟩:Addr).block from k) (B_ φ);clear y F V N m HT;go_wp2;go_ret2;exact⟨w1.heap.size,_,rfl,S.o.1,S.o.2.2.1,T.o,λps h=>by obtain rfl:=oi_ h;exact⟨rfl,A4,av,S.o.2.1,S.o.2.2.2⟩⟩
   |false=>
    rw[E,in_ dc_]at Q;rw[E]at HT;subst Q;clear E;go_wp2_with fail;refine mb_ HT.o ?_;intro w3 y;have L:=RdI.set4b (R:=R.mem v) U.o<|ac.o.next y;change (w3.setCell ⟨R.T,4,ν⟩ (B_ τ)).cell? ⟨R.T,4,ν⟩=_/\R.T<_ at L;rw[ad.o]at L;have S:=h_ L;clear L;have ar:=((QW_ y).1 _ 4 m).trans F;have ax:∀i,w3.frozen? ⟨w1.heap.size,i,ν⟩=φ:=λi=>((QW_ y).2 _ i m).trans (N i)
    have ay:=ll_ m y.size;have T:=h_<|(Qb_ I.o y).setCell (show w.heap.size<=(⟨w1.heap.size,4,ν⟩:Addr).block from k) (B_ τ);clear y F V N m HT;go_wp2;go_ret2;exact⟨w1.heap.size,_,rfl,S.o.1,S.o.2,T.o,λps h=>by cases h⟩
def qt_ (ht:t.size<=1048576) (h:Y5_ t=ν):Δ π 58 #[T_ t] r λe w'=>∃p:Int,e=R_ (U_ #[S_ ν 0 0,I_ j_ p,B_ φ])/\Λ r w':=by
 have a:=V7_ t r ht;unfold RdR at a;rw[h]at a;have a:=h_ a;clear h;go_in;go_wp2_with fail;refine a.o.mono ?_;rintro e w1 ⟨T,p,rfl,c4,cz,hb,_⟩;have HB:=h_ hb;change w1.cell? ⟨T,4,ν⟩=σ (B_ τ)at c4;clear hb;go_wp2;refine bodyPost_ret rs_ rfl ?_;exact⟨p,rfl,HB.o⟩
def qu_ (ht:t.size<=1048576) (ps:List PN) (h:Y5_ t=σ ps):Δ π 58 #[T_ t] r λe w'=>∃A c,e=R_ (U_ #[S_ A (η ps) c,I_ j_ 0,B_ τ])/\Nps w' A (η ps) ps/\Λ r w':=by
 have a:=V7_ t r ht;unfold RdR at a;rw[h]at a;have a:=h_ a;clear h;go_in;go_wp2_with fail;refine a.o.mono ?_;rintro e w1 ⟨T,p,rfl,c4,cz,hb,h5⟩;obtain⟨rfl,A,c,c5,hn⟩:=h5 ps rfl;have HB:=h_ hb;have HN:=h_ hn;change w1.cell? ⟨T,4,ν⟩=σ (B_ φ)at c4;clear hb hn h5;go_wp2;refine bodyPost_ret rs_ rfl ?_;exact⟨A,c,rfl,HN.o,HB.o⟩
def NpsM (w:Ω) (B:Nat) (A:OA) (n c:Nat) (ps:List PN):Prop:=
 ∃l:List Nd,Mine w B 96 4 A n c (l.flatMap Qv_)/\η l=n/\(∀x∈l,KidsIn w B (λ_=>False) x)/\l.map Nd.pn=ps
section
variable {w w':Ω} {B n c:Nat} {A:OA} {ps:List PN}
def NpsM.nps (h:NpsM w B A n c ps):Nps w A n ps:=by
 obtain⟨l,hm,hl,hk,rfl⟩:=h;exact⟨l,⟨hl,hm.rd,λx a=>(hk x a).2.rd⟩,λx a=>(hk x a).1.1,rfl⟩
def NpsM.next (h:NpsM w B A n c ps) (hb:Λ w w'):NpsM w' B A n c ps:=by
 obtain⟨l,hm,hl,hk,e⟩:=h;exact⟨l,hm.next hb,hl,λx hx=>(hk x hx).next hb,e⟩
def NpsM.more {B':Nat} (h:NpsM w B A n c ps) (hb:B'<=B):NpsM w B' A n c ps:=by
 obtain⟨l,hm,hl,hk,e⟩:=h;exact⟨l,hm.more hb,hl,λx hx=>⟨(hk x hx).1,(hk x hx).2.more hb⟩,e⟩
def NpsM.none_ (h:Mine w B 96 4 A 0 c []):NpsM w B A 0 c []:=⟨[],h,rfl,(λx hx=>by cases hx),rfl⟩
end
def RdI.snps {R:RC} {s:PS} {row:ON}  (hi:R.imp=φ) (h:RdI R f (σ s) row w):
  ∃A c,w.cell? ⟨R.T,2,ν⟩=σ (B_ φ)/\w.cell? ⟨R.T,4,ν⟩=σ (S_ A (η s.nodes) c)/\(∀i,w.frozen? ⟨R.T,i,ν⟩=φ)/\R.T<w.heap.size/\NpsM w R.w0.heap.size A (η s.nodes) c s.nodes:=by
 obtain⟨a,b,AN,cN,l,d,⟨rfl,_,e⟩,_⟩:=h;obtain⟨c0,c1,c2,c3,c4,cf,cz⟩:=d.cs hi;have hl:η s.nodes=η l:=by rw[e,List.length_map]
 refine⟨AN,cN,c2,by rw[hl];exact c4,cf,cz,l,?_,hl.symm,λx hx=>⟨⟨(d.2.2.1.1 x hx).1.1,λ_ _ h=>h⟩,(d.2.2.1.1 x hx).2⟩,e.symm⟩;rw[hl];exact d.2.1
def SRd (t:BA) (w:Ω) (e:Ending) (w':Ω):Prop:=
 Λ w w'/\match Y5_ t with
  |none=>∃(g:Nat) (p:Int),e=R_ (U_ #[S_ (σ ⟨g,0,ν⟩) 0 0,I_ j_ p,B_ φ])/\NpsM w' w.heap.size (σ ⟨g,0,ν⟩) 0 0 []
  |some ps=>∃A c,e=R_ (U_ #[S_ A (η ps) c,I_ j_ 0,B_ τ])/\NpsM w' w.heap.size A (η ps) c ps
def kt_ {sg:List SgP} {E:Md->Nat->RdSt->PR} {st:RdSt} (N:jN_ sg st=φ):XL_ sg E f h l st=(l,st):=by
 cases h with
 |zero=>rfl
 |succ h=>unfold XL_;rw[N,in_ dc_]
def Ub_ (t:BA) (w:Ω) (ht:t.size<=1048576):Δ π 35 #[T_ t] w (SRd t w):=by
 obtain⟨i0,I⟩:=iq_ QY_;have HS:=h_ (λW=>WM_ t W ht);have aV:=zW_ t;have ae:=h_ (λh=>Qag_ (t:=t) h);have af:=h_ (λh1 h2=>zN_ (t:=t) h1 h2);have ag:=h_ (λh1 (s:PS) h2=>Qah_ (t:=t) h1 (s:=s) h2);have ay:=h_ (λ(s:PS) h=>VK_ (t:=t) (s:=s) h);have aq:=h_<|jY_ t;unfold SRd;unfold vm_ at HS;generalize Y5_ t=RP at ae af ag |-
 generalize KV_ t=Z at HS aV ae af ag ay aq;obtain⟨sg,pl,ok⟩:=Z;dsimp only at HS aV ae af ag ay aq;obtain⟨n,hn⟩:=ex_ (η sg);rw[hn]at HS aV;go_in;go_wp2_with fail;refine(HS.o _).mono ?_;rintro e w1 ⟨A,c,rfl,m1,h1⟩;have aN:=h_<|((Below.refl w.heap.size w).alloc (lr_ _) (C_ #[] 96)).trans (h1.mono sm_);have bv:=aN.o.size;have bL:=h_<|m1.rd;have ak:=h_<|NpsM.none_<|Mine.next (ZA_ w 96 4) h1;clear m1 h1 HS
 cases ok with
 |false=>
  have hr:=ae.o (by trivial);subst hr;clear ae af ag ay aq;go_wp2;refine bodyPost_ret rs_ rfl ?_;refine⟨aN.o,?_⟩
  first
   |exact⟨_,_,rfl,ak.o⟩
   |exact⟨_,rfl,ak.o⟩
   |exact⟨_,⟨_,rfl⟩,ak.o⟩
 |true=>
  obtain⟨R,hR⟩:∃R:RC,R=⟨φ,w1.heap.size,A,n,c,0,S_ ν 0 0,sg,w1,λ_=>False⟩:=⟨_,rfl⟩;have K:=Blk.new w1 82 #[S_ A n c,I_ j_ 0,B_ φ,I_ j_ 0,S_ ν 0 0];have bl:RdI R 0 (σ ⟨0,[]⟩) ν (w1.alloc (C_ #[S_ A n c,I_ j_ 0,B_ φ,I_ j_ 0,S_ ν 0 0] 82)):=by
   subst hR;exact⟨0,φ,ν,0,[],⟨K,Mine.mk_nil _ _ _ _,⟨λx hx=>absurd hx sm_,λg hg=>False.elim hg⟩,by simp,lz_ _,br.alloc (lr_ _) _,⟨hn,aV,bL.o,lr_ _⟩⟩,⟨rfl,rfl,rfl⟩,rfl⟩
  have hi:R.imp=φ:=by rw[hR]
  have a6:R.T=w1.heap.size:=by rw[hR]
  have b2:R.n=n:=by rw[hR]
  have b1:R.sg=sg:=by rw[hR]
  have bZ:R.A=A:=by rw[hR]
  have b0:R.c=c:=by rw[hR]
  have b3:R.w0=w1:=by rw[hR]
  have bn:∀g,¬R.U g:=λg h=>by rw[hR]at h;exact h
  have aO:=h_<|bl.res_new (A:=σ ⟨w1.heap.size+1,0,ν⟩) (br.alloc (lr_ _) (C_ #[] 3)) (λg hg=>by simp at hg;subst hg;simp);have an:=h_<|(Y3_ (w1.alloc (C_ #[S_ A n c,I_ j_ 0,B_ φ,I_ j_ 0,S_ ν 0 0] 82))).more (B':=w1.heap.size) sm_;rw[ws_]at an;clear K hR bl;go_upto_region 7 with fail
  generalize (w1.alloc (C_ #[S_ A n c,I_ j_ 0,B_ φ,I_ j_ 0,S_ ν 0 0] 82)).alloc (C_ #[] 3)=W3 at aO an |-
  rw[<-a6]at aO an |-
  subst b2 b1 bZ b0 b3;have bh:Ψ (R.Lo R.w0.heap.size):=(show R.Lo _ from⟨lr_ _,λg h=>(bn g h).elim⟩);have bj:=h_ (Qiz_ R hi aq.o (R.n+2) oo (14*(R.n+2)));have aG:Xg_ R.sg=(KP_ (XL_ R.sg (Qd_ R.sg (R.n+2) (14*(R.n+2))) (R.n+2) (R.n+2) [] (σ ⟨0,[]⟩)).2 ⟨22,noT,(XL_ R.sg (Qd_ R.sg (R.n+2) (14*(R.n+2))) (R.n+2) (R.n+2) [] (σ ⟨0,[]⟩)).1,φ⟩).2:=by
   unfold Xg_ ji_;rw[hn]
  have HO:Ψ (∀(U:Nat->Prop) (t:PS) (row:ON) (w:Ω),RdI { R with U:=U } 0 (σ t) row w->Δ π 52 #[P_ (σ ⟨R.T,0,ν⟩),B_ τ] w (λe w'=>e=R_ (I_ j_ (Y9_ R.sg (Qd_ R.sg (R.n+2) (14*(R.n+2))) (R.n+2) φ (σ t)).1)/\∃row',RdI { R with U:=U } 0 (Y9_ R.sg (Qd_ R.sg (R.n+2) (14*(R.n+2))) (R.n+2) φ (σ t)).2 row' w'/\Kr R.T row w row' w')):=(show ∀U t row w,_->_ from λU t row w h=>jZ_ { R with U:=U } hi (R.n+2) (14*(R.n+2)) (lr_ _) (show 14*(R.n+2)<=100000 from oo) (show R.n<R.n+2 from oo) (sc_u U bj.o) (σ t) row w h);have ax:Ψ (∀b st,Y9_ R.sg (Qd_ R.sg (R.n+2) (14*(R.n+2))) (R.n+2) b st=Xa_ b (Y9_ R.sg (Qd_ R.sg (R.n+2) (14*(R.n+2))) (R.n+2) φ st)):=(show ∀b st,_ from λb st=>QeI_ b st);have a2:Ψ (∀st,0<=(Y9_ R.sg (Qd_ R.sg (R.n+2) (14*(R.n+2))) (R.n+2) φ st).1):=(show ∀st,_ from λst=>QiJ_ φ st);have a0:Ψ (∀b st,Adv 1 1 st (Y9_ R.sg (Qd_ R.sg (R.n+2) (14*(R.n+2))) (R.n+2) b st).2):=(show ∀b st,_ from λb st=>x2_ (λm d st=>QB_ _ m d st) b st);obtain⟨N,bm⟩:=ex_ (R.n+2);have hN:R.n<N:=oo;rw[bm]at aG HO ax a2 a0;generalize Qd_ R.sg N (14*N)=E at aG HO ax a2 a0;obtain⟨Q,hQ⟩:=ex_ (XL_ R.sg E N N [] (σ ⟨0,[]⟩));rw[hQ]at aG;have HQ:=h_ hQ;have bi:=h_ aG;have aR:=h_ bv;have ce:Ψ (R.A=R.A):=(show R.A=R.A from rfl);have bM:=h_ a6;clear bj aG hQ bm aq bn ae a6;go_loopw [10] (λv wr=>∃(M:Nat) (ks:LI) (st':RdSt) (row':ON) (A':OA) (c':Nat),v=S_ A' (η ks) c'/\Ψ (XL_ R.sg E N M ks st'=Q)/\Ψ (Enough R.n M st')/\Ψ (KidB ks st')/\Ψ (Mine wr R.w0.heap.size 3 1 A' (η ks) c' (Qa_ ks))/\Ψ (RdI (R.res A') 0 st' row' wr)) (λ_ wr=>Jn_ R wr)
  ·exact⟨N,[],σ ⟨0,[]⟩,ν,_,0,rfl,HQ,(show Enough _ _ _ from QP_ hN _),⟨by simp,λs _=>by simp⟩,by rw[<-bM.o];exact an,aO⟩
  clear HQ an aO;obtain⟨M,ks,st',row',A',c',rfl,HQ,be,bg,P,HI⟩:=hrel;have bf:=HI
  cases st' with
  |none=>
   obtain⟨a,b,AN,cN,l,hc,hb,ad⟩:=HI.o;obtain⟨c1,c2,c3,cf,cz⟩:=hc.csu _ hi;obtain rfl:b=τ:=hb;have G:=HQ.o;rw[kt_ (show jN_ R.sg ν=φ from rfl)]at G;clear hc ad c1 c3;have ar:Ψ (Xg_ R.sg=(KP_ ν ⟨22,noT,ks,φ⟩).2):=(show _=_ by rw[bi.o,<-G]);have am:=h_ HI.o.unres;go_wp2_with fail;refine mb_ (Yu_ R.U hi 0 ν _ 22 noT A' (η ks) c' ks R.w0.heap.size _ am.o P.o bh.o) ?_;rintro H ⟨k,h5,k5⟩;rw[<-ar.o]at h5;have f:Ψ (RdI R 0 (Xg_ R.sg) k H):=h5;have F:Ψ (Λ w H):=(show Λ w H from aN.o.trans (by have:=f.o.old;exact this.mono aR.o));have o:=h_<|ak.o.next f.o.old;clear h5 k5 am ar HQ G
   cases y:Xg_ R.sg with
   |none=>
    rw[y]at f;have hr:=af.o (by trivial) y;have p:RdI R 0 ν k H:=f.o;obtain⟨a5,b5,bK,bP,l5,aA,a7,ab⟩:=id p;obtain⟨x0,x1,x2,x3,x4,xf,xz⟩:=aA.cs hi;obtain rfl:b5=τ:=a7;have z:R.Ok:=p.ok;have C:=z.rd.below p.old;have a9:=z.len;subst hr;clear p aA ab x3 x4 z;rcases Nat.lt_or_ge a5 R.n with aD|bp
    ·obtain⟨x,hx⟩:∃x,R.sg[a5]? =σ x:=⟨_,gE oo⟩;obtain⟨b6,off,hA,bo,e0,e1,e2,e3⟩:=Yv_ C aD hx;have J:(a5:Int)<(R.n:Int):=oo;rw[hA]at x0 |-
     clear C hx e0 e1 e3 hA;go_wp2;go_quiet (fail);go_wp2;refine bodyPost_ret rs_ rfl ?_;exact⟨Qb_ F.o (below_drewN br _),by first|exact⟨_,_,rfl,o.o.next (below_drewN br _)⟩|exact⟨_,rfl,o.o.next (below_drewN br _)⟩|exact⟨_,⟨_,rfl⟩,o.o.next (below_drewN br _)⟩⟩
    have J:¬(a5:Int)<(R.n:Int):=oo;have aE:decide ((a5:Int)<(R.n:Int))=φ:=df_ J;clear C;go_wp2;refine bodyPost_ret rs_ rfl ?_;exact⟨F.o,by first|exact⟨_,_,rfl,o.o⟩|exact⟨_,rfl,o.o⟩|exact⟨_,⟨_,rfl⟩,o.o⟩⟩
   |some s=>
    rw[y]at f;obtain⟨b8,aH⟩:=ay.o s y;have hr:=ag.o (by trivial) s y;have p:Ψ (RdI R 0 (σ s) k H):=f;obtain⟨A6,c6,y2,y4,yf,yz,L⟩:=RdI.snps hi p.o;have HT:=h_<|X9_ A6 (η s.nodes) c6 s.nodes H oo L.nps<|h_ aH;clear aH L;rcases bft (Yb_ s.nodes)with q|q
    ·rw[ip_ q]at hr;rw[q]at HT;subst hr;clear q;go_wp2_with fail;refine mb_ HT.o ?_;intro w6 D;obtain⟨A7,c7,z2,z4,zf,zz,aF⟩:=RdI.snps hi (p.o.next D);have S:=h_<|Qb_ F.o D;have av:=h_<|aF.more aR.o;clear y2 y4 yf yz D aF HT;go_wp2;refine bodyPost_ret rs_ rfl ?_;exact⟨S.o,A7,c7,rfl,av.o⟩
    rw[in_ (by rw[q];decide)]at hr;rw[q]at HT;subst hr;clear q;go_wp2_with fail;refine mb_ HT.o ?_;intro w6 D;have S:=h_<|Qb_ F.o D;have V:=h_<|o.o.next D;clear y2 y4 yf yz D HT;go_wp2;refine bodyPost_ret rs_ rfl ?_;exact⟨S.o,by first|exact⟨_,_,rfl,V.o⟩|exact⟨_,rfl,V.o⟩|exact⟨_,⟨_,rfl⟩,V.o⟩⟩
  |some t=>
   obtain⟨a,b,AN,cN,l,hc,hb,ad⟩:=HI.o;obtain⟨c1,c2,c3,cf,cz⟩:=hc.csu _ hi;obtain⟨rfl,cm,_⟩:=hb;have cg:a<=R.n:=hc.2.2.2.2.1;rcases Nat.lt_or_ge a R.n with ck|ch
   ·obtain⟨M,rfl⟩:∃M',M=M'+1:=⟨M-1,by
     have h1:=be.o t rfl;omega⟩
    have aC:(a:Int)<(R.n:Int):=oo;have aE:decide ((a:Int)<(R.n:Int))=τ:=dt_ aC;have G:=HQ.o;unfold XL_ at G;rw[ip_ (show jN_ R.sg (σ t)=τ from dt_ oo)]at G;clear hc ad c3 HQ;have HX:=h_ (λ(row:ON) (W:Ω) h=>VO_ (R.res A') hi 0 t row W h);have aS:XI_ R.sg (σ t) ks=((Qx_ R.sg (σ t) 0).2.2.2&&decide (0<η ks)):=rfl;rw[aS]at G;have bs:(R.res A').sg=R.sg:=rfl;rw[bs]at HX;generalize Qx_ R.sg (σ t) 0=x at HX G aS;obtain⟨xk,xt,xp,xz⟩:=x;dsimp only at HX G aS;clear aS bs;have cd:=bg.o.2 t rfl;have cl:=(HI.o.le rfl).2;have cj:=bg.o.1;have j:=a0.o (xz&&decide (0<η ks)) (σ t);rw[ax.o]at G j;have aU:=a2.o (σ t);have HC:=h_ (λ(row:ON) (W:Ω) h=>HO.o (λx=>R.U x\/A'.map (·.block)=σ x) t row W h);generalize Y9_ R.sg E N φ (σ t)=r at G j aU HC;obtain⟨kc,aY⟩:=r;unfold Xa_ at G j;dsimp only at G j aU HC;have aL:Ψ (KidB (ks++[kc]) (Zs_ kc (xz&&decide (0<η ks)) aY)):=(show KidB _ _ from⟨by rw[lA];simp;omega,λt2 e=>by
     obtain⟨cn,e2,_,h3⟩:=j t2 e;obtain rfl:=oi_ e2;rw[lA];simp;omega⟩)
    have aM:Ψ (Enough R.n M (Zs_ kc (xz&&decide (0<η ks)) aY)):=be.o.adv (i:=0) j;have aT:(ks++[kc]).length=η ks+1:=sm_;have aQ:=h_ G;have ac:=h_ j;clear G j
    cases xz with
    |false=>
     rw[φa]at aL aM aQ ac;go_wp2_with fail;refine mb_ (HX.o _ _ HI.o) ?_;intro w3 g3;have X:=h_<|HI.o.next g3;have ao:=h_<|P.o.next g3;clear c1 c2 cf cz g3 HX P;go_wp2_with fail
     refine mb_ (HC.o _ _ X.o) ?_;rintro w4 ⟨aI,h4,k4⟩;have ap:=h_<|X.o.keepI k4 ao.o;have Y:=h_ h4;clear h4 k4 X ao;have T:=h_<|Ze_ (R.res A') hi 0 aY aI kc aU φ w4 Y.o;unfold QA_ at T;go_wp2_with fail
     refine mb_ T.o ?_;rintro H ⟨k,h5,k5⟩;have P:=h_<|Y.o.keepI k5 ap.o;have f:=h_ h5;clear h5 k5 Y ap T;have b9:R.w0.heap.size<=H.heap.size:=f.o.old.size;have a1:Ψ (R.w0.heap.size<=R.w0.heap.size):=(show R.w0.heap.size<=R.w0.heap.size from lr_ _);go_wp2_with (at_builtin;(refine Qi_ _ rfl (.tmp 55) (.tmp 57) _ rfl R.w0.heap.size 3 i0 (I_ j_ 0) 1 8 underlying83 I.o.1 I.o.2.1 I.o.2.2.1 I.o.2.2.2 rfl dc_ (S_ A' (η ks) c') (η ks) (Qa_ ks) rfl (Mine.alloc P.o _) ⟨H.heap.size,0,ν⟩ 1 1 [I_ j_ kc] rfl rfl (K8_ _ kc _) (K9_ _) mx_ oo so_ ?_);intro v' w6 B aB O;obtain⟨A6,c6,rfl,D,m6⟩:=RdI.appended f.o P.o a1.o bra B aB O)
     rw[<-Ke_]at m6;have al:=h_ D;replace P:=h_ m6;clear B aB O D m6;go_wp2;go_roundw
     ·exact⟨M,ks++[kc],_,k,A6,c6,by rw[aT],aQ,aM,aL,by rw[aT];exact P,al⟩
     exact ZG_ hi bf.o al.o<|ac.o.weak (i':=1) (j':=0) oo oo
    |true=>
     rw[τb]at aL aM aQ ac;go_wp2_with fail;refine mb_ (HX.o _ _ HI.o) ?_;intro w3 g3;have X:=h_<|HI.o.next g3;have ao:=h_<|P.o.next g3;clear c1 c2 cf cz g3 HX P;go_wp2_with fail
     refine mb_ (HC.o _ _ X.o) ?_;rintro w4 ⟨aI,h4,k4⟩;have ap:=h_<|X.o.keepI k4 ao.o;have Y:=h_ h4;clear h4 k4 X ao;have T:=h_<|Ze_ (R.res A') hi 0 aY aI kc aU (decide (0<η ks)) w4 Y.o;unfold QA_ at T;go_wp2_with fail
     refine mb_ T.o ?_;rintro H ⟨k,h5,k5⟩;have P:=h_<|Y.o.keepI k5 ap.o;have f:=h_ h5;clear h5 k5 Y ap T;have b9:R.w0.heap.size<=H.heap.size:=f.o.old.size;have a1:Ψ (R.w0.heap.size<=R.w0.heap.size):=(show R.w0.heap.size<=R.w0.heap.size from lr_ _);go_wp2_with (at_builtin;(refine Qi_ _ rfl (.tmp 55) (.tmp 57) _ rfl R.w0.heap.size 3 i0 (I_ j_ 0) 1 8 underlying83 I.o.1 I.o.2.1 I.o.2.2.1 I.o.2.2.2 rfl dc_ (S_ A' (η ks) c') (η ks) (Qa_ ks) rfl (Mine.alloc P.o _) ⟨H.heap.size,0,ν⟩ 1 1 [I_ j_ kc] rfl rfl (K8_ _ kc _) (K9_ _) mx_ oo so_ ?_);intro v' w6 B aB O;obtain⟨A6,c6,rfl,D,m6⟩:=RdI.appended f.o P.o a1.o bra B aB O)
     rw[<-Ke_]at m6;have al:=h_ D;replace P:=h_ m6;clear B aB O D m6;go_wp2;go_roundw
     ·exact⟨M,ks++[kc],_,k,A6,c6,by rw[aT],aQ,aM,aL,by rw[aT];exact P,al⟩
     exact ZG_ hi bf.o al.o<|ac.o.weak (i':=1) (j':=0) oo oo
   have aC:¬(a:Int)<(R.n:Int):=oo;have aE:decide ((a:Int)<(R.n:Int))=φ:=df_ aC;have G:=HQ.o;rw[kt_ (show jN_ R.sg (σ t)=φ from df_ oo)]at G;clear hc ad c3;have ar:Ψ (Xg_ R.sg=(KP_ (σ t) ⟨22,noT,ks,φ⟩).2):=(show _=_ by rw[bi.o,<-G]);have am:=h_ HI.o.unres;go_wp2_with fail;refine mb_ (Yu_ R.U hi 0 (σ t) _ 22 noT A' (η ks) c' ks R.w0.heap.size _ am.o P.o bh.o) ?_;rintro H ⟨k,h5,k5⟩;rw[<-ar.o]at h5;have f:Ψ (RdI R 0 (Xg_ R.sg) k H):=h5;have F:Ψ (Λ w H):=(show Λ w H from aN.o.trans (by have:=f.o.old;exact this.mono aR.o));have o:=h_<|ak.o.next f.o.old;clear h5 k5 am ar HQ G
   cases y:Xg_ R.sg with
   |none=>
    rw[y]at f;have hr:=af.o (by trivial) y;have p:RdI R 0 ν k H:=f.o;obtain⟨a5,b5,bK,bP,l5,aA,a7,ab⟩:=id p;obtain⟨x0,x1,x2,x3,x4,xf,xz⟩:=aA.cs hi;obtain rfl:b5=τ:=a7;have z:R.Ok:=p.ok;have C:=z.rd.below p.old;have a9:=z.len;subst hr;clear p aA ab x3 x4 z;rcases Nat.lt_or_ge a5 R.n with aD|bp
    ·obtain⟨x,hx⟩:∃x,R.sg[a5]? =σ x:=⟨_,gE oo⟩;obtain⟨b6,off,hA,bo,e0,e1,e2,e3⟩:=Yv_ C aD hx;have J:(a5:Int)<(R.n:Int):=oo;rw[hA]at x0 |-
     clear C hx e0 e1 e3 hA;go_wp2;go_quiet (fail);go_wp2;refine bodyPost_ret rs_ rfl ?_;exact⟨Qb_ F.o (below_drewN br _),by first|exact⟨_,_,rfl,o.o.next (below_drewN br _)⟩|exact⟨_,rfl,o.o.next (below_drewN br _)⟩|exact⟨_,⟨_,rfl⟩,o.o.next (below_drewN br _)⟩⟩
    have J:¬(a5:Int)<(R.n:Int):=oo;have aE:decide ((a5:Int)<(R.n:Int))=φ:=df_ J;clear C;go_wp2;refine bodyPost_ret rs_ rfl ?_;exact⟨F.o,by first|exact⟨_,_,rfl,o.o⟩|exact⟨_,rfl,o.o⟩|exact⟨_,⟨_,rfl⟩,o.o⟩⟩
   |some s=>
    rw[y]at f;obtain⟨b8,aH⟩:=ay.o s y;have hr:=ag.o (by trivial) s y;have p:Ψ (RdI R 0 (σ s) k H):=f;obtain⟨A6,c6,y2,y4,yf,yz,L⟩:=RdI.snps hi p.o;have HT:=h_<|X9_ A6 (η s.nodes) c6 s.nodes H oo L.nps<|h_ aH;clear aH L;rcases bft (Yb_ s.nodes)with q|q
    ·rw[ip_ q]at hr;rw[q]at HT;subst hr;clear q;go_wp2_with fail;refine mb_ HT.o ?_;intro w6 D;obtain⟨A7,c7,z2,z4,zf,zz,aF⟩:=RdI.snps hi (p.o.next D);have S:=h_<|Qb_ F.o D;have av:=h_<|aF.more aR.o;clear y2 y4 yf yz D aF HT;go_wp2;refine bodyPost_ret rs_ rfl ?_;exact⟨S.o,A7,c7,rfl,av.o⟩
    rw[in_ (by rw[q];decide)]at hr;rw[q]at HT;subst hr;clear q;go_wp2_with fail;refine mb_ HT.o ?_;intro w6 D;have S:=h_<|Qb_ F.o D;have V:=h_<|o.o.next D;clear y2 y4 yf yz D HT;go_wp2;refine bodyPost_ret rs_ rfl ?_;exact⟨S.o,by first|exact⟨_,_,rfl,V.o⟩|exact⟨_,rfl,V.o⟩|exact⟨_,⟨_,rfl⟩,V.o⟩⟩
def Qhb_ (D:WD) (hi:D.imp=τ) (f j:Nat) (t:BA) (z:Bool) (a:Int) (s:Ws) (W:Ω) (l:LI) (c:Nat) (h:WIn 104 D f j ⟨20,t,l++[(c:Int)],z⟩ a s W):
  Δ π 104 #[P_ (σ ⟨D.T,0,ν⟩),I_ j_ (j:Int),I_ j_ a] W (WrR D (ZN_ D.Q (f+1) j a s) W):=by
 obtain⟨b,off,A',c',eD,o,X,Y,y2,Z,L,p⟩:=h.at_;have m:(⟨20,t,l++[(c:Int)],z⟩:PN).kids.length=η l+1:=by show(l++[(c:Int)]).length=_;simp
 rw[m]at y2 L p;obtain⟨A,O,P,Q,R,S⟩:=h.hC.cells;rw[eD]at A;have ac:=h.lt;have J:=h.K.K.F.few;obtain⟨aa,ab⟩:=h.a26;have HK:=h_ h.kids;have y:=h_ L;have r:η l<=11:=by have h9:=h.few;rw[m]at h9;omega
 clear m;replace X:W.cell? ⟨b,off+j*4,ν⟩=σ (I_ j_ 20):=X;replace Y:W.cell? ⟨b,off+j*4+1,ν⟩=σ (T_ t):=Y;replace Z:W.cell? ⟨b,off+j*4+3,ν⟩=σ (B_ z):=Z;have q:evsW D.Q.ps ⟨20,t,l++[(c:Int)],z⟩=[.line (t++⟨#[40]⟩++Q5_ (l.map (QE_ D.Q.ps))++⟨#[41,32,123]⟩),.all (QC_ D.Q.ps (c:Int)),.line brT]:=by
  have e1:(l++[(c:Int)]).length-1=η l:=by simp
  have e2:(l++[(c:Int)]).take (η l)=l:=by simp
  have e3:k_ (l++[(c:Int)]) (η l)=(c:Int):=by simp[k_]
  show[Wv.line (t++⟨#[40]⟩++Q5_ (((l++[(c:Int)]).take ((l++[(c:Int)]).length-1)).map (QE_ D.Q.ps))++⟨#[41,32,123]⟩),.all (QC_ D.Q.ps (k_ (l++[(c:Int)]) ((l++[(c:Int)]).length-1))),.line brT]=_;rw[e1,e2,e3]
 have H:Ψ (Wt 104 D f (ZN_ D.Q (f+1) j a s) (W.alloc (C_ #[I_ j_ 20,T_ t,S_ A' (η l+1) c',B_ z] 96)) a s [.line (t++⟨#[40]⟩++Q5_ (l.map (QE_ D.Q.ps))++⟨#[41,32,123]⟩),.all (QC_ D.Q.ps (c:Int)),.line brT] (W.alloc (C_ #[I_ j_ 20,T_ t,S_ A' (η l+1) c',B_ z] 96))):=h_<|q ▸ h.wt #[I_ j_ 20,T_ t,S_ A' (η l+1) c',B_ z];have M:t.size<=1048576:=(h.K.K.P _ (lm_ h.hx)).1;have G:c<f:=by have:=(HK.o (c:Int) sm_).1;omega
 have C:=h_<|Kb.below (show Λ W (W.alloc (C_ #[I_ j_ 20,T_ t,S_ A' (η l+1) c',B_ z] 96))from grow_);have E:=h_ (λv (N:v∈l)=>(HK.o v (List.mem_append_left _ N)).1);obtain⟨F,g,rfl⟩:=ZC_ y.o oo;have n:=h_<|Blk.new W 96 #[I_ j_ 20,T_ t,S_ (σ ⟨F,g,ν⟩) (η l+1) c',B_ z];obtain⟨fin,k⟩:=ex_ (ZN_ D.Q (f+1) j a s);rw[k]at H |-
 clear eD L k q;have B:=h_ (λ(W1:Ω) (hb:Below D.w0.heap.size D.w0 W1)=>Qa0_ D.A (D.Q.m+1) D.c D.Q.ps (σ ⟨F,g,ν⟩) c' l (c:Int) 20 t z W1 (h.K.P.below hb) h.K.K.P r M (y.o.below hb) p (h_ (λv N=>by have:=E.o v N;have:=h.K.hf;omega)) oo);clear h;go_in;go_upto_region 1 with fail
 generalize W.alloc (C_ #[I_ j_ 20,T_ t,S_ (σ ⟨F,g,ν⟩) (η l+1) c',B_ z] 96)=Wb at *;clear X Y y2 Z o A O P Q R S;have K:=H.o.k.2 _ _ n.o;have x0:=K.q0;have x1:=K.q1;have T:=K.q2;have U:=K.q3;have V:=K.lt;clear K;obtain⟨A,O,P,Q,R,S⟩:=H.o.M.cells;go_upto_region 28 with fail
 go_region_with (first
   |(
    go_at_call 126;refine mb_ (B.o _ (by first|exact H.o.M.old|exact Qb_ H.o.M.old br.drew)) ?_;intro w8 h8;have H8:=h_ (H.o.next (show Λ Wb w8 by first|exact h8|exact br.drew.trans h8)))
   |(
    go_at_call 123;refine Wt.iline hi H8 ?_;intro s1 W1 x))
 all_goals
  clear H x0 x1 T U V A O P Q R S;have K:=x.o.k.2 _ _ n.o;have x0:=K.q0;have x1:=K.q1;have T:=K.q2;have U:=K.q3;have V:=K.lt;clear K;have d:=x.o.M.old;have cv:=QO_ y.o d (i:=η l) oo (show(l++[(c:Int)])[η l]? =σ (c:Int)by rw[List.getElem?_append_right (lr_ _)];simp);have I:=ZU_ y.o d oo;clear d;go_wp2_with fail;refine Wt.iblock hi x G ?_;intro s2 W2 H2;clear x x0 x1 T U V cv I;go_wp2_with fail;refine Wt.iline hi H2 ?_;intro s3 W3 H3;clear H2;go_wp2;go_end0;have h2:=H3.o.end_;exact⟨rfl,h2.1,C.o.trans h2.2⟩
def QdG_ {ps:List PN} (hd:l[f]? =σ a) (t:BA):t++⟨#[40]⟩++Q5_ ((l.take (f+1)).map (QE_ ps))=(if f=0 then t++⟨#[40]⟩++Q5_ ((l.take f).map (QE_ ps))else t++⟨#[40]⟩++Q5_ ((l.take f).map (QE_ ps))++⟨#[44,32]⟩)++QE_ ps a:=by
 rw[Gy_ hd];by_cases h0:f=0
 ·subst h0;rw[ip_ rfl];apply VY_;rw[XX_,XX_,XX_,XX_,XX_];show _++(QE_ ps a).data.toList=_++([]:List UInt8)++_;rw[List.append_nil]
 rw[in_ h0,kO_ (by intro e;have h7:=congrArg List.length e;rw[List.length_map,List.length_take,List.length_nil]at h7;have:=(gs_.1 hd).1;omega)];apply VY_;simp only[XX_,List.append_assoc]
def zd_ {D:WD} (hi:D.imp=φ) {f:Nat} {fin s:Ws} {a:Int} {w W:Ω} {t:BA} {A':OA} {c':Nat} {z:Bool} (l:LI) (n:Nat) (hr:Rd D.w0 1 A' (η l+1) (Qa_ (l++[(n:Int)]))) (hl:η l<=11) (S:n<f) (V:Ψ (∀v∈l,0<=v/\v<(f:Int))) (ht:t.size<=1048576) (ac:η l+1<=c')
  (H:Ψ (Wt 78 D f fin w a s [.line (t++⟨#[40]⟩++Q5_ (l.map (QE_ D.Q.ps))++⟨#[41,32,123]⟩),.all (QC_ D.Q.ps (n:Int)),.line brT] W)):
  Δ π 100 #[P_ (σ ⟨D.T,0,ν⟩),A_ #[I_ j_ 20,T_ t,S_ A' (η l+1) c',B_ z],I_ j_ a] W (λe w'=>e=R_ (U_ #[])/\WrM D fin w'/\Kb w w'):=by
 have L:=h_ hr;have ad:=H.o.K.hf;have T:=H.o.K.K.F.few;have J:=h_ H.o.K.P;have N:=h_ H.o.K.K.F.tree.len;have B:=h_ (show ∀k:Int,(QE_ D.Q.ps k).size<=1048576 from λk=>Yt_ H.o.K.K.P _);have M:=h_ (λk=>Jj_ (l:=l.map (QE_ D.Q.ps)) (λt ht=>by obtain⟨u,_,rfl⟩:=List.mem_map.1 ht;exact B.o u) so_ k);obtain⟨P,j,rfl⟩:=ZC_ L.o oo;have m:=h_<|H.o.next (show Λ W (W.alloc (C_ #[I_ j_ 20,T_ t,S_ (σ ⟨P,j,ν⟩) (η l+1) c',B_ z] 96))from grow_);have y:=h_<|Blk.new W 96 #[I_ j_ 20,T_ t,S_ (σ ⟨P,j,ν⟩) (η l+1) c',B_ z];have o:=h_ (λ(Z:Ω) (R:Below D.w0.heap.size D.w0 Z) (i:Nat) (v:Int) (hd:(l++[(n:Int)])[i]? =σ v)=>QO_ L.o R (by have:=(gs_.1 hd).1;simpa using this) hd);have A:=h_ (λ(Z:Ω) (R:Below D.w0.heap.size D.w0 Z)=>ZU_ L.o R oo);have q0:¬9223372036854775807<t.size+1:=oo;have ab:(η l:Int)+1<=(c':Int):=oo;clear H hr;go_in;go_wp2;go_loopw [6,8] (λs6 s8 wr=>∃(i:Nat) (c:BA),i<=η l/\s8=I_ j_ i/\s6=T_ c/\Ψ (c=t++⟨#[40]⟩++Q5_ ((l.take i).map (QE_ D.Q.ps)))/\Ψ (Wt 78 D f fin w a s [.line (t++⟨#[40]⟩++Q5_ (l.map (QE_ D.Q.ps))++⟨#[41,32,123]⟩),.all (QC_ D.Q.ps (n:Int)),.line brT] wr)/\Ψ (Blk wr W.heap.size 96 #[I_ j_ 20,T_ t,S_ (σ ⟨P,j,ν⟩) (η l+1) c',B_ z])) (λ_ x _=>η l-(intOf x).toNat)
 ·exact⟨0,_,lz_ _,rfl,rfl,h_ (VY_ (by rw[XX_,XX_,XX_];exact(List.append_nil _).symm)),m,y⟩
 clear m y;obtain⟨i,c,ag,rfl,rfl,HO,H,F⟩:=hrel;have ah:c.size<=21048577:=by
  have h1:=M.o i;rw[<-List.map_take]at h1;rw[HO.o,bs_,bs_];show t.size+1+_<=_;omega
 have b:=H.o.M.old;have cl:=A.o wr b;obtain⟨u0,u1,u2,u4,uf,uz⟩:=H.o.M.cells;have K:=F.o;have x1:=K.q1;have x2:=K.q2;have xg:=K.lt;clear K;by_cases h1:i<η l
 ·obtain⟨v,hd⟩:∃d,l[i]? =σ d:=⟨_,List.getElem?_eq_getElem h1⟩;obtain⟨U,ai⟩:=V.o v (lm_ hd);obtain⟨p,rfl⟩:=eo_ U;have E:p<D.Q.m+1:=oo;have Q:=o.o wr b i (p:Int) (by rw[List.getElem?_append_left h1];exact hd);obtain⟨x,X⟩:∃x,D.Q.ps[p]? =σ x:=⟨_,gE (by rw[N.o];exact E)⟩;obtain⟨bn,Y,A9,c9,eD,aa,_,yn,_⟩:=GA_ J.o E X b;rw[eD]at u0;have C:=h_ (show QE_ D.Q.ps (p:Int)=x.text by unfold QE_;rw[it_,X7_ X]);have aj:x.text.size<=1048576:=(by rw[<-C.o];exact B.o _);have g:=h_ (QdG_ (ps:=D.Q.ps) hd t);rw[C.o,<-HO.o]at g;have af:(i:Int)<(η l:Int)+1:=oo;clear hd X eD b;by_cases ae:0<i
  ·have r:=g.o;rw[in_ oo]at r;have q:=h_ r;have q1:¬9223372036854775807<c.size+2:=oo;have q2:¬9223372036854775807<c.size+2+x.text.size:=oo;clear r g;go_upto_region 8 with fail
   go_quiet (fail);go_wp2;have h:Λ wr (wr.drewN nq):=below_drewN br _;exact⟨⟨i+1,_,oo,by go_num,rfl,h_ q.o.symm,h_ (H.o.next h),h_ (F.o.next h)⟩,ms_⟩
  obtain rfl:i=0:=oo;have r:=g.o;rw[ip_ rfl]at r;have q:=h_ r;have q2:¬9223372036854775807<c.size+x.text.size:=oo;clear r g;rw[Nat.add_zero]at Q;go_upto_region 8 with fail
  go_quiet (fail);go_wp2;have h:Λ wr (wr.drewN nq):=below_drewN br _;exact⟨⟨0+1,_,oo,by go_num,rfl,h_ q.o.symm,h_ (H.o.next h),h_ (F.o.next h)⟩,ms_⟩
 obtain rfl:i=η l:=oo;rw[List.take_of_length_le (lr_ _)]at HO;have q3:¬9223372036854775807<c.size+3:=oo;rw[<-HO.o]at H;have G:=h_ F.o;have Q:=o.o wr b (η l) (n:Int) (by rw[List.getElem?_append_right (lr_ _)];simp);have I:=h_ (λW1 (m:Wt 78 D f fin wr a s [] W1)=>m);have O:=h_ H.o.k;have H0:Ψ (Wt 78 D f fin wr a s [.line (c++⟨#[41,32,123]⟩),.all (QC_ D.Q.ps (n:Int)),.line brT] wr):=h_ ⟨H.o.M,H.o.L,H.o.Z,H.o.O,H.o.ha,H.o.K,Kb.refl _⟩;clear H I b;go_wp2_with fail;refine Wt.sline hi H0 ?_;intro s1 W1 m;have K:=m.o.k.2 _ _ G.o;have x2:=K.q2;have xg:=K.lt;have cl:=A.o W1 m.o.M.old;have Q:=o.o W1 m.o.M.old (η l) (n:Int) (by rw[List.getElem?_append_right (lr_ _)];simp);clear K H0;go_wp2_with fail;refine Wt.sblock hi m S ?_;intro s2 W2 H2;clear m;go_wp2_with fail;refine Wt.sline hi H2 ?_;intro s3 W3 H3;clear H2;go_wp2;go_end0;have h2:=H3.o.end_;exact⟨rfl,h2.1,O.o.trans h2.2⟩
def QhJ_ (D:WD) (hi:D.imp=φ) (f j:Nat) (t:BA) (z:Bool) (a:Int) (s:Ws) (W:Ω) (l:LI) (c:Nat) (h:WIn 78 D f j ⟨20,t,l++[(c:Int)],z⟩ a s W):
  Δ π 78 #[P_ (σ ⟨D.T,0,ν⟩),I_ j_ (j:Int),I_ j_ a] W (WrR D (ZN_ D.Q (f+1) j a s) W):=by
 obtain⟨b,off,A',c',eD,k,F,G,y2,I,C,m⟩:=h.at_;have i:(⟨20,t,l++[(c:Int)],z⟩:PN).kids.length=η l+1:=by show(l++[(c:Int)]).length=_;simp
 rw[i]at y2 C m;obtain⟨u0,u1,u2,u4,uf,uz⟩:=h.hC.cells;rw[eD]at u0;have M:=h.lt;have B:=h.K.K.F.few;obtain⟨J,L⟩:=h.a26;have HK:=h_ h.kids;have HR:=h_ C;have o:η l<=11:=by have h9:=h.few;rw[i]at h9;omega
 clear i;replace F:W.cell? ⟨b,off+j*4,ν⟩=σ (I_ j_ 20):=F;replace G:W.cell? ⟨b,off+j*4+1,ν⟩=σ (T_ t):=G;replace I:W.cell? ⟨b,off+j*4+3,ν⟩=σ (B_ z):=I;have n:evsW D.Q.ps ⟨20,t,l++[(c:Int)],z⟩=[.line (t++⟨#[40]⟩++Q5_ (l.map (QE_ D.Q.ps))++⟨#[41,32,123]⟩),.all (QC_ D.Q.ps (c:Int)),.line brT]:=by
  have e1:(l++[(c:Int)]).length-1=η l:=by simp
  have e2:(l++[(c:Int)]).take (η l)=l:=by simp
  have e3:k_ (l++[(c:Int)]) (η l)=(c:Int):=by simp[k_]
  show[Wv.line (t++⟨#[40]⟩++Q5_ (((l++[(c:Int)]).take ((l++[(c:Int)]).length-1)).map (QE_ D.Q.ps))++⟨#[41,32,123]⟩),.all (QC_ D.Q.ps (k_ (l++[(c:Int)]) ((l++[(c:Int)]).length-1))),.line brT]=_;rw[e1,e2,e3]
 have H:Ψ (Wt 78 D f (ZN_ D.Q (f+1) j a s) (W.alloc (C_ #[I_ j_ 20,T_ t,S_ A' (η l+1) c',B_ z] 96)) a s [.line (t++⟨#[40]⟩++Q5_ (l.map (QE_ D.Q.ps))++⟨#[41,32,123]⟩),.all (QC_ D.Q.ps (c:Int)),.line brT] (W.alloc (C_ #[I_ j_ 20,T_ t,S_ A' (η l+1) c',B_ z] 96))):=h_<|n ▸ h.wt #[I_ j_ 20,T_ t,S_ A' (η l+1) c',B_ z];have E:t.size<=1048576:=(h.K.K.P _ (lm_ h.hx)).1;have A:c<f:=by have:=(HK.o (c:Int) sm_).1;omega
 have q:=h_<|Kb.below (show Λ W (W.alloc (C_ #[I_ j_ 20,T_ t,S_ A' (η l+1) c',B_ z] 96))from grow_);have x:=h_ (λv (hv:v∈l)=>(HK.o v (List.mem_append_left _ hv)).1);obtain⟨y,d,rfl⟩:=ZC_ HR.o oo;have p:=h_<|Blk.new W 96 #[I_ j_ 20,T_ t,S_ (σ ⟨y,d,ν⟩) (η l+1) c',B_ z];obtain⟨fin,g⟩:=ex_ (ZN_ D.Q (f+1) j a s);rw[g]at H |-
 clear eD C g n;have r:=h_ (λ(W1:Ω) H=>zd_ (D:=D) hi (fin:=fin) (s:=s) (a:=a) (z:=z) (w:=W.alloc (C_ #[I_ j_ 20,T_ t,S_ (σ ⟨y,d,ν⟩) (η l+1) c',B_ z] 96)) (W:=W1) l c HR.o o A (h_ x.o) E m H);clear h;go_in;go_upto_region 1 with fail
 generalize W.alloc (C_ #[I_ j_ 20,T_ t,S_ (σ ⟨y,d,ν⟩) (η l+1) c',B_ z] 96)=Wb at *;clear F G y2 I k u0 u1 u2 u4 uf uz;have K:=H.o.k.2 _ _ p.o;have x0:=K.q0;have x1:=K.q1;have x2:=K.q2;have x3:=K.q3;have xg:=K.lt;clear K;go_wp2_with fail;refine mb_ (r.o Wb H) ?_;intro w1 h1;have H1:=h_ h1;clear h1 H x0 x1 x2 x3 xg;go_wp2;go_end0;exact⟨rfl,H1.o.1,q.o.trans H1.o.2⟩
inductive EvW (ps:List PN) (f:Nat) (t:BA):Int->LI->Nat->List Wv->Prop
 |note:EvW ps f t 19 [] 0 [.line t]
 |var0:EvW ps f t 12 [] 0 [.line (⟨#[118,97,114,32]⟩++t++⟨#[59]⟩)]
 |ret0:EvW ps f t 15 [] 0 [.line ⟨#[114,101,116,117,114,110,59]⟩]
 |var1 (q:Nat) (hq:q<f) (hv:QI_ (Qc_ ps (q:Int))):EvW ps f t 12 [(q:Int)] 1 [.val (⟨#[118,97,114,32]⟩++t++⟨#[32,61]⟩) (q:Int) ⟨#[59]⟩]
 |set_ (q:Nat) (hq:q<f) (hv:QI_ (Qc_ ps (q:Int))):EvW ps f t 13 [(q:Int)] 1 [.val (t++⟨#[32,61]⟩) (q:Int) ⟨#[59]⟩]
 |do_ (q:Nat) (hq:q<f) (hv:QI_ (Qc_ ps (q:Int))):EvW ps f t 14 [(q:Int)] 1 [.val ⟨#[]⟩ (q:Int) ⟨#[59]⟩]
 |ret1 (q:Nat) (hq:q<f) (hv:QI_ (Qc_ ps (q:Int))):EvW ps f t 15 [(q:Int)] 1 [.val ⟨#[114,101,116,117,114,110,32]⟩ (q:Int) ⟨#[59]⟩]
 |if2 (q:Nat) (hq:q<f) (hv:QI_ (Qc_ ps (q:Int))) (b:Nat) (hb:b<f):EvW ps f t 16 [(q:Int),(b:Int)] 2 [.val ⟨#[105,102,32,40]⟩ (q:Int) ⟨#[41,32,123]⟩,.all (QC_ ps (b:Int)),.line brT]
 |if3 (q:Nat) (hq:q<f) (hv:QI_ (Qc_ ps (q:Int))) (b:Nat) (hb:b<f) (c:Nat) (hc:c<f):EvW ps f t 16 [(q:Int),(b:Int),(c:Int)] 3 [.val ⟨#[105,102,32,40]⟩ (q:Int) ⟨#[41,32,123]⟩,.all (QC_ ps (b:Int)),.line ⟨#[125,32,101,108,115,101,32,123]⟩,.all (QC_ ps (c:Int)),.line brT]
 |whl (q:Nat) (hq:q<f) (hv:QI_ (Qc_ ps (q:Int))) (b:Nat) (hb:b<f):EvW ps f t 17 [(q:Int),(b:Int)] 2 [.val ⟨#[119,104,105,108,101,32,40]⟩ (q:Int) ⟨#[41,32,123]⟩,.all (QC_ ps (b:Int)),.line brT]
 |cls (l:LI) (hl:η l<=12):EvW ps f t 21 l (η l) [.line (⟨#[99,108,97,115,115,32]⟩++t++⟨#[32,123]⟩),.all l,.line brT]
def WIn.ev {F:FuncId} {D:WD} {x:PN}  {s:Ws}  (j:WIn F D f h x a s w) (k:x.kind≠20):∃n es,η x.kids=n/\evsW D.Q.ps x=es/\EvW D.Q.ps f x.text x.kind x.kids n es:=by
 have o:=λ(v:Int) d=>(j.kids v d).1
 have i:=j.few;have hV:=j.form;obtain⟨kd,t,l,z⟩:=x;dsimp only at o i hV k |-
 refine⟨_,_,rfl,rfl,?_⟩;have N:∀v∈l,∃q:Nat,v=(q:Int)/\q<f:=λv d=>by
  obtain⟨q,rfl⟩:=eo_ (o v d).1;exact⟨q,rfl,by have:=(o _ d).2;omega⟩
 cases hV with
 |note=>exact .note
 |var0=>exact .var0
 |var1 v d=>obtain⟨q,rfl,e⟩:=N v sm_;exact .var1 q e d
 |set_ v d=>obtain⟨q,rfl,e⟩:=N v sm_;exact .set_ q e d
 |do_ v d=>obtain⟨q,rfl,e⟩:=N v sm_;exact .do_ q e d
 |ret0=>exact .ret0
 |ret1 v d=>obtain⟨q,rfl,e⟩:=N v sm_;exact .ret1 q e d
 |if2 v b d hb=>obtain⟨q,rfl,e⟩:=N v sm_;obtain⟨b,rfl,g⟩:=N b sm_;exact .if2 q e d b g
 |if3 v b c d hb hc=>obtain⟨q,rfl,e⟩:=N v sm_;obtain⟨b,rfl,g⟩:=N b sm_;obtain⟨c,rfl,m⟩:=N c sm_;exact .if3 q e d b g c m
 |while_ v b d hb=>obtain⟨q,rfl,e⟩:=N v sm_;obtain⟨b,rfl,g⟩:=N b sm_;exact .whl q e d b g
 |meth l b hn hb=>exact absurd rfl k
 |cls l hl=>exact .cls l i
def Qio_ (D:WD) (hi:D.imp=τ) (f j:Nat) (kd:Int) (t:BA) (l:LI) (z:Bool) (a:Int) (s:Ws) (W:Ω) (h:WIn 104 D f j ⟨kd,t,l,z⟩ a s W) (p:kd≠20):
  Δ π 104 #[P_ (σ ⟨D.T,0,ν⟩),I_ j_ (j:Int),I_ j_ a] W (WrR D (ZN_ D.Q (f+1) j a s) W):=by
 obtain⟨b,off,A',c',eD,q,y0,y1,E,y3,x,I⟩:=h.at_;obtain⟨u0,u1,u2,u4,uf,uz⟩:=h.hC.cells;rw[eD]at u0;have J:=h.lt;have C:=h.K.K.F.few;obtain⟨F,G⟩:=h.a26;obtain⟨n,es,hn,r,hE⟩:=h.ev p;rw[hn]at E x;dsimp only at y0 y1 E y3 x hE;have c:=h_ x;have v:=h_<|h.wt #[I_ j_ kd,T_ t,S_ A' n c',B_ z];rw[r]at v;have L:t.size<=1048576:=(h.K.K.P _ (lm_ h.hx)).1;have o:=h_<|Kb.below (show Λ W (W.alloc (C_ #[I_ j_ kd,T_ t,S_ A' n c',B_ z] 96))from grow_);have m:=h_<|Blk.new W 96 #[I_ j_ kd,T_ t,S_ A' n c',B_ z];obtain⟨fin,d⟩:=ex_ (ZN_ D.Q (f+1) j a s);rw[d]at v |-
 have q1:¬9223372036854775807<6+t.size:=oo;have q2:¬9223372036854775807<6+t.size+2:=oo;have q3:¬9223372036854775807<4+t.size:=oo;have q4:¬9223372036854775807<4+t.size+1:=oo;have q5:¬9223372036854775807<4+t.size+2:=oo;have q6:¬9223372036854775807<t.size+2:=oo;clear h eD x d hn r p
 cases hE
 all_goals
  first|obtain⟨b5,e,rfl⟩:=ZC_ (n:=1) c.o dc_|obtain⟨b5,e,rfl⟩:=ZC_ (n:=2) c.o dc_|obtain⟨b5,e,rfl⟩:=ZC_ (n:=3) c.o dc_|skip
  go_in;go_upto_region 1 with fail
  generalize W.alloc (C_ _ 96)=Wb at *;have H:=v;clear v y0 y1 E y3 q u0 u1 u2 u4 uf uz;have K:=H.o.k.2 _ _ m.o;have x0:=K.q0;have x1:=K.q1;have x2:=K.q2;have x3:=K.q3;have xg:=K.lt;clear K
  try (have g:=QO_ c.o H.o.M.old (i:=0) sm_ rfl;rw[Nat.add_zero]at g;have B:=ZU_ c.o H.o.M.old sm_)
  try (have y:=QO_ c.o H.o.M.old (i:=1) sm_ rfl)
  try (have A:=QO_ c.o H.o.M.old (i:=2) sm_ rfl)
  repeat (
     go_wp2_with fail
     first
     |(go_at_call 123;refine Wt.iline hi H ?_)
     |(go_at_call 124;refine Wt.ival hi H (by assumption) (by assumption) ?_)
     |(go_at_call 125;refine Wt.iblock hi H (by assumption) ?_)
     |(go_at_call 81;refine Wt.iall hi H c.o (by assumption) ?_)
     intro s1 W1 k;clear H x0 x1 x2 x3 xg;have H:=k;clear k;have K:=H.o.k.2 _ _ m.o;have x0:=K.q0;have x1:=K.q1;have x2:=K.q2;have x3:=K.q3;have xg:=K.lt;clear K
     try (have g:=QO_ c.o H.o.M.old (i:=0) sm_ rfl;rw[Nat.add_zero]at g;have B:=ZU_ c.o H.o.M.old sm_)
     try (have y:=QO_ c.o H.o.M.old (i:=1) sm_ rfl)
     try (have A:=QO_ c.o H.o.M.old (i:=2) sm_ rfl))
  first
  |(
   go_wp2;go_end0;exact⟨rfl,H.o.end_.1,o.o.trans H.o.end_.2⟩)
  |(
   go_wp2_with fail
   go_region_with (go_at_call 124;refine Wt.ival hi (h_ (H.o.next (by first|exact br|exact br.drew))) (by assumption) (by assumption) ?_;intro s1 W1 k)
   all_goals
    go_wp2;go_end0;exact⟨rfl,k.o.end_.1,o.o.trans k.o.end_.2⟩)
def Qiy_ (D:WD) (hi:D.imp=φ) (f j:Nat) (kd:Int) (t:BA) (l:LI) (z:Bool) (a:Int) (s:Ws) (W:Ω) (h:WIn 78 D f j ⟨kd,t,l,z⟩ a s W) (m:kd≠20):
  Δ π 78 #[P_ (σ ⟨D.T,0,ν⟩),I_ j_ (j:Int),I_ j_ a] W (WrR D (ZN_ D.Q (f+1) j a s) W):=by
 obtain⟨b,off,A',c',eD,o,y0,y1,C,y3,r,G⟩:=h.at_;obtain⟨u0,u1,u2,u4,uf,uz⟩:=h.hC.cells;rw[eD]at u0;have I:=h.lt;have B:=h.K.K.F.few;obtain⟨E,F⟩:=h.a26;obtain⟨n,es,hn,p,hE⟩:=h.ev m;rw[hn]at C r;dsimp only at y0 y1 C y3 r hE;have c:=h_ r;have q:=h_<|h.wt #[I_ j_ kd,T_ t,S_ A' n c',B_ z];rw[p]at q;have J:t.size<=1048576:=(h.K.K.P _ (lm_ h.hx)).1;have v:=h_<|Kb.below (show Λ W (W.alloc (C_ #[I_ j_ kd,T_ t,S_ A' n c',B_ z] 96))from grow_);have k:=h_<|Blk.new W 96 #[I_ j_ kd,T_ t,S_ A' n c',B_ z];obtain⟨fin,d⟩:=ex_ (ZN_ D.Q (f+1) j a s);rw[d]at q |-
 have q1:¬9223372036854775807<6+t.size:=oo;have q2:¬9223372036854775807<6+t.size+2:=oo;have q3:¬9223372036854775807<4+t.size:=oo;have q4:¬9223372036854775807<4+t.size+1:=oo;have q5:¬9223372036854775807<4+t.size+2:=oo;have q6:¬9223372036854775807<t.size+2:=oo;clear h eD r d hn p m
 cases hE
 all_goals
  first|obtain⟨b5,e,rfl⟩:=ZC_ (n:=1) c.o dc_|obtain⟨b5,e,rfl⟩:=ZC_ (n:=2) c.o dc_|obtain⟨b5,e,rfl⟩:=ZC_ (n:=3) c.o dc_|skip
  go_in;go_upto_region 1 with fail
  generalize W.alloc (C_ _ 96)=Wb at *;have H:=q;clear q y0 y1 C y3 o u0 u1 u2 u4 uf uz;have K:=H.o.k.2 _ _ k.o;have x0:=K.q0;have x1:=K.q1;have x2:=K.q2;have x3:=K.q3;have xg:=K.lt;clear K
  try (have g:=QO_ c.o H.o.M.old (i:=0) sm_ rfl;rw[Nat.add_zero]at g;have A:=ZU_ c.o H.o.M.old sm_)
  try (have x:=QO_ c.o H.o.M.old (i:=1) sm_ rfl)
  try (have y:=QO_ c.o H.o.M.old (i:=2) sm_ rfl)
  repeat (
    go_wp2_with fail
    first
    |(go_at_call 97;with_reducible refine Wt.told0 hi c.o H ?_)
    |(go_at_call 97;with_reducible refine Wt.told1 hi c.o H (by assumption) (by assumption) ?_)
    |(go_at_call 96;refine Wt.sline hi H ?_)
    |(go_at_call 98;refine Wt.sval hi H (by assumption) (by assumption) ?_)
    |(go_at_call 99;refine Wt.sblock hi H (by assumption) ?_)
    |(go_at_call 56;refine Wt.sall hi H c.o (by assumption) ?_)
    intro s1 W1 H1;clear H x0 x1 x2 x3 xg;have H:=H1;clear H1;have K:=H.o.k.2 _ _ k.o;have x0:=K.q0;have x1:=K.q1;have x2:=K.q2;have x3:=K.q3;have xg:=K.lt;clear K
    try (have g:=QO_ c.o H.o.M.old (i:=0) sm_ rfl;rw[Nat.add_zero]at g;have A:=ZU_ c.o H.o.M.old sm_)
    try (have x:=QO_ c.o H.o.M.old (i:=1) sm_ rfl)
    try (have y:=QO_ c.o H.o.M.old (i:=2) sm_ rfl))
  go_wp2;go_end0;exact⟨rfl,H.o.end_.1,v.o.trans H.o.end_.2⟩
def Qc5_ (D:WD) (hi:D.imp=τ) (d:Wk D.Q) (hP:Nps D.w0 D.A (D.Q.m+1) D.Q.ps) (hB:0<=D.Q.budget/\D.Q.budget<=100000):∀f,f<=D.Q.m+1->WK 104 D f:=by
 intro f
 induction f with
 |zero=>intro e;exact⟨λj a s W hj=>oo,d,hP,hB,e⟩
 |succ f ih=>
  intro e;have K:=ih oo;refine⟨λj a s W hj hs ha hz hC=>?_,d,hP,hB,e⟩;obtain⟨x,hx⟩:∃x,D.Q.ps[j]? =σ x:=⟨_,gE (by rw[d.F.tree.len];omega)⟩;rw[Qr_ hx]at hs;have h:WIn 104 D f j x a s W:=⟨K,hx,hj,hs,ha,hz,hC⟩;obtain⟨kd,t,l,z⟩:=x;by_cases c:kd=20
  ·subst c;have hV:StF D.Q.ps 20 l:=h.form;have hk:=λ(v:Int) hv=>((h.kids v hv).1.1:(0:Int)<=v)
   cases hV with
   |meth l b hn hb=>obtain⟨b1,rfl⟩:=eo_ (hk b sm_);exact Qhb_ D hi f j t z a s W l b1 h
  exact Qio_ D hi f j kd t l z a s W h c
def Qd8_ (D:WD) (hi:D.imp=φ) (d:Wk D.Q) (hP:Nps D.w0 D.A (D.Q.m+1) D.Q.ps) (hB:0<=D.Q.budget/\D.Q.budget<=100000):∀f,f<=D.Q.m+1->WK 78 D f:=by
 intro f
 induction f with
 |zero=>intro e;exact⟨λj a s W hj=>oo,d,hP,hB,e⟩
 |succ f ih=>
  intro e;have K:=ih oo;refine⟨λj a s W hj hs ha hz hC=>?_,d,hP,hB,e⟩;obtain⟨x,hx⟩:∃x,D.Q.ps[j]? =σ x:=⟨_,gE (by rw[d.F.tree.len];omega)⟩;rw[Qr_ hx]at hs;have h:WIn 78 D f j x a s W:=⟨K,hx,hj,hs,ha,hz,hC⟩;obtain⟨kd,t,l,z⟩:=x;by_cases c:kd=20
  ·subst c;have hV:StF D.Q.ps 20 l:=h.form;have hk:=λ(v:Int) hv=>((h.kids v hv).1.1:(0:Int)<=v)
   cases hV with
   |meth l b hn hb=>obtain⟨b1,rfl⟩:=eo_ (hk b sm_);exact QhJ_ D hi f j t z a s W l b1 h
  exact Qiy_ D hi f j kd t l z a s W h c
def Go_ (ps:List PN) (width a:Int):Ws:=if Yb_ ps=τ then Ja_ ⟨ps,η ps-1,width,a⟩else ([],0)
def zt_ {F:FuncId} {D:WD} (a:WK F D (D.Q.m+1)) (hM:WrM D ([],1) w):Mt F D (D.Q.m+1) (Ja_ D.Q) w 0 (QC_ D.Q.ps (D.Q.m:Int)) 0 ([],1) w:=by
 obtain⟨x,b,f,_,_⟩:=a.K.F.root;have d:=a.K.F.tree.good;have e:QC_ D.Q.ps (D.Q.m:Int)=x.kids:=Gs_ b;have c:=Vz_ d b;have hr:Kk_ D.Q.ps D.Q.m=D.Q.m+1:=xW_ d a.K.F.tree.len a.K.F.tree.used;have i:=(d _ _ b).1;have h:=a.K.F.few;have hd:=X1_ a.K.D (show D.Q.m<D.Q.m+1 from oo) b;have g:=zs_ (a.K.F.node D.Q.m oo) b f;refine⟨hM,by rw[List.drop_zero];rfl,?_,?_,Int.le_refl _,a,Kb.refl _⟩
 ·rw[List.drop_zero,e];show 0+(η x.kids+Kv_ (Kk_ D.Q.ps) x.kids*2100000)<=632000000;omega
 intro v c;rw[e]at c;have h1:=(d _ _ b).2 v c;have h2:=hd.2 v c oo;exact⟨oo,g v c,oo⟩
def QaC_ {D:WD} (hb:Blk w D.T (wty D.imp) (q7_ D (S_ z 0 f) 1)) (hm:Mine w D.w0.heap.size 9 1 z 0 f []) (hT:D.w0.heap.size<=D.T) (ho:Below D.w0.heap.size D.w0 w):WrM D ([],1) w:=⟨z,f,hb,hm,hT,ho⟩
def Gr_ (hn:n<=300) (t:Nps m e n g) (hp:Ψ (PNs g)) (hB:0<=j/\j<=100000) (L:Yb_ g=τ):
  Δ π 59 #[S_ e n c,I_ j_ i,I_ j_ j] m (QgF_ (Go_ g i j) m):=by
 have HT:=h_ (λ(W:Ω) (h:Nps W e n g)=>by have h:=V4_ e n c g W oo h hp;rwa[L]at h);have r:Λ m (m.alloc (C_ #[S_ ν 0 0,I_ j_ 0] 61)):=Ql_ br;have B:=h_ r;have k:=h_<|t.next r;have G:=h_<|Blk.new m 61 #[S_ ν 0 0,I_ j_ 0];obtain⟨w,y,hD⟩:=qi_ L;have a:=t.len;rw[y.tree.len]at a;subst a;have hE:Go_ g i j=Ja_ ⟨g,w,i,j⟩:=by unfold Go_;rw[ip_ L,y.tree.len];rfl
 rw[hE];have hK:Wk ⟨g,w,i,j⟩:=⟨y,hp.o,hD⟩;obtain⟨x,M,_⟩:=y.root;have S:=(y.tree.good _ _ M).1;have l:=h_ (λ(w1:Ω) (hN:Nps w1 e (w+1) g)=>show ∃b off A' c',e=σ ⟨b,off,ν⟩/\b<w1.heap.size/\w1.cell? ⟨b,off+w*4+2,ν⟩=σ (S_ A' (η x.kids) c')/\Δ π 81 #[P_ (σ ⟨w1.heap.size,0,ν⟩),S_ A' (η x.kids) c',I_ j_ 0] (w1.alloc (C_ #[S_ e (w+1) c,I_ j_ i,I_ j_ j,S_ ν 0 0,I_ j_ 1] 119)) (WrR ⟨τ,w1.heap.size,e,c,⟨g,w,i,j⟩,w1⟩ (Ja_ ⟨g,w,i,j⟩) (w1.alloc (C_ #[S_ e (w+1) c,I_ j_ i,I_ j_ j,S_ ν 0 0,I_ j_ 1] 119)))from by
  obtain⟨b,off,A',c',A,s,_,_,P,_,T,hr⟩:=hN.atc (show w<w+1 from oo) M;refine⟨b,off,A',c',A,s,P,?_⟩;have J:=Qc5_ ⟨τ,w1.heap.size,e,c,⟨g,w,i,j⟩,w1⟩ rfl hK hN hB (w+1) (lr_ _);have I:=zt_ (D:=⟨τ,w1.heap.size,e,c,⟨g,w,i,j⟩,w1⟩) J (QaC_ (D:=⟨τ,w1.heap.size,e,c,⟨g,w,i,j⟩,w1⟩) (Blk.new w1 119 _) (Mine.mk_nil _ _ _ _) (lr_ _) (Ql_ br));rw[show QC_ g (w:Int)=x.kids from Gs_ M]at I;exact Jh_ ⟨τ,w1.heap.size,e,c,⟨g,w,i,j⟩,w1⟩ rfl J _ ([],1) 0 A' (η x.kids) c' x.kids _ rfl oo hr I)
 obtain⟨fin,width⟩:=ex_ (Ja_ ⟨g,w,i,j⟩);rw[width]at l |-
 clear r t L hE hK M y hD width;go_in;go_wp2_with fail;refine mb_ (HT.o _ k.o) ?_;intro w1 K;have C:=h_<|Qb_ B.o K;have o:=h_<|G.o.next K;obtain⟨b,off,A',c',rfl,s,P,H⟩:=l.o w1 (k.o.next K);have z:=h_ H;have U:=o.o.lt;clear K B k G HT l H;go_wp2_with fail
 refine mb_ z.o ?_;rintro v ⟨⟨f,ps,hA⟩,hk⟩;have HA:=h_ hA;have d:=h_<|o.o.next (show Λ w1 v from hA.old);have E:=h_<|Qb_ C.o (show Λ w1 v from hA.old);have x3:v.cell? ⟨w1.heap.size,3,ν⟩=σ (S_ f fin.1.length ps):=hA.blk.cell 3;have x4:v.cell? ⟨w1.heap.size,4,ν⟩=σ (I_ j_ fin.2):=hA.blk.cell 4;have xz:w1.heap.size<v.heap.size:=hA.blk.lt;have Q:=d.o.q0;have R:=d.o.q1;have zf:=d.o.frozen;have zz:=d.o.lt;clear hA hk z o s P;have F:=h_ (show Mine v m.heap.size 9 1 f fin.1.length ps (Qm_ fin.1)from HA.o.row.more C.o.size);go_wp2;have q:=h_<|(d.o.set_ 0 (S_ f fin.1.length ps)).set_ 1 (I_ j_ fin.2);have O:=h_<|Qt_ (Qt_ F.o d.o dc_ 0 (S_ f fin.1.length ps)) (d.o.set_ 0 (S_ f fin.1.length ps)) dc_ 1<|I_ j_ fin.2;have N:=h_<|(E.o.setCell (p:=⟨m.heap.size,0,ν⟩) (lr_ _) (S_ f fin.1.length ps)).setCell (p:=⟨m.heap.size,1,ν⟩) (lr_ _) (I_ j_ fin.2);clear Q R zf zz x3 x4 xz d F E HA;generalize (v.setCell ⟨m.heap.size,0,ν⟩ (S_ f fin.1.length ps)).setCell ⟨m.heap.size,1,ν⟩ (I_ j_ fin.2)=W9 at *;have Q:W9.cell? ⟨m.heap.size,0,ν⟩=σ (S_ f fin.1.length ps):=q.o.cell 0;have R:W9.cell? ⟨m.heap.size,1,ν⟩=σ (I_ j_ fin.2):=q.o.cell 1;have zz:=q.o.lt;refine bodyPost_ret (by simp[results,Tryz.results59,go_sem,Q,R];try rfl) rfl ?_;exact⟨f,ps,rfl,O.o,N.o⟩
def GH_ (hn:n<=300) (t:Nps m e n g) (hp:Ψ (PNs g)) (hB:0<=j/\j<=100000) (O:Yb_ g=τ):
  Δ π 36 #[S_ e n c,I_ j_ i,I_ j_ j] m (QgF_ (Go_ g i j) m):=by
 have HT:=h_ (λ(W:Ω) (h:Nps W e n g)=>by have h:=X9_ e n c g W oo h hp;rwa[O]at h);have r:Λ m (m.alloc (C_ #[S_ ν 0 0,I_ j_ 0] 61)):=Ql_ br;have B:=h_ r;have k:=h_<|t.next r;have G:=h_<|Blk.new m 61 #[S_ ν 0 0,I_ j_ 0];obtain⟨w,y,hD⟩:=qi_ O;have a:=t.len;rw[y.tree.len]at a;subst a;have hE:Go_ g i j=Ja_ ⟨g,w,i,j⟩:=by unfold Go_;rw[ip_ O,y.tree.len];rfl
 rw[hE];have hK:Wk ⟨g,w,i,j⟩:=⟨y,hp.o,hD⟩;obtain⟨x,P,_⟩:=y.root;have U:=(y.tree.good _ _ P).1;have l:=h_ (λ(w1:Ω) (hN:Nps w1 e (w+1) g)=>show ∃b off A' c',e=σ ⟨b,off,ν⟩/\b<w1.heap.size/\w1.cell? ⟨b,off+w*4+2,ν⟩=σ (S_ A' (η x.kids) c')/\Δ π 56 #[P_ (σ ⟨w1.heap.size+1,0,ν⟩),S_ A' (η x.kids) c',I_ j_ 0] ((w1.alloc (C_ #[] 9)).alloc (C_ #[S_ e (w+1) c,I_ j_ i,I_ j_ j,S_ (σ ⟨w1.heap.size,0,ν⟩) 0 0,I_ j_ 1] 93)) (WrR ⟨φ,w1.heap.size+1,e,c,⟨g,w,i,j⟩,w1⟩ (Ja_ ⟨g,w,i,j⟩) ((w1.alloc (C_ #[] 9)).alloc (C_ #[S_ e (w+1) c,I_ j_ i,I_ j_ j,S_ (σ ⟨w1.heap.size,0,ν⟩) 0 0,I_ j_ 1] 93)))from by
  obtain⟨b,off,A',c',A,s,_,_,T,_,V,hr⟩:=hN.atc (show w<w+1 from oo) P;refine⟨b,off,A',c',A,s,T,?_⟩;have K:=Qd8_ ⟨φ,w1.heap.size+1,e,c,⟨g,w,i,j⟩,w1⟩ rfl hK hN hB (w+1) (lr_ _);have J:=zt_ (D:=⟨φ,w1.heap.size+1,e,c,⟨g,w,i,j⟩,w1⟩) K (QaC_ (D:=⟨φ,w1.heap.size+1,e,c,⟨g,w,i,j⟩,w1⟩) (by have h:=Blk.new (w1.alloc (C_ #[] 9)) 93 (q7_ ⟨φ,w1.heap.size+1,e,c,⟨g,w,i,j⟩,w1⟩ (S_ (σ ⟨w1.heap.size,0,ν⟩) 0 0) 1);rwa[ws_]at h) (Mine.alloc (ZA_ w1 9 1) _) (by show w1.heap.size<=w1.heap.size+1;omega) (by show Λ w1 _;exact grow_));rw[show QC_ g (w:Int)=x.kids from Gs_ P]at J;exact Vv_ ⟨φ,w1.heap.size+1,e,c,⟨g,w,i,j⟩,w1⟩ rfl K _ ([],1) 0 A' (η x.kids) c' x.kids _ rfl oo hr J)
 obtain⟨fin,width⟩:=ex_ (Ja_ ⟨g,w,i,j⟩);rw[width]at l |-
 clear r t O hE hK P y hD width;go_in;go_wp2_with fail;refine mb_ (HT.o _ k.o) ?_;intro w1 N;have C:=h_<|Qb_ B.o N;have o:=h_<|G.o.next N;obtain⟨b,off,A',c',rfl,s,T,I⟩:=l.o w1 (k.o.next N);have z:=h_ I;have X:=o.o.lt;clear N B k G HT l I;go_wp2_with fail
 refine mb_ z.o ?_;rintro v ⟨⟨f,ps,hA⟩,hk⟩;have HA:=h_ hA;have d:=h_<|o.o.next (show Λ w1 v from hA.old);have E:=h_<|Qb_ C.o (show Λ w1 v from hA.old);have x3:v.cell? ⟨w1.heap.size+1,3,ν⟩=σ (S_ f fin.1.length ps):=hA.blk.cell 3;have x4:v.cell? ⟨w1.heap.size+1,4,ν⟩=σ (I_ j_ fin.2):=hA.blk.cell 4;have xz:w1.heap.size+1<v.heap.size:=hA.blk.lt;have L:=d.o.q0;have M:=d.o.q1;have zf:=d.o.frozen;have Q:=d.o.lt;clear hA hk z o s T;have F:=h_ (show Mine v m.heap.size 9 1 f fin.1.length ps (Qm_ fin.1)from HA.o.row.more C.o.size);go_upto_region 5 with fail
 go_still_tail 9,nr_;go_wp2;have q:=h_<|(d.o.set_ 0 (S_ f fin.1.length ps)).set_ 1 (I_ j_ fin.2);have S:=h_<|Qt_ (Qt_ F.o d.o dc_ 0 (S_ f fin.1.length ps)) (d.o.set_ 0 (S_ f fin.1.length ps)) dc_ 1<|I_ j_ fin.2;have R:=h_<|(E.o.setCell (p:=⟨m.heap.size,0,ν⟩) (lr_ _) (S_ f fin.1.length ps)).setCell (p:=⟨m.heap.size,1,ν⟩) (lr_ _) (I_ j_ fin.2);clear L M zf Q x3 x4 xz d F E HA;generalize (v.setCell ⟨m.heap.size,0,ν⟩ (S_ f fin.1.length ps)).setCell ⟨m.heap.size,1,ν⟩ (I_ j_ fin.2)=H at *;have L:H.cell? ⟨m.heap.size,0,ν⟩=σ (S_ f fin.1.length ps):=q.o.cell 0;have M:H.cell? ⟨m.heap.size,1,ν⟩=σ (I_ j_ fin.2):=q.o.cell 1;have Q:=q.o.lt;have L:H.drew.cell? ⟨m.heap.size,0,ν⟩=σ (S_ f fin.1.length ps):=L;have M:H.drew.cell? ⟨m.heap.size,1,ν⟩=σ (I_ j_ fin.2):=M;have Q:m.heap.size<H.drew.heap.size:=Q;refine bodyPost_ret (by simp[results,Tryz.results36,go_sem,L,M];try rfl) rfl ?_;exact⟨f,ps,rfl,S.o,R.o.drew⟩
def Wb_ (l:List BA):BA:=⟨(Jk_ l).toArray⟩
def kQ_ (l:List BA):(Jk_ l).length=szL l:=by
 induction l with
 |nil=>rfl
 |cons s l ih=>show(s.data.toList++[10]++Jk_ l).length=_;rw[lA,lA,ih,VP_,QF_];rfl
def zA_ (l:List BA):(Wb_ l).size=szL l:=by rw[<-kQ_,<-QF_];rfl
def zy_ {l:List BA} (h:l[f]? =σ x):Jk_ (l.take (f+1))=Jk_ (l.take f)++x.data.toList++[10]:=by
 unfold Jk_;rw[List.take_add_one,h];simp
def kP_ {l:List BA} {k:Nat} (h:η l<=k):Jk_ (l.take k)=Jk_ l:=by rw[List.take_of_length_le h]
def zz_ (l:List BA) (k:Nat):(Jk_ (l.take k)).length<=szL l:=by
 rw[kQ_];have h:=Qez_ (l.take k)<|l.drop k;rw[List.take_append_drop]at h;omega
def xy_ (l:List BA) (w:Ω) (hl:η l=n) (hr:Rd w 1 e n (Qm_ l)) (hz:szL l<=632000000):
  Δ π 37 #[S_ e n c] w (RB_ (T_ (Wb_ l)) w):=by
 have HR:=h_ hr;have HL:=h_ hl;have HZ:=h_ (λk=>lt_ (zz_ l k) hz);have hn:n<=632000000:=by have:=Ya_ l;omega
 clear hr hl hz;go_in;go_wp2
 go_loop [3,4] (λs i=>∃(k:Nat) (a:BA),k<=n/\i=I_ j_ k/\s=T_ a/\Ψ (a.data.toList=Jk_ (l.take k))) (λ_ i=>n-(intOf i).toNat)
 ·exact⟨0,⟨#[]⟩,lz_ _,rfl,rfl,h_ rfl⟩
 obtain⟨k,a,hk,rfl,rfl,HO⟩:=hrel;by_cases f:k<n
 ·obtain⟨x,g⟩:∃x,l[k]? =σ x:=⟨_,gE (by rw[HL.o];exact f)⟩;obtain⟨b,off,rfl,h,cx⟩:=Ud_ HR.o f g;have d:=h_ (zy_ g);have h1:=HZ.o (k+1);have h2:(Jk_ (l.take (k+1))).length=a.size+x.size+1:=(by rw[d.o,lA,lA,<-HO.o,QF_,QF_];rfl);have q1:¬9223372036854775807<a.size+x.size:=oo;have q2:¬9223372036854775807<a.size+x.size+1:=oo;clear g h1 h2;go_wp2;exact⟨⟨k+1,_,oo,by go_num,rfl,h_ (by rw[d.o,XX_,XX_,HO.o])⟩,ms_⟩
 obtain rfl:k=n:=oo;have HE:=h_ (show a=Wb_ l from VY_ (by rw[HO.o,kP_ (Nat.le_of_eq HL.o)];rfl));go_wp2;go_ret;exact⟨Xn_ HE.o,br⟩
def kC_ (l:List BA) (w:Ω) (hl:η l=n) (hr:Rd w 1 e n (Qm_ l)) (hz:szL l<=632000000):
  Δ π 60 #[S_ e n c] w (RB_ (T_ (Wb_ l)) w):=by
 have HR:=h_ hr;have HL:=h_ hl;have HZ:=h_ (λk=>lt_ (zz_ l k) hz);have hn:n<=632000000:=by have:=Ya_ l;omega
 have a:=h_ (show Λ w (w.alloc (C_ #[P_ ν,S_ ν 0 0] 122))from Ql_ br);have f:=h_<|Bld.fresh w<|lr_ w.heap.size;clear hr hl hz;go_in;go_wp2;go_loopw [8] (λi wr=>∃k:Nat,k<=n/\i=I_ j_ k/\Ψ (Bld wr w.heap.size w.heap.size (Jk_ (l.take k)))/\Ψ (Λ w wr)) (λi _=>n-(intOf i).toNat)
 ·exact⟨0,lz_ _,rfl,f,a⟩
 clear f a;obtain⟨k,hk,rfl,HD,p⟩:=hrel;have m:=p.o.size;by_cases o:k<n
 ·obtain⟨x,y⟩:∃x,l[k]? =σ x:=⟨_,gE (by rw[HL.o];exact o)⟩;obtain⟨b,off,rfl,z,cx⟩:=Ud_ (HR.o.next p.o) o y;have g:=h_ (zy_ y);have h1:=HZ.o (k+1);have h2:(Jk_ (l.take (k+1))).length=(Jk_ (l.take k)).length+x.size+1:=(by rw[g.o,lA,lA,QF_];rfl);clear y;go_wp2_with fail;refine mb_ (vz_ w.heap.size w.heap.size _ x wr HD.o oo m) ?_;rintro w3 ⟨h3,h,_⟩;have d:=h_<|p.o.trans h;have s:=h_ h3;clear h3 h;go_wp2_with fail
  refine mb_ (QgM_ w.heap.size w.heap.size _ 10 w3 s.o (by rw[lA,QF_];omega) d.o.size) ?_;rintro w4 ⟨h4,j,_⟩;have q:=h_<|d.o.trans j;have t:Ψ (Bld w4 w.heap.size w.heap.size (Jk_ (l.take (k+1)))):=h_ (by rw[g.o];exact h4);clear h4 j;go_wp2;exact⟨⟨k+1,oo,by go_num,t,q⟩,ms_⟩
 obtain rfl:k=n:=oo;have HE:=h_<|kP_ (l:=l) (k:=k)<|Nat.le_of_eq HL.o;go_wp2_with fail
 refine mb_ (Qcx_ w.heap.size w.heap.size _ wr HD.o m) ?_;intro w5 v;have r:=h_<|p.o.trans v;go_wp2;go_ret;exact⟨Xn_ (by rw[HE.o];rfl),r.o⟩
def outV (r:Ws):BA × Int × Int:=if 3000<(Wb_ r.1).size then (⟨#[]⟩,0,3)else (Wb_ r.1,r.2,0)
def Uj_ (t:BA) (width a:Int):BA × Int × Int:=
 if qL_ width a=φ then (⟨#[]⟩,0,2)else match Y5_ t with|none=>(⟨#[]⟩,0,1)|some ps=>outV (Go_ ps width a)
def FmtR (r:BA × Int × Int) (w:Ω) (e:Ending) (w':Ω):Prop:=∃p:Int,e=R_ (U_ #[T_ r.1,I_ j_ p,I_ j_ r.2.2])/\(r.2.2≠1->p=r.2.1)/\Λ w w'
def Qcd_ {Q:Wp} (a:Wk Q):szL (Ja_ Q).1<=632000000:=by
 obtain⟨x,b,f,_,_⟩:=a.F.root;have e:QC_ Q.ps (Q.m:Int)=x.kids:=Gs_ b;have c:=a.F.tree.good;have d:=Vz_ c b;have hr:Kk_ Q.ps Q.m=Q.m+1:=xW_ c a.F.tree.len a.F.tree.used;have j:=(c _ _ b).1;have i:=a.F.few;have hd:=X1_ a.D (show Q.m<Q.m+1 from oo) b;have g:=zs_ (a.F.node Q.m oo) b f;have h0:szL (([]:List BA),(1:Int)).1=0:=rfl;have h:=xa_ (Wq_ a (Q.m+1) (lr_ _)) (Int.le_refl 0) x.kids ([],1) (λv d=>by
  have h1:=(c _ _ b).2 v d;have h2:=hd.2 v d oo;exact⟨oo,g v d,oo⟩) oo
 unfold Ja_;rw[e];omega
def ku_ (hp:PNs y) (width a:Int):szL (Go_ y width a).1<=632000000:=by
 unfold Go_;split
 ·rename_i ht;obtain⟨m,hF,hD⟩:=qi_ ht;rw[show η y-1=m by rw[hF.tree.len];rfl];exact Qcd_ (Q:=⟨y,m,width,a⟩) ⟨hF,hp,hD⟩
 exact lz_ _
def Qgs_ {r:Ws} {z:Bool} (h:decide (3000<(Wb_ r.1).size)=z):outV r=if z=τ then (⟨#[]⟩,0,3)else (Wb_ r.1,r.2,0):=by
 subst h;unfold outV;simp only[decide_eq_true_eq]
def zc_ (t:BA) (width a:Int) (w:Ω) (ht:t.size<=1048576):Δ π 20 #[T_ t,I_ j_ width,I_ j_ a] w (FmtR (Uj_ t width a) w):=by
 cases h1:inB width 10 200 with
 |false=>
  have l:=h_ (show Uj_ t width a=(⟨#[]⟩,0,2)by unfold Uj_ qL_;rw[h1];rfl);rw[l.o];have v:=h_ (λW=>Ko_ h1 W);go_in;go_wp2_with (go_at_call 34;refine mb_ (v.o _) ?_;rintro w1 rfl)
  go_ret3
  exact⟨0,rfl,λ_=>rfl,br⟩
 |true=>
  have v:=h_ (λW=>Ko_ h1 W)
  cases F:inB a 0 100000 with
  |false=>
   have l:=h_ (show Uj_ t width a=(⟨#[]⟩,0,2)by unfold Uj_ qL_;rw[h1,F];rfl);rw[l.o];have J:=h_ (λW=>Ko_ F W);go_in;go_wp2_with (go_at_call 34;(first|(with_reducible refine(v.o _).mono ?_)|(with_reducible refine(J.o _).mono ?_));rintro e w1 ⟨rfl,rfl⟩)
   go_ret3
   exact⟨0,rfl,λ_=>rfl,br⟩
  |true=>
   have J:=h_ (λW=>Ko_ F W);have hB:0<=a/\a<=100000:=Yl_ F;have h1:qL_ width a=τ:=by unfold qL_;rw[h1,F];rfl
   cases j:Y5_ t with
   |none=>
    have l:=h_ (show Uj_ t width a=(⟨#[]⟩,0,1)by unfold Uj_;rw[in_ (by rw[h1];simp),j]);rw[l.o];have C:=h_ (λW=>show Δ π 35 #[T_ t] W (λe w'=>∃(g:Nat) (p:Int),e=R_ (U_ #[S_ (σ ⟨g,0,ν⟩) 0 0,I_ j_ p,B_ φ])/\Λ W w')from(Ub_ t W ht).mono (by
     rintro e w1 ⟨b,h⟩;rw[j]at h;obtain⟨g,p,rfl,_⟩:=h;exact⟨g,p,rfl,b⟩))
    clear j h1;go_in;go_wp2_with (go_at_call 34;(first|(with_reducible refine(v.o _).mono ?_)|(with_reducible refine(J.o _).mono ?_));rintro e w1 ⟨rfl,rfl⟩);go_wp2_with fail;refine(C.o _).mono ?_;rintro e w1 ⟨g,p,rfl,b⟩;go_wp2
    go_ret3
    exact⟨p,rfl,λh=>absurd rfl h,b⟩
   |some ps=>
    obtain⟨I,hn,Q⟩:=zO_ j;have l:=h_ (show Uj_ t width a=outV (Go_ ps width a)by unfold Uj_;rw[in_ (by rw[h1];simp),j]);rw[l.o];have k:=ku_ Q width a;have K:=h_ (λA c W i=>GH_ A (η ps) c ps width a W hn i (h_ Q) hB I);have C:=h_ (λW=>show Δ π 35 #[T_ t] W (λe w'=>∃A c,e=R_ (U_ #[S_ A (η ps) c,I_ j_ 0,B_ τ])/\Nps w' A (η ps) ps/\Λ W w')from(Ub_ t W ht).mono (by
     rintro e w1 ⟨b,h⟩;rw[j]at h;obtain⟨A,c,rfl,M⟩:=h;exact⟨A,c,rfl,M.nps,b⟩))
    obtain⟨r,H⟩:=ex_ (Go_ ps width a);rw[H]at K k |-
    have d:=h_ (λA c W j=>xy_ A r.1.length c r.1 W rfl j k);have f:=zA_ r.1;have y:=h_ (λz hz=>Qgs_ (r:=r) (z:=z) hz);obtain⟨n,G⟩:=ex_ (η ps);rw[G]at C K;clear j h1 H I hn Q G l;obtain⟨L,st⟩:=r;dsimp only at f d;obtain⟨T,P⟩:=ex_ (Wb_ L);rw[P]at f d;have N:=h_ P;have R:T.size<=632000000:=(by rw[f];exact k);clear P f k;go_in;go_wp2_with (go_at_call 34;(first|(with_reducible refine(v.o _).mono ?_)|(with_reducible refine(J.o _).mono ?_));rintro e w1 ⟨rfl,rfl⟩);go_wp2_with fail;refine(C.o _).mono ?_;rintro e w1 ⟨A,c,rfl,i,b⟩;have o:=h_ b;have B:=h_ i;clear b i C;go_wp2_with fail;refine(K.o A c _ B.o).mono ?_;rintro e w3 ⟨A2,c2,rfl,M,b⟩;have q:=h_<|Qb_ o.o b;have x:=h_ M.rd;clear b M o B K;dsimp only;have m:=h_ (show Λ w3 (w3.alloc (C_ #[S_ A2 (η L) c2,I_ j_ st] 61))from Ql_ br);have D:=h_<|Blk.new w3 61 #[S_ A2 (η L) c2,I_ j_ st];go_wp2_with fail
    refine mb_ (d.o A2 c2 _ (x.o.next m.o)) ?_;intro w5 b;have s:=h_<|Qb_ q.o<|Qb_ m.o b;have E:=h_<|D.o.next b;have z1:=E.o.q1;have zz:=E.o.lt;clear b q x m D d;by_cases h3:3000<T.size
    ·have HO:=h_ (y.o τ (by rw[N.o];exact dt_ h3));have O:(3000:Int)<T.size:=oo;go_wp2
     go_ret3
     exact⟨0,by rw[HO.o];rfl,λ_=>by rw[HO.o];rfl,s.o⟩
    have HO:=h_<|y.o φ (by rw[N.o];exact df_ h3);have O:¬(3000:Int)<T.size:=oo;go_upto_region 10 with fail
    go_quiet (fail);go_wp2
    go_ret3
    exact⟨st,by rw[HO.o,<-N.o];rfl,λ_=>by rw[HO.o];rfl,below_drewN s.o _⟩
def Um_ (t:BA) (width a:Int) (w:Ω) (ht:t.size<=1048576):Δ π 38 #[T_ t,I_ j_ width,I_ j_ a,.func (Fn.func 39) #[] #[]] w (FmtR (Uj_ t width a) w):=by
 have m:=h_ (λW=>Gq_ width a W)
 cases h1:qL_ width a with
 |false=>
  rw[h1]at m;have l:=h_ (show Uj_ t width a=(⟨#[]⟩,0,2)by unfold Uj_;rw[ip_ h1]);rw[l.o];go_in;go_wp2_with fail;refine mb_ (m.o _) ?_;rintro w1 rfl;go_wp2
  go_ret3
  exact⟨0,rfl,λ_=>rfl,br⟩
 |true=>
  rw[h1]at m;have hB:0<=a/\a<=100000:=by unfold qL_ at h1;rw[τa]at h1;exact Yl_ h1.2
  have HC:=h_ (λ(W:Ω) (A:OA) (n c:Nat)=>show Δ π 39 #[S_ A n c] W (RS_ (S_ A n c) W)from by
   go_in;exact Θ)
  cases i:Y5_ t with
  |none=>
   have l:=h_ (show Uj_ t width a=(⟨#[]⟩,0,1)by unfold Uj_;rw[in_ (by rw[h1];simp),i]);rw[l.o];have B:=h_ (λW=>qt_ t W ht i);clear i h1;go_in;go_wp2_with fail;refine mb_ (m.o _) ?_;rintro w0 rfl;go_wp2_with fail;refine(B.o _).mono ?_;rintro e w1 ⟨p,rfl,b⟩;go_wp2
   go_ret3
   exact⟨p,rfl,λh=>absurd rfl h,b⟩
  |some ps=>
   obtain⟨G,hn,M⟩:=zO_ i;have l:=h_ (show Uj_ t width a=outV (Go_ ps width a)by unfold Uj_;rw[in_ (by rw[h1];simp),i]);rw[l.o];have j:=ku_ M width a;have H:=h_ (λA c W g=>Gr_ A (η ps) c ps width a W hn g (h_ M) hB G);have B:=h_ (λW=>show Δ π 58 #[T_ t] W (λe w'=>∃A c,e=R_ (U_ #[S_ A (η ps) c,I_ j_ 0,B_ τ])/\Nps w' A (η ps) ps/\Λ W w')from qu_ t W ht ps i);obtain⟨r,F⟩:=ex_ (Go_ ps width a);rw[F]at H j |-
   have d:=h_ (λA c W i=>kC_ A r.1.length c r.1 W rfl i j);have f:=zA_ r.1;have x:=h_ (λz hz=>Qgs_ (r:=r) (z:=z) hz);obtain⟨n,E⟩:=ex_ (η ps);rw[E]at B H;clear i h1 F G hn M E l;obtain⟨L,st⟩:=r;dsimp only at f d;obtain⟨T,K⟩:=ex_ (Wb_ L);rw[K]at f d;have I:=h_ K;have N:T.size<=632000000:=(by rw[f];exact j);clear K f j;go_in;go_wp2_with fail;refine mb_ (m.o _) ?_;rintro w0 rfl;go_wp2_with fail;refine(B.o _).mono ?_;rintro e w1 ⟨A,c,rfl,g,b⟩;have o:=h_ b;have y:=h_ g;clear b g B;go_wp2_with fail;refine mb_ (HC.o _ A n c) ?_;rintro w2 rfl;go_wp2_with fail;refine(H.o A c _ y.o).mono ?_;rintro e w3 ⟨A2,c2,rfl,hm,b⟩;have q:=h_<|Qb_ o.o b;have v:=h_ hm.rd;clear b hm o y H;dsimp only;have k:=h_ (show Λ w3 (w3.alloc (C_ #[S_ A2 (η L) c2,I_ j_ st] 61))from Ql_ br);have C:=h_<|Blk.new w3 61 #[S_ A2 (η L) c2,I_ j_ st];go_wp2_with fail
   refine mb_ (d.o A2 c2 _ (v.o.next k.o)) ?_;intro w5 b;have s:=h_<|Qb_ q.o<|Qb_ k.o b;have D:=h_<|C.o.next b;have z1:=D.o.q1;have zz:=D.o.lt;clear b q v k C d;by_cases h3:3000<T.size
   ·have HO:=h_ (x.o τ (by rw[I.o];exact dt_ h3));have J:(3000:Int)<T.size:=oo;go_wp2
    go_ret3
    exact⟨0,by rw[HO.o];rfl,λ_=>by rw[HO.o];rfl,s.o⟩
   have HO:=h_<|x.o φ (by rw[I.o];exact df_ h3);have J:¬(3000:Int)<T.size:=oo;go_upto_region 10 with fail
   go_quiet (fail);go_wp2
   go_ret3
   exact⟨st,by rw[HO.o,<-I.o];rfl,λ_=>by rw[HO.o];rfl,below_drewN s.o _⟩
def W3_ (ht:t.size<=1048576):Δ π 22 #[T_ t,I_ j_ o,I_ j_ p] r (FmtR (Uj_ t o p) r):=by
 have HF:=h_ (λW=>Um_ t o p W ht);obtain⟨a,hr⟩:=ex_ (Uj_ t o p);rw[hr]at HF |-
 clear hr;go_in;go_wp2_with fail;refine(HF.o _).mono ?_;rintro e w1 ⟨width,rfl,hp,hb⟩;have HP:=h_ hp;clear hp;go_wp2
 go_ret3
 exact⟨width,rfl,HP.o,hb⟩
end Go.Proofs.YtbiijipkgfpgoaaGreatDoor

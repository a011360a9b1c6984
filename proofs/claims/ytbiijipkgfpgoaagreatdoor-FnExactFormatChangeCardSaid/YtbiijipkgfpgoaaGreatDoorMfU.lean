/-
  Put together by program.
-/
import Derived.Test.YtbiijipkgfpgoaaGreatDoorMfT
import Derived.Test.YtbiijipkgfpgoaaGreatDoorMfP
set_option maxRecDepth 100000
set_option linter.all false
set_option maxHeartbeats 25600000
open Go.Proofs.Tryz
open Go.Value renaming int→I_,slice→S_,string→T_,bool→B_,pointer→P_,agg→A_,tuple→U_
open Go.IntKind renaming i64→j_
open Go.Obj renaming cells→C_
open Go.Ending renaming returned→R_
namespace Go.Proofs.YtbiijipkgfpgoaaGreatDoor
open Go.RowKit Go.Sort
theorem Qc3_ (w:World) {B:Nat} (hB:B<=w.heap.size):HpM B (some ⟨w.heap.size+1,0,none⟩) 1 1 [([],0)] ((w.alloc (C_ #[] 3)).alloc (C_ #[S_ (some ⟨w.heap.size,0,none⟩) 0 0,I_ j_ 0] 185)):=
 ⟨[((some ⟨w.heap.size,0,none⟩,0,0),([],0))],rfl,by
  have h:=Mine.mk_own (w:=(w.alloc (C_ #[] 3)).alloc (C_ #[S_ (some ⟨w.heap.size,0,none⟩) 0 0,I_ j_ 0] 185)) (g:=(w.alloc (C_ #[] 3)).heap.size) (e:=185) (s:=2) (n:=1) (c:=1) (xs:=[S_ (some ⟨w.heap.size,0,none⟩) 0 0,I_ j_ 0]) (B:=B) ⟨[],Blk.new _ _ _,rfl⟩ rfl so_ (lr_ _) mx_;rw[ws_]at h;exact h,fun d hd=>by
  obtain rfl:=ms1_.1 hd;exact⟨lz_ _,((Mine.more (ZA_ w 3 1) hB).alloc _)⟩⟩
theorem Qd1_ {A:OA} {n c:Nat} {i j:Int} (h:i=j):R_ (U_ #[S_ A n c,I_ j_ i])=R_ (U_ #[S_ A n c,I_ j_ j]):=by rw[h]
theorem zf_ (P:Hn) (A0 A1 A2 A3:OA) (c0 c1 c2 c3:Nat) (N:Nat) (w:World) (hM:PcM P A0 A1 A2 A3 w) (hR:PcR P) (cF:okP P=true) (hN:N<=100000):
  Calls prog 115 #[A_ (pcCells P A0 A1 A2 A3 c0 c1 c2 c3),I_ j_ P.width,I_ j_ (N:Int)] w (SeaR (KU_ P (N:Int)) w):=by
 have HO:=h_ (fun W h=>J7_ P A0 A1 A2 A3 c0 c1 c2 c3 W (hM.next h) hR cF);have HA:=h_ (fun W h=>Us_ P A0 A1 A2 A3 c0 c1 c2 c3 W (hM.next h) hR.toPcOk);have aY:=h_ (fun W h V n cv v hv aN hf=>xx_ P A0 A1 A2 A3 c0 c1 c2 c3 V n cv v W (hM.next h) hR hv aN hf);have bj:=h_ (fun W h V n cv v hv aN=>qZ_ P A0 A1 A2 A3 c0 c1 c2 c3 V n cv v W (hM.next h) hR hv aN);have bF:=h_ (fun W h V n cv v hv hn=>WO_ P A0 A1 A2 A3 c0 c1 c2 c3 V n cv v W (hM.next h) hR.toPcOk hv hn);obtain⟨R,bO⟩:=ex_ (KU_ P (N:Int));have bE:=h_ (show KJ_ P N (Ui_ P.l0) (P.cost (Ui_ P.l0)) [([],0)]=R by rw[<-bO];unfold KU_;rw[it_]);have aS:=h_ (VC_ P.l0);have bg:=h_ (Gg_ hR);have a1:=h_ hR;have cd:=h_ hM;have a4:=hR.n0;rw[bO];clear hM hR cF bO;unfold pcCells at HO HA aY bj bF |-
 obtain⟨NL,bN⟩:=ex_ P.l0.length;have aj:=h_ bN;rw[bN]at HO HA aY bj bF a4 |-
 clear bN;have bh:=h_ (show Below w.heap.size w (w.alloc (C_ (pcC P.m A0 NL c0 A1 P.l1.length c1 A2 P.l2.length c2 A3 P.l3.length c3) 149))from Ql_ br);have b4:=h_ (Blk.new w 149 (pcC P.m A0 NL c0 A1 P.l1.length c1 A2 P.l2.length c2 A3 P.l3.length c3));go_enter func115,ntmps115;go_wp2_with fail
 refine(HO.o _ bh.o).mono ?_;rintro e w1 ⟨rfl,h1⟩;have aT:=h_ (Qb_ bh.o h1);have bs:=h_ (b4.o.next h1);obtain⟨q0,q1,q2,q3,q4,A⟩:=Vp_ bs.o;clear h1 HO bh b4;go_wp2_with fail
 refine(HA.o _ aT.o).mono ?_;rintro e w2 ⟨a,ca,rfl,bU,h2⟩;rw[aS.o,aj.o]at bU |-
 have ai:=h_ (Qb_ aT.o h2);have bv:=h_ (bs.o.next h2);have ar:=h_ (bU.more aT.o.size);clear q0 q1 q2 q3 q4 A h2 HA aT bs bU;obtain⟨q0,q1,q2,q3,q4,A⟩:=Vp_ bv.o;have bl:=h_ (aY.o w2 ai.o a NL ca (Ui_ P.l0) ar.o.rd bg.o (aS.o.trans aj.o));obtain⟨⟨o,s⟩,aK⟩:=ex_ (P.cost (Ui_ P.l0));rw[aK]at bl bE;clear aK;go_wp2_with fail
 refine bl.o.mono ?_;rintro e w3 ⟨rfl,h3⟩;have bi:=h_ (Qb_ ai.o h3);have b5:=h_ (bv.o.next h3);have b9:=h_ (ar.o.next h3);clear q0 q1 q2 q3 q4 A h3 bl ai bv ar;have cI:=bi.o.size;have ak:=h_ (show SpA w w3.heap.size w.heap.size (pcC P.m A0 NL c0 A1 P.l1.length c1 A2 P.l2.length c2 A3 P.l3.length c3) (Ui_ P.l0) o s [([],0)] a NL ca (some ⟨w3.heap.size+1+1,0,none⟩) 1 1 (((w3.alloc (C_ #[I_ j_ o,I_ j_ s] 182)).alloc (C_ #[] 3)).alloc (C_ #[S_ (some ⟨w3.heap.size+1,0,none⟩) 0 0,I_ j_ 0] 185))from
  ⟨⟨a4,((b9.o.alloc _).alloc _).alloc _⟩,by
   have h:=Qc3_ (w3.alloc (C_ #[I_ j_ o,I_ j_ s] 182)) (B:=w.heap.size) so_;rw[ws_]at h;exact h,((Blk.new _ _ _).alloc _).alloc _,((b5.o.alloc _).alloc _).alloc _,((bi.o.alloc cI _).alloc so_ _).alloc so_ _,cI⟩)
 have ce:=h_ (show HeapR P [([],0)]from fun x hx=>by obtain rfl:=ms1_.1 hx;exact⟨lz_ _,fun y hy=>by cases hy⟩);have cg:=h_ (show ValR P (Ui_ P.l0)/\(Ui_ P.l0).length=P.l0.length from⟨bg.o,aS.o⟩);go_wp2;clear bi b5 b9;generalize w3.heap.size=gC at *;go_loopg [8,10,11] N (fun gh xb xh xp wr=>∃(n p:Nat) (best:LI) (co cs:Int) (hl:List SSt) (Ab:OA) (nb cb:Nat) (Ah:OA) (nh ch:Nat),xb=S_ Ab nb cb/\xh=S_ Ah nh ch/\xp=I_ j_ p/\p+n=N/\n<=gh/\hl.length<=1+3 * p/\Hid (KJ_ P n best (co,cs) hl=R)/\Hid (SpA w gC w.heap.size (pcC P.m A0 NL c0 A1 P.l1.length c1 A2 P.l2.length c2 A3 P.l3.length c3) best co cs hl Ab nb cb Ah nh ch wr)/\Hid (HeapR P hl)/\Hid (ValR P best/\best.length=P.l0.length))
 case atStart=>exact⟨N,0,Ui_ P.l0,o,s,[([],0)],a,NL,ca,some ⟨gC+1+1,0,none⟩,1,1,rfl,rfl,rfl,oo,lr_ _,lr_ _,bE,ak,ce,cg⟩
 case round=>
  clear bE ak ce cg bg aS;obtain⟨n,p,best,co,cs,hl,Ab,nb,cb,Ah,nh,ch,rfl,rfl,rfl,dJ,dF,dm,HE,Y,cf,HV⟩:=hrel;have O:=Y.o.heap.len;rw[O]at dm;have cE:=Y.o.best.1;by_cases h0:nh=0
  ·subst h0;obtain rfl:hl=[]:=ln_ O;have aE:Hid (R=(best,1)):=h_ (by rw[<-HE.o];cases n<;>rfl);have cZ:=h_ Y.o.best.2;clear O;go_wp2_with (at_builtin;refine kq_ (.tmp 118) (.tmp 119) cZ rfl rfl er_ er_ oo ?_;intro A5 c5 w5 aD aU)
   go_ret2;exact⟨A5,nb,c5,Qd1_ (by rw[aE.o]),cE,by rw[aE.o];exact aD.o.more Y.o.old.size,Qb_ Y.o.old aU.o⟩
  ·by_cases cC:n=0
   ·subst cC;have aE:Hid (R=(best,2)):=h_ (by rw[<-HE.o];unfold KJ_;rw[in_ (fun e=>by rw[e]at O;exact h0 O.symm)]);clear O;have dG:0 < nh:=oo;obtain rfl:p=N:=oo;go_wp2;go_ret2;exact⟨Ab,nb,cb,Qd1_ (by rw[aE.o]),cE,by rw[aE.o];exact Y.o.best.2,Y.o.old⟩
   ·obtain⟨m,rfl⟩:∃m,n=m+1:=⟨n - 1,oo⟩;obtain⟨k,rfl⟩:∃k,nh=k+1:=⟨nh - 1,oo⟩;obtain⟨ds,Z,H⟩:=Y.o.heap;obtain⟨g,rfl,dh,_,_,bc,dy,dj⟩:=H.blk oo;obtain⟨⟨⟨a0,n0,k0⟩,D,s0⟩,bR⟩:∃d,ds[0]? =some d:=⟨_,gE (by have:=H.len;omega)⟩;have bS:hl[0]? =some (D,s0):=(by rw[<-Z,List.getElem?_map,bR];rfl);have F:=h_ ((G4_ (P:=P) (m:=m) (best:=best) (cost:=(co,cs)) bS).symm.trans HE.o);have ay:=h_ (cf.o _ (lm_ bS));have av:=h_ (show HeapR P (Vr_ hl)from cf.o.pop);have bD:=h_ (j2_ w.heap.size g k ch ds a0 n0 k0 D s0 wr H bR oo);rw[Z]at bD;have dI:(p:Int) < (N:Int):=oo;have dH:(p:Int)<=100000:=oo;have cA:gC < wr.heap.size:=Y.o.cost.lt;clear Z H bR bS dj O h0 cC;go_wp2_with fail
    refine bD.o.mono ?_;rintro e w5 ⟨rfl,cG,cz,a3⟩;have af:=h_ (Y.o.pushed (Ah:=some ⟨g,0,none⟩) a3 cG);have dk:g < w5.heap.size:=ll_ bc a3.size;have cB:gC < w5.heap.size:=ll_ cA a3.size;have f:=h_ (af.o.next (br.alloc (lr_ _) (C_ #[S_ a0 n0 k0,I_ j_ s0] 185)));have C:=h_ (Blk.new w5 185 #[S_ a0 n0 k0,I_ j_ s0]);have aq:=h_ (cz.next (br.alloc (lr_ _) (C_ #[S_ a0 n0 k0,I_ j_ s0] 185)));obtain⟨q0,q1,q2,q3,q4,A⟩:=Vp_ af.o.pc;clear bD Y cG cz a3 af bc;go_upto_region 14 with fail
    clear q0 q1 q2 q3 q4 A;generalize w5.alloc (C_ #[S_ a0 n0 k0,I_ j_ s0] 185)=W7 at *;generalize w5.heap.size=gx at *;obtain⟨q0,q1,q2,q3,q4,A⟩:=Vp_ f.o.pc;have x0:W7.cell? ⟨gx,0,none⟩=some (S_ a0 n0 k0):=C.o.cell 0;have xl:=C.o.lt;have az:D.length=n0:=K2_ aq.o.2.rd;by_cases hf:n0=NL
    ·subst hf;rw[ip_ (az.trans aj.o.symm)]at F;have bo:=h_ (aY.o W7 f.o.old a0 n0 k0 D aq.o.2.rd ay.o az);have b3:=h_ (az.trans aj.o.symm);obtain⟨⟨I,T⟩,aK⟩:=ex_ (P.cost D);rw[aK]at bo F;clear aK az;go_wp2_with fail
     refine bo.o.mono ?_;rintro e w8 ⟨rfl,h8⟩;have aX:=h_ (show Below w8.heap.size w8 (w8.alloc (C_ #[I_ j_ I,I_ j_ T] 182))from Ql_ br);have G:=h_ ((f.o.next h8).next aX.o);have aC:=h_ ((aq.o.2.next h8).next aX.o);have ae:=h_ ((C.o.next h8).next aX.o);have al:=h_ (Blk.new w8 182 #[I_ j_ I,I_ j_ T]);clear h8 aX bo f aq C q0 q1 q2 q3 q4 A x0 xl;go_upto_region 16 with fail
     generalize w8.alloc (C_ #[I_ j_ I,I_ j_ T] 182)=W9 at *;generalize w8.heap.size=gy at *;have e0:W9.cell? ⟨gy,0,none⟩=some (I_ j_ I):=al.o.cell 0;have e1:W9.cell? ⟨gy,1,none⟩=some (I_ j_ T):=al.o.cell 1;have b0:W9.cell? ⟨gC,0,none⟩=some (I_ j_ co):=G.o.cost.cell 0;have b1:W9.cell? ⟨gC,1,none⟩=some (I_ j_ cs):=G.o.cost.cell 1;have ag:=al.o.lt;have L:=G.o.cost.lt;have ap:=h_ (Uu_ I T co cs W9);have ac:=h_ (fun W (h:Below W9.heap.size W9 W)=>Vu_ a0 n0 k0 D Ab nb cb best W oo oo (aC.o.rd.next h) (G.o.best.2.rd.next h))
     cases M:KQ_ (I,T) (co,cs)with
     |true=>
      rw[M]at ap;have HY:=h_ (vu_ (v:=D) (u:=best) M);clear M;go_wp2_with fail
      refine ap.o.mono ?_;intro e Q aG;obtain⟨rfl,l⟩:=aG.below;have b:=h_ (G.o.next l);have U:=h_ (aC.o.next l);have E:=h_ (ae.o.next l);have r:=h_ (al.o.next l);clear aG l e0 e1 b0 b1 ag L G aC ae al ap ac;have e0:Q.cell? ⟨gy,0,none⟩=some (I_ j_ I):=r.o.cell 0;have e1:Q.cell? ⟨gy,1,none⟩=some (I_ j_ T):=r.o.cell 1;have b0:Q.cell? ⟨gC,0,none⟩=some (I_ j_ co):=b.o.cost.cell 0;have b1:Q.cell? ⟨gC,1,none⟩=some (I_ j_ cs):=b.o.cost.cell 1;have ag:=r.o.lt;have L:=b.o.cost.lt;have bf:=b.o.cost.frozen;have x0:Q.cell? ⟨gx,0,none⟩=some (S_ a0 n0 k0):=E.o.cell 0;have xl:=E.o.lt;have HK:=h_ (b.o.keep ⟨a4,U.o⟩ I T);go_wp2;go_roundg m
      case measure=>omega
      case rel=>
       have hs:=F.o;rw[HY.o,ip_ rfl]at hs;have aM:=b.o.heap.len;exact⟨m,p+1,D,I,T,Vr_ hl,a0,n0,k0,some ⟨g,0,none⟩,k,ch,rfl,rfl,by go_num,oo,lr_ _,oo,h_ hs,HK,av,h_ ⟨ay.o,b3.o⟩⟩
     |false=>
      rw[M]at ap;go_wp2_with fail
      refine ap.o.mono ?_;intro e Q aG;obtain⟨rfl,l⟩:=aG.below;have b:=h_ (G.o.next l);have U:=h_ (aC.o.next l);have E:=h_ (ae.o.next l);have r:=h_ (al.o.next l);have ac:=h_ (ac.o _ l);clear aG l e0 e1 b0 b1 ag L G aC ae al ap;have e0:Q.cell? ⟨gy,0,none⟩=some (I_ j_ I):=r.o.cell 0;have e1:Q.cell? ⟨gy,1,none⟩=some (I_ j_ T):=r.o.cell 1;have b0:Q.cell? ⟨gC,0,none⟩=some (I_ j_ co):=b.o.cost.cell 0;have b1:Q.cell? ⟨gC,1,none⟩=some (I_ j_ cs):=b.o.cost.cell 1;have ag:=r.o.lt;have L:=b.o.cost.lt;have x0:Q.cell? ⟨gx,0,none⟩=some (S_ a0 n0 k0):=E.o.cell 0;have xl:=E.o.lt;by_cases aJ:(I,T)=(co,cs)
      ·injection aJ with h1 h2;subst h1;subst h2;obtain⟨cm,aI⟩:=ex_ (X0_ D best);rw[aI]at ac;by_cases cr:cm < 0
       ·have HY:=h_ (show Zd_ (I,T) D (I,T) best=true by rw[Uz_ M,aI,dt_ cr]);clear M aI;go_wp2_with fail
        refine ac.o.mono ?_;rintro e S ⟨rfl,z⟩;have i:=h_ (b.o.next z);have a7:=h_ (U.o.next z);have ad:=h_ (E.o.next z);have J:=h_ (r.o.next z);clear b U E r z e0 e1 b0 b1 ag L x0 xl ac;have e0:S.cell? ⟨gy,0,none⟩=some (I_ j_ I):=J.o.cell 0;have e1:S.cell? ⟨gy,1,none⟩=some (I_ j_ T):=J.o.cell 1;have b0:S.cell? ⟨gC,0,none⟩=some (I_ j_ I):=i.o.cost.cell 0;have b1:S.cell? ⟨gC,1,none⟩=some (I_ j_ T):=i.o.cost.cell 1;have ag:=J.o.lt;have L:=i.o.cost.lt;have x0:S.cell? ⟨gx,0,none⟩=some (S_ a0 n0 k0):=ad.o.cell 0;have xl:=ad.o.lt;have bf:=i.o.cost.frozen;have HK:=h_ (i.o.keep ⟨a4,a7.o⟩ I T);go_wp2;go_roundg m
        case measure=>omega
        case rel=>
         have hs:=F.o;rw[HY.o,ip_ rfl]at hs;have aM:=i.o.heap.len;exact⟨m,p+1,D,I,T,Vr_ hl,a0,n0,k0,some ⟨g,0,none⟩,k,ch,rfl,rfl,by go_num,oo,lr_ _,oo,h_ hs,HK,av,h_ ⟨ay.o,b3.o⟩⟩
       ·have HY:=h_ (show Zd_ (I,T) D (I,T) best=false by rw[Uz_ M,aI,df_ cr]);clear M aI;go_wp2_with fail
        refine ac.o.mono ?_;rintro e S ⟨rfl,z⟩;have i:=h_ (b.o.next z);have a7:=h_ (U.o.next z);have ad:=h_ (E.o.next z);have J:=h_ (r.o.next z);clear b U E r z e0 e1 b0 b1 ag L x0 xl ac;have e0:S.cell? ⟨gy,0,none⟩=some (I_ j_ I):=J.o.cell 0;have e1:S.cell? ⟨gy,1,none⟩=some (I_ j_ T):=J.o.cell 1;have b0:S.cell? ⟨gC,0,none⟩=some (I_ j_ I):=i.o.cost.cell 0;have b1:S.cell? ⟨gC,1,none⟩=some (I_ j_ T):=i.o.cost.cell 1;have ag:=J.o.lt;have L:=i.o.cost.lt;have x0:S.cell? ⟨gx,0,none⟩=some (S_ a0 n0 k0):=ad.o.cell 0;have xl:=ad.o.lt;go_wp2;go_roundg m
        case measure=>omega
        case rel=>
         have hs:=F.o;rw[HY.o,in_ sm_]at hs;have aM:=i.o.heap.len;exact⟨m,p+1,best,I,T,Vr_ hl,Ab,nb,cb,some ⟨g,0,none⟩,k,ch,rfl,rfl,by go_num,oo,lr_ _,oo,h_ hs,i,av,HV⟩
      ·have HY:=h_ (vv_ (v:=D) (u:=best) M aJ);by_cases h1:I=co
       ·subst h1;have di:(T==cs)=false:=(by rw[bn_];exact fun e=>aJ (by rw[e]));clear M aJ;go_wp2;go_roundg m
        case measure=>omega
        case rel=>
         have hs:=F.o;rw[HY.o,in_ sm_]at hs;have aM:=b.o.heap.len;exact⟨m,p+1,best,I,cs,Vr_ hl,Ab,nb,cb,some ⟨g,0,none⟩,k,ch,rfl,rfl,by go_num,oo,lr_ _,oo,h_ hs,b,av,HV⟩
       ·have di:(I==co)=false:=(by rw[bn_];exact h1);clear M aJ;go_wp2;go_roundg m
        case measure=>omega
        case rel=>
         have hs:=F.o;rw[HY.o,in_ sm_]at hs;have aM:=b.o.heap.len;exact⟨m,p+1,best,co,cs,Vr_ hl,Ab,nb,cb,some ⟨g,0,none⟩,k,ch,rfl,rfl,by go_num,oo,lr_ _,oo,h_ hs,b,av,HV⟩
    ·have bT:D.length < P.l0.length:=(by have:=ay.o.1;have:=aj.o;omega);rw[in_ oo]at F;obtain⟨⟨dv,dc⟩,hd⟩:∃d,P.l0[D.length]? =some d:=⟨_,List.getElem?_eq_getElem bT⟩;have dq:dv<=3:=a1.o.few _ (lm_ hd);have dA:1<=dv:=(a1.o.rule _ (lm_ hd)).1;rw[JZ_ hd]at F;obtain⟨q,rfl⟩:=eo_ (show 0<=dv from oo);dsimp only at F;rw[it_]at F;have aZ:=h_ hd;have b8:=h_ bT;have cj:=h_ az;have bA:=h_ (show n0 < NL by have:=aj.o;omega);have dC:=f.o.heap.len;have X:=h_ (show ∀g',(some (⟨g,0,none⟩:Addr)).map (·.block)=some g'->g'≠gx from fun g' e=>by
      have e2:g=g':=(by injection e);omega)
     have dE:((n0:Int)==(NL:Int))=false:=(by rw[bn_];omega);have dD:n0<=7:=(by have:=bA.o;omega);clear az hf bT;go_upto_region 20 with fail
     clear q0 q1 q2 q3 q4 A x0 xl;obtain⟨ga,fa,eA,aH,cx,cy⟩:=Xo_ (cd.o.next f.o.old).r0 b8.o aZ.o;subst eA;clear aH cx cy;go_loopw [10,16] (fun xh x wr=>∃(j:Nat) (Ah:OA) (nh ch:Nat),j<=q/\x=I_ j_ j/\xh=S_ Ah nh ch/\nh<=k+j/\Hid (SpA w gC w.heap.size (pcC P.m (some ⟨ga,fa,none⟩) NL c0 A1 P.l1.length c1 A2 P.l2.length c2 A3 P.l3.length c3) best co cs (Jr_ P (co,cs) D (Vr_ hl) j) Ab nb cb Ah nh ch wr)/\Hid (Blk wr gx 185 #[S_ a0 n0 k0,I_ j_ s0])/\Hid (Mine wr w.heap.size 3 1 a0 n0 k0 (Qa_ D))/\Hid (∀g,Ah.map (·.block)=some g->g≠gx)) (fun _ x _=>q - (intOf x).toNat)
     case atStart=>exact⟨0,some ⟨g,0,none⟩,k,ch,lz_ _,rfl,rfl,oo,f,C,h_ aq.o.2,X⟩
     case round=>
      clear f C aq X dk cA cB dh;obtain⟨j,Ah,nh,ch,dB,rfl,rfl,dr,Y,HS,HM,X⟩:=hrel;obtain⟨q0,q1,q2,q3,q4,A⟩:=Vp_ Y.o.pc;obtain⟨df,de,eA,aH,cx,cy⟩:=Xo_ (cd.o.next Y.o.old).r0 b8.o aZ.o;rw[cj.o]at cx cy;obtain⟨rfl,rfl⟩:ga=df/\fa=de:=(by injection eA with e;injection e with e1 e2;exact⟨e1,e2⟩);clear eA;have cD:(n0:Int) < (NL:Int):=(by have:=bA.o;omega);have x0:wr.cell? ⟨gx,0,none⟩=some (S_ a0 n0 k0):=HS.o.cell 0;have xl:=HS.o.lt;by_cases hk:j < q
      ·have c4:=h_ (ay.o.snoc a1.o (by rw[cj.o,aj.o];exact bA.o) aZ.o (q:=j) (by rw[it_];exact hk));have dl:(j:Int) < (q:Int):=oo;go_upto_region 22 with fail
       clear cx cy aH cD q0 q1 q2 q3 q4 A;go_upto_region 23 with(at_builtin;first|(refine kq_ (.tmp 88) (.tmp 90) HM rfl rfl er_ er_ oo ?_;intro dt dx dK ar ai;have cq:=ai.o.size)|(refine Uy_ (.tmp 91) (.tmp 93) ar cq rfl rfl er_ er_ oo ?_;intro A5 c5 dn aD cX aU))
       have bI:=h_ (aU.o _ ai.o);have ak:=h_ (Y.o.next bI.o);obtain⟨q0,q1,q2,q3,q4,A⟩:=Vp_ ak.o.pc;have bm:=h_ (bj.o dn ak.o.old A5 (n0+1) c5 (D++[(j:Int)]) aD.o.rd c4.o);obtain⟨bd,bP⟩:=ex_ (P.bound (D++[(j:Int)]));rw[show YX_ P.l0 P.l1 P.l2 (D++[(j:Int)])=bd from bP]at bm;have aV:=h_ bP;clear bP aU ai ar cq x0 xl;go_wp2_with fail
       refine bm.o.mono ?_;rintro e w6 ⟨rfl,b6⟩;have ck:=h_ (Qb_ bI.o b6);have af:=h_ (ak.o.next b6);have bx:=h_ (aD.o.next b6);clear q0 q1 q2 q3 q4 A bm ak aD bI cX b6;obtain⟨q0,q1,q2,q3,q4,A⟩:=Vp_ af.o.pc;have bn:=h_ (bF.o w6 af.o.old A5 (n0+1) c5 (D++[(j:Int)]) bx.o.rd oo);obtain⟨tv,bV⟩:=ex_ (K5_ P.l3 (D++[(j:Int)]));rw[bV]at bn;have bG:=h_ bV;clear bV;go_wp2_with fail
       refine bn.o.mono ?_;rintro e w7 ⟨rfl,b7⟩;have cl:=h_ (Qb_ ck.o b7);have f:=h_ (af.o.next b7);have cc:=h_ (bx.o.next b7);have C:=h_ (HS.o.next cl.o);have ax:=h_ (HM.o.next cl.o);clear q0 q1 q2 q3 q4 A bn af bx ck b7;obtain⟨q0,q1,q2,q3,q4,A⟩:=Vp_ f.o.pc;have bZ:=h_ Y.o.old.size;clear Y HS HM;have x0:w7.cell? ⟨gx,0,none⟩=some (S_ a0 n0 k0):=C.o.cell 0;have xl:=C.o.lt;have b0:w7.cell? ⟨gC,0,none⟩=some (I_ j_ co):=f.o.cost.cell 0;have b1:w7.cell? ⟨gC,1,none⟩=some (I_ j_ cs):=f.o.cost.cell 1;have L:=f.o.cost.lt
       cases tv with
       |false=>
        have bC:=h_ (qK_ (P:=P) (cost:=(co,cs)) (h:=Vr_ hl) (.inl bG.o));go_wp2;go_roundw
        case rel=>exact⟨j+1,Ah,nh,ch,oo,by go_num,rfl,oo,h_ (by rw[bC.o];exact f.o),C,ax,X⟩
        case measure=>simp[intOf];omega
       |true=>
        by_cases an:co=0
        ·by_cases bQ:cs < bd
         ·have bC:=h_ (qK_ (P:=P) (cost:=(co,cs)) (h:=Vr_ hl) (x:=D) (k:=j) (.inr ⟨an,by rw[aV.o];exact bQ⟩));have ct:(co==0)=true:=(by rw[beq_iff_eq];exact an);clear an;go_wp2;go_roundw
          case rel=>exact⟨j+1,Ah,nh,ch,oo,by go_num,rfl,oo,h_ (by rw[bC.o];exact f.o),C,ax,X⟩
          case measure=>simp[intOf];omega
         ·have K:=h_ (UK_ (P:=P) (cost:=(co,cs)) (h:=Vr_ hl) (x:=D) (k:=j) (fun e=>e.elim (fun e=>by rw[bG.o]at e;cases e) (fun e=>bQ (by rw[<-aV.o];exact e.2))));rw[aV.o]at K;have ct:(co==0)=true:=(by rw[beq_iff_eq];exact an);have dz:decide (cs < bd)=false:=df_ bQ;clear an;obtain⟨ds,Z,H⟩:=f.o.heap;rw[<-Z]at K;have bp:=h_ H.1;have bz:=h_ H;have bq:=h_ (show HIn w.heap.size w7 ((A5,n0+1,c5),(D++[(j:Int)],bd))from⟨by dsimp only;omega,cc.o.more bZ.o⟩);have bk:=h_ f.o.old.size;clear Z H;go_wp2_with fail
          refine(Ua_ w.heap.size Ah nh ch ds A5 (n0+1) c5 (D++[(j:Int)]) bd w7 bz.o bq.o oo bk.o).mono ?_;rintro e w8 h8;obtain⟨g8,c8,rfl,aL,aa,aO⟩:=h8;have G:=h_ (f.o.pushed aa aL);have ah:∀g,Ah.map (·.block)=some g->∃cs,Blk w7 g 185 cs:=fun g e=>Qw_ bp.o e
          have ae:=h_ (C.o.grown aa (fun e=>X.o _ e.symm rfl));have bH:=h_ (ax.o.grown aa (fun g e=>.inr (fun e2=>by
           obtain⟨da,b1⟩:=ah _ e;obtain⟨db,b2⟩:=Qw_ ax.o e2;exact Kj_ b2 b1 dc_ rfl)))
          have bB:Hid (∀g,(some (⟨g8,0,none⟩:Addr)).map (·.block)=some g->g≠gx):=h_ (fun g e=>by
           have e2:g8=g:=(by injection e);rcases aO with h|h
           ·exact e2 ▸ X.o _ h
           ·have:=C.o.lt;omega)
          clear aa aL aO ah q0 q1 q2 q3 q4 A b0 b1 x0 xl L;go_wp2;go_roundw
          case rel=>exact⟨j+1,some ⟨g8,0,none⟩,nh+1,c8,oo,by go_num,rfl,oo,h_ (by rw[K.o];exact G.o),ae,bH,bB⟩
          case measure=>simp[intOf];omega
        ·have K:=h_ (UK_ (P:=P) (cost:=(co,cs)) (h:=Vr_ hl) (x:=D) (k:=j) (fun e=>e.elim (fun e=>by rw[bG.o]at e;cases e) (fun e=>an e.1)));rw[aV.o]at K;have ct:(co==0)=false:=(by rw[bn_];exact an);obtain⟨ds,Z,H⟩:=f.o.heap;rw[<-Z]at K;have bp:=h_ H.1;have bz:=h_ H;have bq:=h_ (show HIn w.heap.size w7 ((A5,n0+1,c5),(D++[(j:Int)],bd))from⟨by dsimp only;omega,cc.o.more bZ.o⟩);have bk:=h_ f.o.old.size;clear Z H;go_wp2_with fail
         refine(Ua_ w.heap.size Ah nh ch ds A5 (n0+1) c5 (D++[(j:Int)]) bd w7 bz.o bq.o oo bk.o).mono ?_;rintro e w8 h8;obtain⟨g8,c8,rfl,aL,aa,aO⟩:=h8;have G:=h_ (f.o.pushed aa aL);have ah:∀g,Ah.map (·.block)=some g->∃cs,Blk w7 g 185 cs:=fun g e=>Qw_ bp.o e
         have ae:=h_ (C.o.grown aa (fun e=>X.o _ e.symm rfl));have bH:=h_ (ax.o.grown aa (fun g e=>.inr (fun e2=>by
          obtain⟨da,b1⟩:=ah _ e;obtain⟨db,b2⟩:=Qw_ ax.o e2;exact Kj_ b2 b1 dc_ rfl)))
         have bB:Hid (∀g,(some (⟨g8,0,none⟩:Addr)).map (·.block)=some g->g≠gx):=h_ (fun g e=>by
          have e2:g8=g:=(by injection e);rcases aO with h|h
          ·exact e2 ▸ X.o _ h
          ·have:=C.o.lt;omega)
         clear aa aL aO ah q0 q1 q2 q3 q4 A b0 b1 x0 xl L;go_wp2;go_roundw
         case rel=>exact⟨j+1,some ⟨g8,0,none⟩,nh+1,c8,oo,by go_num,rfl,oo,h_ (by rw[K.o];exact G.o),ae,bH,bB⟩
         case measure=>simp[intOf];omega
      ·obtain rfl:q=j:=oo;have dl:(q:Int) < (q:Int)↔False:=sm_;go_wp2;go_roundg m
       case measure=>omega
       case rel=>
        have aM:=Y.o.heap.len;have ho:=xl_ (P:=P) (cost:=(co,cs)) (x:=D) (h:=Vr_ hl) q;exact⟨m,p+1,best,co,cs,Jr_ P (co,cs) D (Vr_ hl) q,Ab,nb,cb,Ah,nh,ch,rfl,rfl,by go_num,oo,lr_ _,oo,F,Y,h_ (av.o.open_ a1.o ay.o aZ.o (lr_ _)),HV⟩
theorem Gy_ {ps:List PN} {l:LI} {i:Nat} {v:Int} (h:l[i]? =some v):(l.take (i+1)).map (QE_ ps)=(l.take i).map (QE_ ps)++[QE_ ps v]:=by
 rw[List.take_add_one,h,List.map_append];rfl
theorem Qa3_ (D:BD) (hi:D.imp=true) (ps:List PN) (f:Nat) (Y:Nps D.w0 D.A D.n ps) (X:PNs ps) (aO:f<=D.n) (hN:KidC 224 D ps f) (Q:Uh_ 2000000 ps (QR_ ps f)) (A':OA) (c':Nat) (l:LI) (q:Nat) (t:BA) (z:Bool) (s:Pb) (a:Int) (W:World) (hm:l.length<=11) (hr:Rd D.w0 1 A' (l.length+1) (Qa_ (l++[(q:Int)]))) (av:l.length+1<=c')
  (hv:Hid (∀v∈l,0<=v/\v < (f:Int))) (hq:(q < f/\q<=900)/\QI_ (Qc_ ps (q:Int))) (ha:0<=a/\a<=40) (P:s.chunks.length<=79) (hC:BdC D s W) (C:s.text.size+wS 2000000 ps (fnE ps (l++[(q:Int)]) a)<=Xj_):
  Calls prog 251 #[P_ (some ⟨D.T,0,none⟩),A_ #[I_ j_ 9,T_ t,S_ A' (l.length+1) c',B_ z],I_ j_ a] W (YW_ D W (U_ #[]) (VL_ (QR_ ps f) (s,-1) (fnE ps (l++[(q:Int)]) a)).1):=by
 obtain⟨fin,g⟩:=ex_ ((VL_ (QR_ ps f) (s,-1) (fnE ps (l++[(q:Int)]) a)).1);rw[g];have U:fnE ps (l++[(q:Int)]) a=[.put (⟨#[40]⟩++Q5_ (l.map (QE_ ps))++⟨#[41,32,61,62]⟩),.rule 2 2,.split 1 true a,.kid (q:Int) a]:=by
  have e1:(l++[(q:Int)]).length - 1=l.length:=by simp
  have e2:(l++[(q:Int)]).take l.length=l:=by simp
  have e3:(l++[(q:Int)]).getD l.length 0=(q:Int):=by simp
  unfold fnE;rw[e1,e2,e3]
 rw[U]at g C;have R:Below W.heap.size W (W.alloc (C_ #[I_ j_ 9,T_ t,S_ A' (l.length+1) c',B_ z] 96)):=grow_;have H:=h_ (show Bt 224 D ps f fin (W.alloc (C_ #[I_ j_ 9,T_ t,S_ A' (l.length+1) c',B_ z] 96)) s (-1) [.put (⟨#[40]⟩++Q5_ (l.map (QE_ ps))++⟨#[41,32,61,62]⟩),.rule 2 2,.split 1 true a,.kid (q:Int) a] (W.alloc (C_ #[I_ j_ 9,T_ t,S_ A' (l.length+1) c',B_ z] 96))from⟨hC.next R,g,C,Kb.refl _,hN,Q,P⟩);have HR:=h_ hr;have HP:=h_ Y;have al:=h_ (show ∀k:Int,(QE_ ps k).size<=1048576 from fun k=>Yt_ X _);have y:=h_ (Below.refl (W.alloc (C_ #[I_ j_ 9,T_ t,S_ A' (l.length+1) c',B_ z] 96)).heap.size (W.alloc (C_ #[I_ j_ 9,T_ t,S_ A' (l.length+1) c',B_ z] 96)));have B:=h_ (show Mine (W.alloc (C_ #[I_ j_ 9,T_ t,S_ A' (l.length+1) c',B_ z] 96)) (W.heap.size+1) 9 1 none 0 0 (Qm_ ((l.take 0).map (QE_ ps)))from Mine.mk_nil _ _ _ _);have HQ:=h_ hq;have aA:=hq.1.1;have aQ:=hq.1.2;obtain⟨ap,aq⟩:=ha;obtain⟨b5,m,rfl⟩:=ZC_ HR.o oo;obtain⟨j,E⟩:=ex_ l.length;have n:=h_ E;have J:=h_ (fun(Z:World) (C:Below D.w0.heap.size D.w0 Z) (i:Nat) (v:Int) (hd:(l++[(q:Int)])[i]? =some v)=>QO_ HR.o C (by have:=(gs_.1 hd).1;simpa using this) hd);have M:=h_ (fun(Z:World) (C:Below D.w0.heap.size D.w0 Z)=>ZU_ HR.o C oo);rw[E]at hm H B y av |-
 clear hC C g U hN Q hr Y X R P hq E;have aN:(j:Int)<=(c':Int):=oo;have HX:=h_ (Blk.new W 96 #[I_ j_ 9,T_ t,S_ (some ⟨b5,m,none⟩) (j+1) c',B_ z]);go_enter func251,ntmps251;go_wp2;go_loopw [7,20] (fun o x wr=>∃(i:Nat) (A:OA) (c:Nat),i<=j/\x=I_ j_ i/\o=S_ A i c/\Hid (Mine wr (W.heap.size+1) 9 1 A i c (Qm_ ((l.take i).map (QE_ ps))))/\Hid (Below (W.alloc (C_ #[I_ j_ 9,T_ t,S_ (some ⟨b5,m,none⟩) (j+1) c',B_ z] 96)).heap.size (W.alloc (C_ #[I_ j_ 9,T_ t,S_ (some ⟨b5,m,none⟩) (j+1) c',B_ z] 96)) wr)/\Hid (Blk wr W.heap.size 96 #[I_ j_ 9,T_ t,S_ (some ⟨b5,m,none⟩) (j+1) c',B_ z])) (fun _ x _=>j - (intOf x).toNat)
 case atStart=>exact⟨0,none,0,lz_ _,rfl,rfl,B,y,HX⟩
 case round=>
  clear B y HX;obtain⟨i,A,c,aP,rfl,rfl,HM,HB,HX⟩:=hrel;have ar:W.heap.size+1<=wr.heap.size:=by have:=HB.o.size;simpa using this
  have F:=h_ (H.o.next HB.o);by_cases h1:i < j
  ·obtain⟨v,hd⟩:∃d,l[i]? =some d:=⟨_,gE (by rw[n.o];exact h1)⟩;obtain⟨aB,aR⟩:=hv.o v (lm_ hd);obtain⟨p,rfl⟩:=eo_ aB;have V:p < D.n:=oo;have b:=F.o.C.old;have ck:=J.o wr b i (p:Int) (by rw[List.getElem?_append_left (by rw[n.o];exact h1)];exact hd);have cl:=M.o wr b;obtain⟨_,un,_,aS⟩:=F.o.C.ti hi;obtain⟨x,hx⟩:=HP.o.get V;obtain⟨bn,aK,An,cn,eD,S,_,y1,_⟩:=HP.o.atc V hx;rw[eD]at un;have T:=(QW_ b).1;have yn:=(T _ _ S).trans y1;have aJ:=ll_ S b.size;have N:=h_ (Gy_ (ps:=ps) hd);have an:=h_ (show QE_ ps (p:Int)=x.text by unfold QE_;rw[it_,X7_ hx]);rw[an.o]at N;clear hd y1 T hx eD b;go_wp2_with (at_builtin;refine XW_ (.tmp 24) (.tmp 33) HM ar rfl rfl er_ er_ oo ?_;intro A5 c5 w5 ak ai ag)
   go_roundw
   case rel=>exact⟨i+1,A5,c5,oo,by go_num,rfl,by rw[N.o];exact ak,h_ (by have h:=HB.o;rw[ws_]at h |-; exact ag.o _ h),h_ (ai.o.2 _ _ _ HX.o dc_)⟩
   case measure=>simp[intOf];omega
  ·obtain rfl:j=i:=oo;have HJ:=h_ (show(l.take j).map (QE_ ps)=l.map (QE_ ps)by rw[List.take_of_length_le (Nat.le_of_eq n.o)]);have L:=h_ (fun W2 (hb:Below wr.heap.size wr W2)=>vT_ A j c (l.map (QE_ ps)) W2 oo (by rw[<-HJ.o];exact HM.o.rd.next hb) (fun t ht=>by obtain⟨u,_,rfl⟩:=List.mem_map.1 ht;exact al.o u) (Mine.cap HM.o));have aa:=F.o.size;simp only[wB,Xj_,bs_]at aa;have e4:(⟨#[40]⟩:BA).size=1:=rfl;have e5:(⟨#[41,32,61,62]⟩:BA).size=4:=rfl;have ax:¬9223372036854775807 < 1+(Q5_ (l.map (QE_ ps))).size:=oo;have ay:¬9223372036854775807 < 1+(Q5_ (l.map (QE_ ps))).size+4:=oo;have az:¬9223372036854775807 < s.text.size+(1+(Q5_ (l.map (QE_ ps))).size+4):=oo;obtain⟨xt,xf,xz⟩:=F.o.C.tx;clear e4 e5 aa;go_upto_region 8 with fail
   have aH:wr.drew.cell? ⟨D.T,6,none⟩=some (T_ s.text):=xt
   go_region_with (go_at_call 180;refine(L.o _ (by exact br.drew)).mono ?_;rintro e w8 ⟨rfl,h8⟩;have I:=h_ (F.o.next (br.drew.trans h8));have ah:=h_ (Qb_ HB.o (br.drew.trans h8));have X8:=I.o.C.tx.1;have aG:=I.o.C.tx.2.1;have aI:=I.o.C.tx.2.2)
   all_goals
    have H9:=h_ I.o.put;clear I X8 aG aI ah h8 L F xt xf xz aH ax ay az;generalize w8.setCell ⟨D.T,6,none⟩ (T_ (s.text++(⟨#[40]⟩++Q5_ (l.map (QE_ ps))++⟨#[41,32,61,62]⟩)))=W9 at *;generalize s.put (⟨#[40]⟩++Q5_ (l.map (QE_ ps))++⟨#[41,32,61,62]⟩)=s9 at *;go_wp2_with fail
    refine Bt.irule hi H9 ?_;intro aL G aD;clear H9 aD;go_wp2_with fail
    refine Bt.isplit hi G rfl ?_;intro O r aE;clear G aE;have K:=r.o.box;have x2:=K.q2;have xg:=K.lt;have b:=r.o.C.old;have ck:=J.o O b j (q:Int) (by rw[List.getElem?_append_right (by rw[n.o];exact lr_ _),n.o];simp);have cl:=M.o O b;clear K b;go_wp2_with fail
    refine Bt.kid r aA HQ.o.2 ap oo oo ?_ (fun _=>aq);intro aM af aF;clear r aF;rw[hi];go_wp2;go_end0;have h2:=af.o.fin_;exact⟨rfl,h2.1,Zc_ h2.2⟩
theorem Qfo_ (D:BD) (hi:D.imp=true) (ps:List PN) (m f j:Nat) (t:BA) (z:Bool) (a:Int) (s:Pb) (W:World) (l:LI) (q:Nat) (h:VIn 224 D ps m f j ⟨9,t,l++[(q:Int)],z⟩ a s W) (n:QI_ (Qc_ ps (q:Int))):
  Calls prog 224 #[P_ (some ⟨D.T,0,none⟩),I_ j_ (j:Int),I_ j_ a] W (YW_ D W (I_ j_ (-1)) (QR_ ps (f+1) j (min a 40) s)):=by
 obtain⟨b,off,A',c',eD,r,y0,y1,o,y3,k,c⟩:=h.at_;have g:(⟨9,t,l++[(q:Int)],z⟩:PN).kids.length=l.length+1:=by show(l++[(q:Int)]).length=_;simp
 rw[g]at o k c;clear g;obtain⟨_,un,uf,uz⟩:=h.hC.ti hi;rw[eD]at un;have x:j < D.n:=by have:=h.lt;have:=h.hn;omega
 have i:j<=300:=by have:=h.lt;have:=h.hF.few;omega
 have ha:=h.ha;have p:=h.h40 hi;have HK:=h_ h.kids;have HV:=h_ h;have d:l.length<=11:=by have:=h.few;simp only[lA,List.length_cons,List.length_nil]at this;omega
 replace y0:W.cell? ⟨b,off+j * 4,none⟩=some (I_ j_ 9):=y0;replace y1:W.cell? ⟨b,off+j * 4+1,none⟩=some (T_ t):=y1;replace o:W.cell? ⟨b,off+j * 4+2,none⟩=some (S_ A' (l.length+1) c'):=o;replace y3:W.cell? ⟨b,off+j * 4+3,none⟩=some (B_ z):=y3;rw[show min a 40=a from oo];have hq:=h.kids (q:Int) sm_;have HL:=h_ (Qa3_ D hi ps f h.hps h.hpn h.hfn h.hN h.light A' c' l q t z s (min (a+4) 40) (W.alloc (C_ #[I_ j_ 9,T_ t,S_ A' (l.length+1) c',B_ z] 96)) d k c (h_ (fun v hv=>(HK.o v (List.mem_append_left _ hv)).1)) ⟨⟨oo,oo⟩,n⟩ ⟨oo,oo⟩ h.h79 (h.hC.next grow_) (h.weight a));rw[show(VL_ (QR_ ps f) (s,-1) (fnE ps (l++[(q:Int)]) (min (a+4) 40))).1=QR_ ps (f+1) j a s from(KX_ h.hx a s).symm]at HL;clear h eD k hq;go_enter func224,ntmps224;go_wp2_with fail
 refine HL.o.mono ?_;rintro e w2 ⟨rfl,h2,h3⟩;have H2:=h_ h2;have H3:=h_ h3;clear h2 h3;go_wp2;go_ret;exact⟨rfl,H2.o,Zc_ H3.o⟩
theorem jt_ (D:BD) (hi:D.imp=true) (ps:List PN) (m:Nat) (n:Nps D.w0 D.A D.n ps) (hF:TreeF ps m) (k:PNs ps) (hn:D.n=m+1):∀f,f<=m+1->KidC 224 D ps f:=by
 intro f
 induction f with
 |zero=>intro _ j s a W hj;omega
 |succ f ih=>
  intro p j s a W hj b ha i e g hC hZ;obtain⟨x,o⟩:∃x,ps[j]? =some x:=⟨_,gE (by rw[hF.tree.len];omega)⟩;rw[Qr_ o]at b;have h:VIn 224 D ps m f j x a s W:=⟨n,hF,k,hn,o,hj,oo,b,ih oo,ha,i,e,g,hC,hZ⟩;have d:retB D.imp (ownN ps j s)=I_ j_ (if x.kind=7\/x.kind=8 then Q4_ s else -1):=by
   rw[hi];unfold ownN;rw[X7_ o];rfl
  rw[d];have hV:=h.form;have c:=fun(v:Int) hv=>((h.kids v hv).1.1:(0:Int)<=v)
  obtain⟨kd,t,l,z⟩:=x;simp only at hV c
  cases hV with
  |leaf q hq=>
   rcases hq with rfl|rfl|rfl
   ·exact jq_ D hi ps m f j t z a s W h
   ·exact jr_ D hi ps m f j t z a s W h
   ·exact js_ D hi ps m f j t z a s W h
  |list l hl=>exact Qa6_ D hi ps m f j t z a s W l h hl
  |call v l h0 hl=>
   obtain⟨q,rfl⟩:=eo_ (c v sm_);exact Qa4_ D hi ps m f j t z a s W q l h h0 hl
  |dot v h0=>
   obtain⟨q,rfl⟩:=eo_ (c v sm_);exact Qc6_ D hi ps m f j t z a s W q h h0
  |chain l h2 hl=>exact jp_ D hi ps m f j t z a s W l h hl
  |pick a1 b1 c1 hl=>exact Qa7_ D hi ps m f j t z a s W [a1,b1,c1] h hl (h_ rfl)
  |fn l v h0 hnm=>
   obtain⟨q,rfl⟩:=eo_ (c v sm_);exact Qfo_ D hi ps m f j t z a s W l q h h0
  |casc v l h1 h0 hl=>
   obtain⟨q,rfl⟩:=eo_ (c v sm_);exact Qa5_ D hi ps m f j t z a s W q l h h0 hl h1
  |par v h0=>
   obtain⟨q,rfl⟩:=eo_ (c v sm_);exact Qc7_ D hi ps m f j t z a s W q h h0
theorem QiG_ (t:BA):Lib.hasSuffix t.data.toList [61]=YZ_ t:=by
 unfold YZ_
 cases h:t.data.toList.getLast? with
 |none=>
  rw[List.getLast?_eq_none_iff.1 h]
  rfl
 |some c=>
  obtain⟨ys,hy⟩:=List.getLast?_eq_some_iff.1 h;rw[hy];simp only[Lib.hasSuffix,List.isSuffixOf,List.reverse_append,List.reverse_singleton,List.singleton_append,List.isPrefixOf,Bool.and_true];exact BEq.comm
theorem Qc2_ (t:BA) (s:Bool) (hs:YZ_ t=s) (ht:t.size<=4194304) (w:World):
  Calls prog 177 #[T_ t,T_ ⟨#[61]⟩] w (RS_ (B_ s) w):=by
 refine(Tryz.strings_HasSuffix t ⟨#[61]⟩ w oo).mono ?_;rintro e w' ⟨he,hw⟩;exact⟨by rw[he];exact Qg_ ((QiG_ t).trans hs),hw.symm⟩
theorem kK_ (t:BA) (w:World) (h1:t.size<=40) (hp:QV_ t=true):Calls prog 221 #[T_ t] w (RS_ (B_ true) w):=by
 have HP:=h_ (YE_ t w mx_);rw[hp]at HP;have hI:(t.size:Int)<=40:=oo;clear hp;go_enter func221,ntmps221;go_wp2_with fail
 refine HP.o.mono ?_;rintro e w1 ⟨rfl,rfl⟩;go_wp2;go_ret;exact⟨rfl,rfl⟩
theorem qz_ (A:OA) (n c:Nat) (ps:List PN) (k:Nat) (w:World) (hn:n<=1048576) (a:Nps w A n ps) (hb:Hid (PNs ps)) (d:k < n) (f:QI_ (Qc_ ps (k:Int))) (hd:1<=Kt_ ps k):
  Calls prog 220 #[S_ A n c,I_ j_ (k:Int)] w (RB_ (B_ true) w):=by
 have HN:=h_ (Ym_ (n:=n) (show inB (k:Int) 0 ((n:Int) - 1)=true from dt_ oo) A c w);obtain⟨x,hx⟩:=a.get d;have HV:=h_ (Z0_ x.kind w);rw[Qr_ hx]at f;rw[show Qk_ x.kind=true from dt_ f]at HV;have HD:=h_ (JL_ A n c ps k w hn a hb d);obtain⟨b,off,A',c',eD,g,y0,y1,y2,y3⟩:=a.atc d hx;clear a f;have h:(0:Int) < Kt_ ps k:=oo;subst eD;go_enter func220,ntmps220;go_wp2_with fail
 refine HN.o.mono ?_;rintro e w1 ⟨rfl,rfl⟩;go_wp2_with fail
 refine HV.o.mono ?_;rintro e w1 ⟨rfl,rfl⟩;go_wp2_with fail
 refine HD.o.mono ?_;rintro e w1 ⟨rfl,h1⟩;go_wp2;go_ret;exact⟨rfl,h1⟩
structure PcN (P:Hn) (B:Nat) (A0 A1 A2 A3:OA) (c0 c1 c2 c3:Nat) (w:World):Prop where
 r0:Mine w B 192 2 A0 P.l0.length c0 (P.l0.flatMap Q0_)
 r1:Mine w B 178 5 A1 P.l1.length c1 (P.l1.flatMap Qo_)
 r2:Mine w B 213 3 A2 P.l2.length c2 (P.l2.flatMap QJ_)
 r3:Mine w B 215 2 A3 P.l3.length c3 (P.l3.flatMap KF_)
theorem PcN.pcM {P:Hn} {B:Nat} {A0 A1 A2 A3:OA} {c0 c1 c2 c3:Nat} {w:World} (h:PcN P B A0 A1 A2 A3 c0 c1 c2 c3 w):PcM P A0 A1 A2 A3 w:=⟨h.r0.rd,h.r1.rd,h.r2.rd,h.r3.rd⟩
theorem PcN.more {P:Hn} {B B':Nat} {A0 A1 A2 A3:OA} {c0 c1 c2 c3:Nat} {w:World} (h:PcN P B A0 A1 A2 A3 c0 c1 c2 c3 w) (a:B'<=B):PcN P B' A0 A1 A2 A3 c0 c1 c2 c3 w:=⟨h.r0.more a,h.r1.more a,h.r2.more a,h.r3.more a⟩
def PcoR (P:Hn) (w:World) (e:Ending) (w':World):Prop:=∃A0 A1 A2 A3 c0 c1 c2 c3,e=R_ (U_ #[A_ (pcCells P A0 A1 A2 A3 c0 c1 c2 c3),B_ true])/\PcN P w.heap.size A0 A1 A2 A3 c0 c1 c2 c3 w'/\Below w.heap.size w w'
theorem BdC.start {D:BD} {w:World} {a:BA} (hT:D.w0.heap.size<=D.T) (hb:Blk w D.T (bty D.imp) (Kh_ D.imp D.m D.A D.n D.c (S_ none 0 0) (S_ none 0 0) (S_ none 0 0) (S_ none 0 0) a)) (ho:Below D.w0.heap.size D.w0 w):BdC D (J9_ a) w:=
 ⟨none,0,none,0,none,0,none,0,⟨hb,Mine.mk_nil _ _ _ _,Mine.mk_nil _ _ _ _,Mine.mk_nil _ _ _ _,Mine.mk_nil _ _ _ _,hT,ho⟩⟩
theorem Bt.start {F:FuncId} {D:BD} {ps:List PN} {m k:Nat} {a:BA} {w:World} (hC:BdC D (J9_ a) w) (hN:KidC F D ps (m+1)) (hF:TreeF ps m) (hp:PNs ps) (h1:a.size<=40) (h3:Kk_ ps k<=300):Bt F D ps (m+1) (XZ_ ps (m+1) a (k:Int)) w (J9_ a) (-1) (evP a (k:Int)) w:=by
 refine⟨hC,rfl,?_,Kb.refl _,hN,xV_ oo hF hp (m+1),lz_ _⟩;have h2:=zr_ 2000000 ps a k;have h5:Kk_ ps k * 2000000<=300 * 2000000:=Nat.mul_le_mul_right _ h3;show a.size+_<=_;unfold Xj_;omega
theorem QfG_ {w:World} {B:Nat} {e:TypeId} {z:Nat} {A:OA} {n c:Nat} {xs:List Value} {g:Nat} {t:TypeId} {cs:Array Value} (h:Mine w B e z A n c xs) (hb:Blk w g t cs) (a:t≠e) (b d f i v4:Value):Mine (((((w.setCell ⟨g,0,none⟩ b).setCell ⟨g,1,none⟩ d).setCell ⟨g,2,none⟩ f).setCell ⟨g,3,none⟩ i).setCell ⟨g,4,none⟩ v4) B e z A n c xs:=by
 have b1:=hb.set_ 0 b;have b2:=b1.set_ 1 d;have b3:=b2.set_ 2 f;have b4:=b3.set_ 3 i;exact((((h.far_set hb a 0 b).far_set b1 a 1 d).far_set b2 a 2 f).far_set b3 a 3 i).far_set b4 a 4 v4
theorem Qcv_ {w0 w:World} {g:Nat} (h:Below w0.heap.size w0 w) (a:w0.heap.size<=g) (v0 v1 v2 v3 v4:Value):Below w0.heap.size w0 (((((w.setCell ⟨g,0,none⟩ v0).setCell ⟨g,1,none⟩ v1).setCell ⟨g,2,none⟩ v2).setCell ⟨g,3,none⟩ v3).setCell ⟨g,4,none⟩ v4):=
 ((((h.setCell a v0).setCell a v1).setCell a v2).setCell a v3).setCell a v4
theorem PcN.put5 {P:Hn} {B:Nat} {A0 A1 A2 A3:OA} {c0 c1 c2 c3:Nat} {w:World} (h:PcN P B A0 A1 A2 A3 c0 c1 c2 c3 w) {g:Nat} {cs:Array Value} (f:Blk w g 149 cs) (a b c d e:Value):PcN P B A0 A1 A2 A3 c0 c1 c2 c3 (((((w.setCell ⟨g,0,none⟩ a).setCell ⟨g,1,none⟩ b).setCell ⟨g,2,none⟩ c).setCell ⟨g,3,none⟩ d).setCell ⟨g,4,none⟩ e):=
 ⟨QfG_ h.r0 f dc_ a b c d e,QfG_ h.r1 f dc_ a b c d e,QfG_ h.r2 f dc_ a b c d e,QfG_ h.r3 f dc_ a b c d e⟩
theorem BdA.pcN {D:BD} {fin:Pb} {b tx:BA} {a width:Int} {A0 A1 A2 A3:OA} {c0 c1 c2 c3:Nat} {w:World} (h:BdA D ⟨fin.rules,fin.chunks++[(fin.text++b,0,0,false,0)],fin.spans,fin.ties,tx⟩ A0 c0 A1 c1 A2 c2 A3 c3 w):PcN (hnOf fin b a width) D.w0.heap.size A0 A1 A2 A3 c0 c1 c2 c3 w:=⟨h.r0,h.r1,h.r2,h.r3⟩
theorem Qcr_ {e:Array Oper} {rest:List Oper} {o:Oper} {a:Act} {Q:Exit->Act->World->Prop} (s x:Operand) {B:Nat} {w1:World} {A:OA} {b c:Nat} {xs:List ChunkD} {t:BA}
  (HM:Hid (Mine w1 B 178 5 A b c (xs.flatMap Qo_))) (hB:B<=w1.heap.size) (f:o.guard=none) (ho:o.op=.call { callee:=.builtin .append,args:=#[s,x],argTypes:=#[145,145] }) (hs:a.eval s=S_ A b c) (hx:a.eval x=S_ (some ⟨w1.heap.size,0,none⟩) 1 1) (k:b<=100000)
  (h:∀A' c' w',Hid (w'.ownsRow B 178 5 (S_ A' (b+1) c') (b+1) (xs.flatMap Qo_++Qo_ (t,0,0,false,0)))->Hid ((w1.alloc (C_ #[T_ t,I_ j_ 0,I_ j_ 0,B_ false,I_ j_ 0] 178)).grownBy w' (S_ A b c).ownBlock)->wpList prog e Q rest (a.put o.dst (S_ A' (b+1) c')) w'):wpList prog e Q (o::rest) a (w1.alloc (C_ #[T_ t,I_ j_ 0,I_ j_ 0,B_ false,I_ j_ 0] 178)):=by
 obtain⟨i0,hi,g,i,j⟩:=info_parts Vh_;refine wpList_append_own _ f s x _ ho B 178 i0 (A_ #[T_ ⟨#[]⟩,I_ j_ 0,I_ j_ 0,B_ false,I_ j_ 0]) 5 48 underlying145 hi g i j rfl dc_ (S_ A b c) b (xs.flatMap Qo_) hs (Mine.alloc HM.o _) ⟨w1.heap.size,0,none⟩ 1 1 (Qo_ (t,0,0,false,0)) hx rfl (World.news_of_block (cs:=#[T_ t,I_ j_ 0,I_ j_ 0,B_ false,I_ j_ 0]) (t:=178) (fr:=(0,0)) (heap_alloc_new w1 _)) (Vc_ _) mx_ oo so_ ?_;intro v' w5 d hg _;obtain⟨A5,c5,rfl,_⟩:=Mine.of d;exact h A5 c5 w5 d hg
theorem qp_ (Q:Wp) (G:Wk Q) (A:OA) (c:Nat) (k:Nat) (j f:BA) (a:Int) (w:World) (ar:Nps w A (Q.m+1) Q.ps) (N:k < Q.m+1) (hv:QI_ (Qc_ Q.ps (k:Int))) (hp:QV_ j=true) (h1:j.size<=40) (hq:QV_ f=true) (h2:f.size<=40) (ha:0<=a/\a<=60) (E:Kk_ Q.ps k<=300):
  Calls prog 222 #[S_ A (Q.m+1) c,I_ j_ (k:Int),T_ j,T_ f,I_ j_ a] w (PcoR (KZ_ Q j (k:Int) f a) w):=by
 have HR:=h_ (UM_ G 2100000 (lr_ _) ([],1) ha hp h1 h2 (k:=(k:Int)) ⟨oo,oo⟩ hv (by rw[it_];exact E)).1;have L:=h_ (show okP (KZ_ Q j (k:Int) f a)=true from qM_ (VD_ G.F (lr_ _) hp N hv) ha hq);have Z:=h_ (show(XZ_ Q.ps (Q.m+1) j (k:Int)).text.size<=1000000000 from by
  have h3:=UO_ G.F G.P (Q.m+1) j k;have h5:Kk_ Q.ps k * 2000000<=300 * 2000000:=Nat.mul_le_mul_right _ E;unfold tot at h3;omega)
 have I:(XZ_ Q.ps (Q.m+1) j (k:Int)).chunks.length<=79:=(VD_ G.F (lr_ _) hp N hv).c79;unfold KZ_ at HR L;have ab:=G.F.few;obtain⟨t,v⟩:=ex_ (w.alloc (C_ #[I_ j_ 0,S_ none 0 0,S_ none 0 0,S_ none 0 0,S_ none 0 0] 149));have ah:=h_ (show Blk t w.heap.size 149 #[I_ j_ 0,S_ none 0 0,S_ none 0 0,S_ none 0 0,S_ none 0 0]by rw[<-v];exact Blk.new _ _ _);have ac:t.heap.size=w.heap.size+1:=by rw[<-v,ws_]
 have af:=h_ (show Below w.heap.size w t by rw[<-v];exact Ql_ br);have Y:=h_ (show Nps t A (Q.m+1) Q.ps by rw[<-v];exact ar.alloc _);obtain⟨W1,H⟩:=ex_ (t.alloc (C_ #[I_ j_ a,S_ none 0 0,S_ none 0 0,S_ none 0 0,S_ none 0 0,S_ A (Q.m+1) c,T_ j,B_ true] 225));have S:=h_ (show BdC ⟨true,w.heap.size+1,a,A,Q.m+1,c,t⟩ (J9_ j) W1 from BdC.start (D:=⟨true,w.heap.size+1,a,A,Q.m+1,c,t⟩) (Nat.le_of_eq ac) (by rw[<-H,<-ac];exact Blk.new t 225 _) (by rw[<-H];exact Ql_ br));have M:=h_ (Bt.start S.o (jt_ ⟨true,w.heap.size+1,a,A,Q.m+1,c,t⟩ rfl Q.ps Q.m Y.o G.F G.P rfl (Q.m+1) (lr_ _)) G.F G.P h1 E);obtain⟨ps,o⟩:=ex_ Q.ps;obtain⟨m,y⟩:=ex_ Q.m;rw[o,y]at HR L Z M I;rw[show KZ_ Q j (k:Int) f a=hnOf (XZ_ ps (m+1) j (k:Int)) f a Q.width by unfold KZ_;rw[o,y]];rw[o]at hv Y;rw[y]at N ab H Y;rw[y];rw[y]at S;clear o y ar G hp hq;obtain⟨D,hD⟩:∃D:BD,(⟨true,w.heap.size+1,a,A,m+1,c,t⟩:BD)=D:=⟨_,rfl⟩;have hi:D.imp=true:=by rw[<-hD]
 have ak:=h_ (show D.T=w.heap.size+1 by rw[<-hD]);have V:=h_ (show D.w0=t by rw[<-hD]);have aF:=h_ (show D.m=a by rw[<-hD]);rw[hD]at M;clear hD S;obtain⟨fin,J⟩:=ex_ (XZ_ ps (m+1) j (k:Int));rw[J]at HR L Z M |-
 have aE:=h_ (show fin.chunks.length<=79 by rw[<-J];exact I);clear J I;have aH:=h_ (fun W=>Qc2_ j (YZ_ j) rfl oo W);go_enter func222,ntmps222;go_upto_region 3 with fail
 try rw[v]
 try rw[H]
 clear v H ac;rw[<-ak.o];go_wp2_with fail
 refine(aH.o _).mono ?_;rintro e w1 ⟨rfl,rfl⟩
 go_upto_if 21 with fail
 go_cut [12] (fun x wx=>x=P_ (some ⟨D.T,0,none⟩)/\∃(s:Pb) (r:Int),Hid (Bt 224 D ps (m+1) fin W1 s r [.kid (k:Int) 0] wx))
 case first=>
  cases he:YZ_ j with
  |true=>
   rw[show evP j (k:Int)=[.rule 2 2,.split 1 true 4,.kid (k:Int) 0]by unfold evP;rw[ip_ he];rfl]at M;clear he;go_wp2_with fail
   refine Bt.irule hi M ?_;intro a4 aC aO;clear M aO;go_wp2_with fail
   refine Bt.isplit hi aC rfl ?_;intro a5 HT a6;go_wp2;go_meet;exact⟨rfl,_,_,HT⟩
  |false=>
   rw[show evP j (k:Int)=[.kid (k:Int) 0]by unfold evP;rw[in_ (by rw[he];simp)];rfl]at M;clear he;go_wp2;go_meet;exact⟨rfl,_,_,M⟩
 case rest=>
 obtain⟨rfl,s0,r0,HT⟩:=hcut;clear M;go_wp2_with fail
 refine Bt.kid HT N hv oo oo rfl ?_ (fun _=>oo);intro B ae aP;clear HT aP;obtain⟨A0,c0,A1,c1,A2,c2,A3,c3,hA⟩:=ae.o.fin_.1;have O:=h_ hA;have P:=h_ (ah.o.next (by have:=hA.old;rw[V.o]at this;exact this));clear hA ae;obtain⟨x0,x1,x2,x3,xn,xt,xb,xf,xz⟩:=O.o.icells hi;have aL:=Z.o;have aN:¬9223372036854775807 < fin.text.size+f.size:=oo;have a3:=aE.o;have X:=h_ O.o.r1;have ao:D.w0.heap.size<=B.heap.size:=O.o.old.size;have aq:D.fo 1=2:=by unfold BD.fo;rw[hi];rfl
 have HP:=h_ (fun(v':Value) (w3:World) h1 h2=>O.o.app1 (i:=2) aq (show Below B.heap.size B (B.alloc (C_ #[T_ (fin.text++f),I_ j_ 0,I_ j_ 0,B_ false,I_ j_ 0] 178))from Ql_ br) (d:=(fin.text++f,0,0,false,0)) (v':=v') (w3:=w3) h1 h2);have ag:=h_ (fun(w3:World) (hg:(B.alloc (C_ #[T_ (fin.text++f),I_ j_ 0,I_ j_ 0,B_ false,I_ j_ 0] 178)).grownBy w3 (S_ A1 fin.chunks.length c1).ownBlock)=>(P.o.alloc _).grown hg (fun e=>by
  obtain⟨cs,b⟩:=Qw_ X.o (g:=w.heap.size) (by cases A1<;>first|(simp[Value.ownBlock]at e;done)|(simpa[Value.ownBlock]using e.symm));exact Kj_ P.o b dc_ rfl))
 clear aq;go_upto_region 8 with(at_builtin;refine Qcr_ (.tmp 29) (.tmp 35) X ao rfl rfl er_ er_ oo ?_;intro z C w5 al K;have F:=(O.o.grown (Ql_ br) O.o.r1 (w3:=w5) K.o (Ne.symm (YY_ D.imp).2.2.1) dc_).1;have ai:=h_ (ag.o _ K.o);rw[hi]at F;have j5:w5.cell? ⟨D.T,2,none⟩=some (S_ A1 fin.chunks.length c1):=F.cell 2;have jf:=F.frozen;have jz:=F.lt;have HW:=h_ (HP.o _ _ al.o K.o);clear F)
 obtain⟨A',c',ev,aJ,ap,aK⟩:=HW.o;injection ev with ev1 ev2 ev3;subst ev1;subst ev3;have R:=h_ ap;have aM:w.heap.size≠D.T:=by rw[ak.o];omega
 have aj:=h_ (ai.o.far (p:=⟨D.T,2,none⟩) aM (S_ z (fin.chunks.length+1) C));clear ev2 aJ ap aK HW ai P O X HP ag al K j5 jf jz x0 x1 x2 x3 xn xt xb xf xz aL aN ao;generalize w5.setCell ⟨D.T,2,none⟩ (S_ z (fin.chunks.length+1) C)=W6 at *;have am:=h_ (show Calls prog 247 #[A_ #[I_ j_ a,S_ A0 fin.rules.length c0,S_ z (fin.chunks.length+1) C,S_ A2 fin.spans.length c2,S_ A3 fin.ties.length c3]] W6 (RB_ (B_ true) W6)from by
  have h:=JM_ (hnOf fin f a Q.width) A0 z A2 A3 c0 C c2 c3 W6 ⟨R.o.r0.rd,R.o.r1.rd,R.o.r2.rd,R.o.r3.rd⟩ HR.o L.o;unfold pcCells at h;rw[show(hnOf fin f a Q.width).l1.length=fin.chunks.length+1 by show(_++[_]).length=_;simp]at h;exact h)
 have U:=h_ (fun(W:World) (h:Below W6.heap.size W6 W)=>(show Blk W D.T (bty true) #[I_ j_ a,S_ A0 fin.rules.length c0,S_ z (fin.chunks.length+1) C,S_ A2 fin.spans.length c2,S_ A3 fin.ties.length c3,S_ D.A D.n D.c,T_ fin.text,B_ true]from by
  have n:=R.o.blk.next h;unfold Kh_ at n;rw[hi,aF.o]at n;rw[lA]at n;exact n))
 have n:=U.o W6 br;have y0:=n.q0;have y1:=n.q1;have y2:=n.q2;have y3:=n.q3;have y4:=n.q4;have yz:=n.lt;clear n;go_wp2_with fail
 refine am.o.mono ?_;rintro e w7 ⟨rfl,h7⟩;have T:=h_ (R.o.next h7);have l:=h_ (aj.o.next h7);have n:=U.o w7 h7;clear y0 y1 y2 y3 y4 yz h7 R aj am U;have y0:=n.q0;have y1:=n.q1;have y2:=n.q2;have y3:=n.q3;have y4:=n.q4;have yz:=n.lt;have z0:=l.o.q0;have z1:=l.o.q1;have z2:=l.o.q2;have z3:=l.o.q3;have z4:=l.o.q4;have zf:=l.o.frozen;have zz:=l.o.lt;clear n;go_wp2;have q:=h_ (((((l.o.set_ 0 (I_ j_ a)).set_ 1 (S_ A0 fin.rules.length c0)).set_ 2 (S_ z (fin.chunks.length+1) C)).set_ 3 (S_ A2 fin.spans.length c2)).set_ 4 (S_ A3 fin.ties.length c3));have hC:=T.o;have aG:=h_ (((hC.pcN (a:=a) (width:=Q.width)).more (show w.heap.size<=D.w0.heap.size by have:=af.o.size;rw[V.o];exact this)).put5 l.o (I_ j_ a) (S_ A0 fin.rules.length c0) (S_ z (fin.chunks.length+1) C) (S_ A2 fin.spans.length c2) (S_ A3 fin.ties.length c3));have aD:=h_ (Qcv_ (Qb_ af.o (by have h:=T.o.old;rw[V.o]at h;exact h)) (lr_ _) (I_ j_ a) (S_ A0 fin.rules.length c0) (S_ z (fin.chunks.length+1) C) (S_ A2 fin.spans.length c2) (S_ A3 fin.ties.length c3));clear y0 y1 y2 y3 y4 yz z0 z1 z2 z3 z4 zf zz l T hC;generalize ((((w7.setCell ⟨w.heap.size,0,none⟩ (I_ j_ a)).setCell ⟨w.heap.size,1,none⟩ (S_ A0 fin.rules.length c0)).setCell ⟨w.heap.size,2,none⟩ (S_ z (fin.chunks.length+1) C)).setCell ⟨w.heap.size,3,none⟩ (S_ A2 fin.spans.length c2)).setCell ⟨w.heap.size,4,none⟩ (S_ A3 fin.ties.length c3)=W9 at *;have z0:W9.cell? ⟨w.heap.size,0,none⟩=some (I_ j_ a):=q.o.cell 0;have z1:W9.cell? ⟨w.heap.size,1,none⟩=some (S_ A0 fin.rules.length c0):=q.o.cell 1;have z2:W9.cell? ⟨w.heap.size,2,none⟩=some (S_ z (fin.chunks.length+1) C):=q.o.cell 2;have z3:W9.cell? ⟨w.heap.size,3,none⟩=some (S_ A2 fin.spans.length c2):=q.o.cell 3;have z4:W9.cell? ⟨w.heap.size,4,none⟩=some (S_ A3 fin.ties.length c3):=q.o.cell 4;have zz:=q.o.lt;refine bodyPost_ret (by simp[results,Tryz.results222,go_sem,z0,z1,z2,z3,z4];try rfl) rfl ?_;refine⟨A0,z,A2,A3,c0,C,c2,c3,?_,aG.o,aD.o⟩;unfold pcCells;rw[show(hnOf fin f a Q.width).l1.length=fin.chunks.length+1 by show(_++[_]).length=_;simp]
 rfl
theorem U2_ (Q:Wp) (K:Wk Q) (A:OA) (c:Nat) (k:Nat) (f b:BA) (a:Int) (w:World) (y:Nps w A (Q.m+1) Q.ps) (i:k < Q.m+1) (X:QI_ (Qc_ Q.ps (k:Int))) (U:QV_ f=true) (h1:f.size<=40) (V:QV_ b=true) (h2:b.size<=40) (R:0<=a/\a<=60) (J:Kk_ Q.ps k<=300):
  Calls prog 176 #[S_ A (Q.m+1) c,I_ j_ (k:Int),T_ f,T_ b,I_ j_ a] w (PcoR (KZ_ Q f (k:Int) b a) w):=by
 have q:=K.F.few;obtain⟨x,hx⟩:=y.get i;have hd:=(X1_ K.D i hx).1.1;have O:=h_ (fun(W:World) (h:Nps W A (Q.m+1) Q.ps)=>qz_ A (Q.m+1) c Q.ps k W oo h (h_ K.P) i X hd);have HR:=h_ (fun W=>Q2_ (show inB a 0 60=true from dt_ ⟨R.1,R.2⟩) W);have D:=h_ (fun W=>kK_ f W h1 U);have E:=h_ (fun W=>kK_ b W h2 V);have j:=h_ (fun(W:World) (h:Nps W A (Q.m+1) Q.ps)=>qp_ Q K A c k f b a W h i X U h1 V h2 R J);obtain⟨P,hP⟩:=ex_ (KZ_ Q f (k:Int) b a);rw[hP]at j |-
 have p:Below w.heap.size w (w.alloc (C_ #[I_ j_ 0,S_ none 0 0,S_ none 0 0,S_ none 0 0,S_ none 0 0] 149)):=Ql_ br;have B:=h_ p;have l:=h_ (y.next p);have H:=h_ (Blk.new w 149 #[I_ j_ 0,S_ none 0 0,S_ none 0 0,S_ none 0 0,S_ none 0 0]);clear y K hx hd X U V hP p;obtain⟨n,hn⟩:=ex_ (Q.m+1);rw[hn]at O j l i |-
 clear hn q;go_enter func176,ntmps176;go_wp2_with fail
 refine(O.o _ l.o).mono ?_;rintro e w1 ⟨rfl,L⟩;have m:=h_ (Qb_ B.o L);have G:=h_ (l.o.next L);have o:=h_ (H.o.next L);clear B l H L;go_wp2_with fail
 refine(HR.o _).mono ?_;rintro e w2 ⟨rfl,rfl⟩;go_wp2_with fail
 refine(D.o _).mono ?_;rintro e w2 ⟨rfl,rfl⟩;go_wp2_with fail
 refine(E.o _).mono ?_;rintro e w2 ⟨rfl,rfl⟩;go_wp2_with fail
 refine(j.o _ G.o).mono ?_;rintro e z ⟨A0,A1,A2,A3,c0,c1,c2,c3,rfl,hm,S⟩;unfold pcCells;have d:=h_ (o.o.next S);have F:=h_ (hm.more m.o.size);have C:=h_ (Qb_ m.o S);have T:=o.o.lt;clear hm S m G o O HR D E j;obtain⟨n0,r⟩:=ex_ P.l0.length;obtain⟨n1,s⟩:=ex_ P.l1.length;obtain⟨n2,t⟩:=ex_ P.l2.length;obtain⟨n3,v⟩:=ex_ P.l3.length;have HE:=h_ (show pcCells P A0 A1 A2 A3 c0 c1 c2 c3=#[I_ j_ P.m,S_ A0 n0 c0,S_ A1 n1 c1,S_ A2 n2 c2,S_ A3 n3 c3]by unfold pcCells;rw[r,s,t,v]);rw[r,s,t,v];have g:=h_ (((((d.o.set_ 0 (I_ j_ P.m)).set_ 1 (S_ A0 n0 c0)).set_ 2 (S_ A1 n1 c1)).set_ 3 (S_ A2 n2 c2)).set_ 4 (S_ A3 n3 c3));have N:=h_ (F.o.put5 d.o (I_ j_ P.m) (S_ A0 n0 c0) (S_ A1 n1 c1) (S_ A2 n2 c2) (S_ A3 n3 c3));have M:=h_ (Qcv_ C.o (lr_ _) (I_ j_ P.m) (S_ A0 n0 c0) (S_ A1 n1 c1) (S_ A2 n2 c2) (S_ A3 n3 c3));have Y:z.cell? ⟨w.heap.size,0,none⟩=some (I_ j_ 0):=d.o.cell 0;have Z:z.cell? ⟨w.heap.size,1,none⟩=some (S_ none 0 0):=d.o.cell 1;have z2:z.cell? ⟨w.heap.size,2,none⟩=some (S_ none 0 0):=d.o.cell 2;have z3:z.cell? ⟨w.heap.size,3,none⟩=some (S_ none 0 0):=d.o.cell 3;have z4:z.cell? ⟨w.heap.size,4,none⟩=some (S_ none 0 0):=d.o.cell 4;have zf:=d.o.frozen;have zz:=d.o.lt;clear d F C T r s t v;go_wp2;clear Y Z z2 z3 z4 zf zz;generalize ((((z.setCell ⟨w.heap.size,0,none⟩ (I_ j_ P.m)).setCell ⟨w.heap.size,1,none⟩ (S_ A0 n0 c0)).setCell ⟨w.heap.size,2,none⟩ (S_ A1 n1 c1)).setCell ⟨w.heap.size,3,none⟩ (S_ A2 n2 c2)).setCell ⟨w.heap.size,4,none⟩ (S_ A3 n3 c3)=I at *;have Y:I.cell? ⟨w.heap.size,0,none⟩=some (I_ j_ P.m):=g.o.cell 0;have Z:I.cell? ⟨w.heap.size,1,none⟩=some (S_ A0 n0 c0):=g.o.cell 1;have z2:I.cell? ⟨w.heap.size,2,none⟩=some (S_ A1 n1 c1):=g.o.cell 2;have z3:I.cell? ⟨w.heap.size,3,none⟩=some (S_ A2 n2 c2):=g.o.cell 3;have z4:I.cell? ⟨w.heap.size,4,none⟩=some (S_ A3 n3 c3):=g.o.cell 4;have zz:=g.o.lt;refine bodyPost_ret (by simp[results,Tryz.results176,go_sem,Y,Z,z2,z3,z4];try rfl) rfl ?_;exact⟨A0,A1,A2,A3,c0,c1,c2,c3,by rw[HE.o],N.o,M.o⟩
end Go.Proofs.YtbiijipkgfpgoaaGreatDoor

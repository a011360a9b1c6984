/-
  Put together by program.
-/
import Derived.Test.YtbiijipkgfpgoaaGreatDoorMfU
set_option maxRecDepth 100000
set_option linter.all false
set_option maxHeartbeats 25600000
open Go.Proofs.Tryz
open Go.Value renaming int→I_,slice→S_,string→T_,bool→B_,pointer→P_,agg→A_
open Go.IntKind renaming i64→j_
open Go.Obj renaming cells→C_
namespace Go.Proofs.YtbiijipkgfpgoaaGreatDoor
open Go.RowKit
theorem Qdi_ {t:BA} (h:0 < t.size):t.data.toList.getLast? =some (t[t.size - 1]):=by
 rw[List.getLast?_eq_getElem?,QF_,List.getElem?_eq_getElem (by rw[QF_];omega)]
 rfl
theorem WK_ (Q:Wp) (E:Wk Q) (A:OA) (c:Nat) (k:Nat) (i f:BA) (a:Int) (w:World) (T:Nps w A (Q.m+1) Q.ps) (y:k < Q.m+1) (hv:QI_ (Qc_ Q.ps (k:Int))) (hp:QV_ i=true) (h1:i.size<=40) (hq:QV_ f=true) (h2:f.size<=40) (ha:0<=a/\a<=60) (G:Kk_ Q.ps k<=300):
    Calls prog 113 #[S_ A (Q.m+1) c,I_ j_ (k:Int),T_ i,T_ f,I_ j_ a] w (PcoR (KZ_ Q i (k:Int) f a) w):=by
  have HR:=h_ (UM_ E 2100000 (lr_ _) ([],1) ha hp h1 h2 (k:=(k:Int)) ⟨oo,oo⟩ hv (by rw[it_];exact G)).1;have R:=h_ (show okP (KZ_ Q i (k:Int) f a)=true from qM_ (VD_ E.F (lr_ _) hp y hv) ha hq);have ag:=h_ (show(XZ_ Q.ps (Q.m+1) i (k:Int)).text.size<=1000000000 from by
    have h3:=UO_ E.F E.P (Q.m+1) i k;have h5:Kk_ Q.ps k * 2000000<=300 * 2000000:=Nat.mul_le_mul_right _ G;unfold tot at h3;omega)
  have J:(XZ_ Q.ps (Q.m+1) i (k:Int)).chunks.length<=79:=(VD_ E.F (lr_ _) hp y hv).c79;unfold KZ_ at HR R;have ai:=E.F.few;obtain⟨x,hx⟩:=T.get y;have hd:=(X1_ E.D y hx).1.1;have O:=h_ (fun(W:World) (h:Nps W A (Q.m+1) Q.ps)=>show Calls prog 77 #[S_ A (Q.m+1) c,I_ j_ (k:Int)] W (RB_ (I_ j_ (Kt_ Q.ps k)) W)from by
    have h:=V9_ A (Q.m+1) c Q.ps (k:Int) W oo h (h_ E.P);rwa[show VS_ Q.ps (k:Int)=Kt_ Q.ps k by unfold VS_;rw[ip_ ⟨oo,by rw[T.len];omega⟩,it_]]at h)
  have aF:=h_ (fun W=>show Calls prog 133 #[I_ j_ x.kind] W (RS_ (B_ true) W)from by
    have h:=Zq_ x.kind W;rw[Qr_ hx]at hv;rwa[show Qk_ x.kind=true from dt_ hv]at h)
  have aC:=h_ (fun W=>Ko_ (show inB a 0 60=true from dt_ ⟨ha.1,ha.2⟩) W);have aA:=h_ (fun W=>by have h:=Vl_ i W mx_;rwa[hp]at h);have aB:=h_ (fun W=>by have h:=Vl_ f W mx_;rwa[hq]at h);obtain⟨W0,H⟩:=ex_ (w.alloc (C_ #[I_ j_ 0,S_ none 0 0,S_ none 0 0,S_ none 0 0,S_ none 0 0] 149));have V:=h_ (show Blk W0 w.heap.size 149 #[I_ j_ 0,S_ none 0 0,S_ none 0 0,S_ none 0 0,S_ none 0 0]by rw[<-H];exact Blk.new _ _ _);have ao:=h_ (show Below w.heap.size w W0 by rw[<-H];exact Ql_ br);have P:=h_ (show Nps W0 A (Q.m+1) Q.ps by rw[<-H];exact T.alloc _);have q:=h_ (fun(W:World) (h:Nps W A (Q.m+1) Q.ps)=>h.atc y hx);have S:=h_ (fun(W:World) (h:Nps W A (Q.m+1) Q.ps) (W1:World) (hC:BdC ⟨false,W.heap.size,a,A,Q.m+1,c,W⟩ (J9_ i) W1)=>Bt.start hC (j9_ ⟨false,W.heap.size,a,A,Q.m+1,c,W⟩ rfl Q.ps Q.m h E.F E.P rfl (Q.m+1) (lr_ _)) E.F E.P h1 G);obtain⟨ps,z⟩:=ex_ Q.ps;obtain⟨m,L⟩:=ex_ Q.m;rw[z,L]at HR R ag J S P O q;rw[show KZ_ Q i (k:Int) f a=hnOf (XZ_ ps (m+1) i (k:Int)) f a Q.width by unfold KZ_;rw[z,L]];rw[z]at hv hd;rw[L]at y ai;rw[L];clear z L T E hp hq hx;obtain⟨fin,K⟩:=ex_ (XZ_ ps (m+1) i (k:Int));rw[K]at HR R ag S |-
  have a8:=h_ (show fin.chunks.length<=79 by rw[<-K];exact J);clear K J;obtain⟨dv,aK⟩:=ex_ (Kt_ ps k);rw[aK]at hd O;clear aK;have bl:(dv==0)=false:=by rw[bn_];omega
  have bn:¬(40:Int) < i.size:=oo;have bo:¬(40:Int) < f.size:=oo;go_enter func113,ntmps113;go_upto_region 1 with fail
  try rw[H]
  clear H;go_wp2_with fail
  refine(O.o _ P.o).mono ?_;rintro e w1 ⟨rfl,b1⟩;have ap:=h_ (Qb_ ao.o b1);have ae:=h_ (P.o.next b1);have F:=h_ (V.o.next b1);clear ao P V b1;obtain⟨b,off,A',c',eD,aJ,y0,y1,y2,y3⟩:=q.o _ ae.o;subst eD;go_wp2_with fail
  refine(aF.o _).mono ?_;rintro e w2 ⟨rfl,rfl⟩;go_wp2_with fail
  refine(aC.o _).mono ?_;rintro e w2 ⟨rfl,rfl⟩;go_wp2_with fail
  refine(aA.o _).mono ?_;rintro e w2 ⟨rfl,rfl⟩;go_wp2_with fail
  refine(aB.o _).mono ?_;rintro e w2 ⟨rfl,rfl⟩;go_upto_region 4 with fail
  have HS:=h_ (S.o w1 ae.o (w1.alloc (C_ #[S_ (some ⟨b,off,none⟩) (m+1) c,I_ j_ a,S_ none 0 0,S_ none 0 0,S_ none 0 0,S_ none 0 0,T_ i,B_ false] 172)) (BdC.start (D:=⟨false,w1.heap.size,a,some ⟨b,off,none⟩,m+1,c,w1⟩) (lr_ _) (Blk.new w1 172 _) (Ql_ br)));generalize w1.alloc (C_ #[S_ (some ⟨b,off,none⟩) (m+1) c,I_ j_ a,S_ none 0 0,S_ none 0 0,S_ none 0 0,S_ none 0 0,T_ i,B_ false] 172)=W4 at *;obtain⟨D,hD⟩:∃D:BD,(⟨false,w1.heap.size,a,some ⟨b,off,none⟩,m+1,c,w1⟩:BD)=D:=⟨_,rfl⟩;have hi:D.imp=false:=by rw[<-hD]
  have az:=h_ (show D.T=w1.heap.size by rw[<-hD]);have ac:=h_ (show D.w0=w1 by rw[<-hD]);have a9:=h_ (show D.m=a by rw[<-hD]);rw[hD]at HS;have Y:=h_ F.o.lt;rw[<-az.o];clear hD y0 y1 y2 y3 aJ O aF aC aA aB ae bl hd bn bo;go_cut [67] (fun x wx=>x=B_ (YZ_ i)/\W4=wx)
  case first=>
    by_cases aj:i.size=0
    · obtain rfl:i=⟨#[]⟩:=VY_ (ln_ (by rw[QF_];exact aj))
      go_wp2;go_meet;exact⟨rfl,rfl⟩
    · have ak:0 < i.size:=oo
      have bp:=Qis_ ak;have bK:(!i.toList.isEmpty)=true:=(by rw[List.isEmpty_eq_false_iff.2 bp];rfl);have bN:(1:Int)<=i.size:=oo;by_cases C:i[i.size - 1]=61
      · have ad:=h_ (show YZ_ i=true by unfold YZ_;rw[Qdi_ ak,C];rfl)
        have bd:((i[i.size - 1].toNat:Int)==61)=true:=(by rw[C];rfl);clear C aj;go_wp2;go_meet;exact⟨congrArg B_ ad.o.symm,rfl⟩
      · have ad:=h_ (show YZ_ i=false by unfold YZ_;rw[Qdi_ ak];exact bn_.2 C)
        have bd:((i[i.size - 1].toNat:Int)==61)=false:=by
          rw[bn_];intro e;exact C (UInt8.toNat_inj.1 (by simpa using(show i[i.size - 1].toNat=61 from oo)))
        clear C aj;go_wp2;go_meet;exact⟨congrArg B_ ad.o.symm,rfl⟩
  case rest=>
  obtain⟨rfl,rfl⟩:=hcut
  go_upto_if 67 with fail
  go_cut [12] (fun x wx=>x=P_ (some ⟨D.T,0,none⟩)/\∃(s:Pb) (r:Int),Hid (Bt 137 D ps (m+1) fin W4 s r [.kid (k:Int) 0] wx))
  case first=>
    cases he:YZ_ i with
    |true=>
      rw[show evP i (k:Int)=[.rule 2 2,.split 1 true 4,.kid (k:Int) 0]by unfold evP;rw[ip_ he];rfl]at HS;clear he;go_wp2_with fail
      refine Bt.srule hi HS ?_;intro bL a6 bs;clear HS bs;go_wp2_with fail
      refine Bt.ssplit hi a6 rfl ?_;intro bM HT bO;go_wp2;go_meet;exact⟨rfl,_,_,HT⟩
    |false=>
      rw[show evP i (k:Int)=[.kid (k:Int) 0]by unfold evP;rw[in_ (by rw[he];simp)];rfl]at HS;clear he;go_wp2;go_meet;exact⟨rfl,_,_,HS⟩
  case rest=>
  obtain⟨rfl,s0,r0,HT⟩:=hcut;clear HS;go_wp2_with fail
  refine Bt.kid HT y hv oo oo rfl ?_ (fun e=>absurd (hi.symm.trans e) dc_);intro bc an bv;clear HT bv;have bi:=ag.o;have aE:=h_ (Xh_ D hi fin f bc an.o.fin_.1 (by unfold Xj_;omega));clear an;go_wp2_with fail
  refine aE.o.mono ?_;rintro e j ⟨rfl,be,bx⟩;obtain⟨A0,c0,A1,c1,A2,c2,A3,c3,hA⟩:=be;replace hA:BdA D ⟨fin.rules,fin.chunks,fin.spans,fin.ties,fin.text++f⟩ A0 c0 A1 c1 A2 c2 A3 c3 j:=hA;have U:=h_ hA;have X:=h_ (F.o.next (by have:=hA.old;rw[ac.o]at this;exact this));clear hA aE bx F S q;obtain⟨x0,x1,x2,x3,xn,xt,xb,xf,xz⟩:=U.o.scells hi;dsimp only at x0 x1 x2 x3 xt;have bI:=a8.o;have aL:D.fo 1=3:=by unfold BD.fo;rw[hi];rfl
  obtain⟨i0,aM,aP,aQ,aR⟩:=info_parts Vh_;have HI:=h_ (ai_ aM (ai_ aP (ai_ aQ aR)));have N:Below j.heap.size j (j.alloc (C_ #[T_ (fin.text++f),I_ j_ 0,I_ j_ 0,B_ false,I_ j_ 0] 178)):=Ql_ br;have HM:=h_ (U.o.r1.next N);have aN:(j.alloc (C_ #[T_ (fin.text++f),I_ j_ 0,I_ j_ 0,B_ false,I_ j_ 0] 178)).heap[j.heap.size]? =some (C_ #[T_ (fin.text++f),I_ j_ 0,I_ j_ 0,B_ false,I_ j_ 0] 178 (0,0)):=heap_alloc_new j _;have ay:=h_ (show D.w0.heap.size<=(j.alloc (C_ #[T_ (fin.text++f),I_ j_ 0,I_ j_ 0,B_ false,I_ j_ 0] 178)).heap.size from lt_ U.o.old.size N.size);have aq:=h_ (fun(w3:World) hg=>(U.o.grown N U.o.r1 (w3:=w3) hg (Ne.symm (YY_ D.imp).2.2.1) dc_).1);have HP:=h_ (fun(v':Value) (w3:World) h1 h2=>U.o.app1 aL N (d:=(fin.text++f,0,0,false,0)) (v':=v') (w3:=w3) h1 h2);have ar:=h_ (fun(w3:World) (hg:(j.alloc (C_ #[T_ (fin.text++f),I_ j_ 0,I_ j_ 0,B_ false,I_ j_ 0] 178)).grownBy w3 (S_ A1 fin.chunks.length c1).ownBlock)=>(X.o.alloc _).grown hg (fun e=>by
    obtain⟨cs,b⟩:=Qw_ U.o.r1 (g:=w.heap.size) (by cases A1<;>first|(simp[Value.ownBlock]at e;done)|(simpa[Value.ownBlock]using e.symm));exact Kj_ X.o b dc_ rfl))
  clear aM aP aQ aR N aL;go_upto_region 8 with fail
  go_region_law
    (refine step_append_lies _ rfl (.tmp 83) (.tmp 89) 145 rfl D.w0.heap.size 178 i0 (A_ #[T_ ⟨#[]⟩,I_ j_ 0,I_ j_ 0,B_ false,I_ j_ 0]) 5 48 underlying145 HI.o.1 HI.o.2.1 HI.o.2.2.1 HI.o.2.2.2 rfl dc_ (S_ A1 fin.chunks.length c1) fin.chunks.length (fin.chunks.flatMap Qo_) ev_ (by first|exact HM.o.drew|exact HM.o) ⟨j.heap.size,0,none⟩ 1 1 (Qo_ (fin.text++f,0,0,false,0)) ev_ (by rfl) (World.news_of_block (cs:=#[T_ (fin.text++f),I_ j_ 0,I_ j_ 0,B_ false,I_ j_ 0]) (t:=178) (fr:=(0,0)) aN) (Vc_ _) dc_ mx_ oo (by first|exact ay.o) (j.heap.size+1) sm_ ?_
     intro q6 cap w6 M v bk bJ;have l:(j.alloc (C_ #[T_ (fin.text++f),I_ j_ 0,I_ j_ 0,B_ false,I_ j_ 0] 178)).grownBy w6 (S_ A1 fin.chunks.length c1).ownBlock:=(by first|exact v|exact Q9_ v);have I:=aq.o _ l;have ax:=h_ (ar.o _ l);rw[hi]at I;have j5:w6.cell? ⟨D.T,3,none⟩=some (S_ A1 fin.chunks.length c1):=I.cell 3;have jf:=I.frozen;have jz:=I.lt;have HW:=h_ (HP.o _ _ M l);clear M v bk l I)
  all_goals
    obtain⟨A',c',ev,bg,aI,bh⟩:=HW.o;injection ev with ev1 ev2 ev3;subst ev1;subst ev3;have Z:=h_ aI;have bj:w.heap.size≠D.T:=(by have:=Y.o;rw[az.o];omega);have av:=h_ (ax.o.far (p:=⟨D.T,3,none⟩) bj (S_ (some ⟨q6,0,none⟩) (fin.chunks.length+1) cap));clear ev2 bg aI bh HW ax X U HM HP ar aq ay aN j5 jf jz x0 x1 x2 x3 xn xt xb xf xz bi;generalize w6.setCell ⟨D.T,3,none⟩ (S_ (some ⟨q6,0,none⟩) (fin.chunks.length+1) cap)=W6 at *;have aD:=h_ (show Calls prog 139 #[A_ #[I_ j_ a,S_ A0 fin.rules.length c0,S_ (some ⟨q6,0,none⟩) (fin.chunks.length+1) cap,S_ A2 fin.spans.length c2,S_ A3 fin.ties.length c3]] W6 (RB_ (B_ true) W6)from by
      have h:=J7_ (hnOf fin f a Q.width) A0 (some ⟨q6,0,none⟩) A2 A3 c0 cap c2 c3 W6 ⟨Z.o.r0.rd,Z.o.r1.rd,Z.o.r2.rd,Z.o.r3.rd⟩ HR.o R.o;unfold pcCells at h;rw[show(hnOf fin f a Q.width).l1.length=fin.chunks.length+1 by show(_++[_]).length=_;simp]at h;exact h)
    have ab:=h_ (fun(W:World) (h:Below W6.heap.size W6 W)=>(show Blk W D.T (bty false) #[S_ D.A D.n D.c,I_ j_ a,S_ A0 fin.rules.length c0,S_ (some ⟨q6,0,none⟩) (fin.chunks.length+1) cap,S_ A2 fin.spans.length c2,S_ A3 fin.ties.length c3,T_ (fin.text++f),B_ false]from by
      have o:=Z.o.blk.next h;unfold Kh_ at o;rw[hi,a9.o]at o;rw[lA]at o;exact o))
    have o:=ab.o W6 br;have y0:=o.q1;have y1:=o.q2;have y2:=o.q3;have y3:=o.q4;have y4:=o.q5;have yz:=o.lt;clear o;go_wp2_with fail
    refine aD.o.mono ?_;rintro e w7 ⟨rfl,h7⟩;have aa:=h_ (Z.o.next h7);have n:=h_ (av.o.next h7);have o:=ab.o w7 h7;clear y0 y1 y2 y3 y4 yz h7 Z av aD ab;have y0:=o.q1;have y1:=o.q2;have y2:=o.q3;have y3:=o.q4;have y4:=o.q5;have yz:=o.lt;have z0:=n.o.q0;have z1:=n.o.q1;have z2:=n.o.q2;have z3:=n.o.q3;have z4:=n.o.q4;have zf:=n.o.frozen;have zz:=n.o.lt;clear o;go_wp2;have B:=h_ (((((n.o.set_ 0 (I_ j_ a)).set_ 1 (S_ A0 fin.rules.length c0)).set_ 2 (S_ (some ⟨q6,0,none⟩) (fin.chunks.length+1) cap)).set_ 3 (S_ A2 fin.spans.length c2)).set_ 4 (S_ A3 fin.ties.length c3));have hC:=aa.o;have bb:=h_ (((hC.pcN (a:=a) (width:=Q.width)).more (show w.heap.size<=D.w0.heap.size by have:=ap.o.size;rw[ac.o];exact this)).put5 n.o (I_ j_ a) (S_ A0 fin.rules.length c0) (S_ (some ⟨q6,0,none⟩) (fin.chunks.length+1) cap) (S_ A2 fin.spans.length c2) (S_ A3 fin.ties.length c3));have a7:=h_ (Qcv_ (Qb_ ap.o (by have h:=aa.o.old;rw[ac.o]at h;exact h)) (lr_ _) (I_ j_ a) (S_ A0 fin.rules.length c0) (S_ (some ⟨q6,0,none⟩) (fin.chunks.length+1) cap) (S_ A2 fin.spans.length c2) (S_ A3 fin.ties.length c3));clear y0 y1 y2 y3 y4 yz z0 z1 z2 z3 z4 zf zz n aa hC;generalize ((((w7.setCell ⟨w.heap.size,0,none⟩ (I_ j_ a)).setCell ⟨w.heap.size,1,none⟩ (S_ A0 fin.rules.length c0)).setCell ⟨w.heap.size,2,none⟩ (S_ (some ⟨q6,0,none⟩) (fin.chunks.length+1) cap)).setCell ⟨w.heap.size,3,none⟩ (S_ A2 fin.spans.length c2)).setCell ⟨w.heap.size,4,none⟩ (S_ A3 fin.ties.length c3)=W9 at *;have z0:W9.cell? ⟨w.heap.size,0,none⟩=some (I_ j_ a):=B.o.cell 0;have z1:W9.cell? ⟨w.heap.size,1,none⟩=some (S_ A0 fin.rules.length c0):=B.o.cell 1;have z2:W9.cell? ⟨w.heap.size,2,none⟩=some (S_ (some ⟨q6,0,none⟩) (fin.chunks.length+1) cap):=B.o.cell 2;have z3:W9.cell? ⟨w.heap.size,3,none⟩=some (S_ A2 fin.spans.length c2):=B.o.cell 3;have z4:W9.cell? ⟨w.heap.size,4,none⟩=some (S_ A3 fin.ties.length c3):=B.o.cell 4;have zz:=B.o.lt;refine bodyPost_ret (by simp[results,Tryz.results113,go_sem,z0,z1,z2,z3,z4];try rfl) rfl ?_;refine⟨A0,some ⟨q6,0,none⟩,A2,A3,c0,cap,c2,c3,?_,bb.o,a7.o⟩;unfold pcCells;rw[show(hnOf fin f a Q.width).l1.length=fin.chunks.length+1 by show(_++[_]).length=_;simp]
    rfl
end Go.Proofs.YtbiijipkgfpgoaaGreatDoor

/-
  Put together by program.
-/
import Derived.Test.YtbiijipkgfpgoaaGreatDoorMfN
set_option maxRecDepth 100000
set_option linter.all false
set_option maxHeartbeats 25600000
open Go.Proofs.Tryz
open Go.Value renaming int→I_,slice→S_,string→T_,bool→B_,pointer→P_,agg→A_,tuple→U_
open Go.IntKind renaming i64→j_
open Go.Obj renaming cells→C_
namespace Go.Proofs.YtbiijipkgfpgoaaGreatDoor
open Go.RowKit
theorem YD_ (F:FuncId) (hF:F=224) (D:BD) (hi:D.imp=true) (ps:List PN) (f:Nat) (hN:KidC F D ps f) (G:Uh_ 2000000 ps (QR_ ps f)) (A':OA) (m c':Nat) (l:LI) (op en:BA) (s:Pb) (a:Int) (W:World) (hl:Hid (l.length=m)) (hm:m<=12) (K:Rd D.w0 1 A' m (Qa_ l))
  (hv:Hid (∀v∈l,(0<=v/\v < (f:Int))/\QI_ (Qc_ ps v)/\v<=900)) (ha:0<=a/\a<=40) (E:s.chunks.length<=79) (P:BdC D s W) (hZ:s.text.size+wS 2000000 ps (XT_ op en l a)<=Xj_):
  Calls prog 248 #[P_ (some ⟨D.T,0,none⟩),T_ op,S_ A' m c',T_ en,I_ j_ a] W (YW_ D W (U_ #[]) (VL_ (QR_ ps f) (s,-1) (XT_ op en l a)).1):=by
 subst hF;obtain⟨fin,c⟩:=ex_ ((VL_ (QR_ ps f) (s,-1) (XT_ op en l a)).1);rw[c];have H:=h_ (show Bt 224 D ps f fin W s (-1) (XT_ op en l a) W from⟨P,c,hZ,Kb.refl _,hN,G,E⟩);obtain⟨A,z,B⟩:=P.tx;have HR:=h_ K;clear P hZ c hN G K E;unfold XT_ at H;have b:=H.o.size;simp only[wB,Xj_]at b;obtain⟨Y,Z⟩:=ha;by_cases I:m=0
 ·subst I;rw[ip_ hl.o]at H;go_enter func248,ntmps248;go_upto_region 1 with fail
  have k:=h_ H.o.put;clear A z B b;generalize W.setCell ⟨D.T,6,none⟩ (T_ (s.text++op))=W1 at *;obtain⟨A,z,B⟩:=k.o.C.tx;have b:=k.o.size;simp only[wB,Xj_]at b;go_wp2;go_end0;have O:=(k.o.put).fin_;exact⟨rfl,O⟩
 ·rw[in_ (by rw[hl.o];exact I)]at H;have ab:0 < m:=oo;go_enter func248,ntmps248;go_upto_region 1 with fail
  have k:=h_ H.o.put;clear A z B b H;generalize W.setCell ⟨D.T,6,none⟩ (T_ (s.text++op))=W1 at *;rw[hl.o]at k;go_wp2_with fail
  refine Bt.irule hi k ?_;intro W2 M k2;clear k k2;obtain⟨r,K⟩:=ex_ (Q4_ (s.put op));rw[K]at M |-
  generalize (s.put op).rule (min (m:Int) 2+1) 1=s2 at M;clear K;go_wp2_with fail
  refine Bt.isplit hi M (by unfold inN;omega) ?_;intro W3 p k3;clear M k3;generalize s2.split r 1 false (inN a)=s3 at p;obtain⟨g,Q⟩:∃g:Nat->Int->List Bv,g=(fun i v=>(if 0 < i then [Bv.put ⟨#[44]⟩,.split (min (m:Int) 2) true (inN a)]else [])++[.kid v (inN a)]):=⟨_,rfl⟩;rw[<-Q]at p;replace p:Hid (Bt 224 D ps f fin W s3 r (Xp_ g 0 l++([.split 1 false a]++[.put en])) W3):=by rw[<-List.append_assoc];exact p
  have x:=h_ Q;clear Q;go_wp2;go_loopw [42] (fun j wr=>∃(i:Nat) (y:Pb),i<=m/\j=I_ j_ i/\Hid (Bt 224 D ps f fin W y r (Xp_ g i (l.drop i)++([.split 1 false a]++[.put en])) wr)) (fun j _=>m - (intOf j).toNat)
  case atStart=>exact⟨0,s3,lz_ _,rfl,by rw[List.drop_zero];exact p⟩
  case round=>
   clear p;obtain⟨i,y,aa,rfl,e⟩:=hrel;by_cases S:i < m
   ·obtain⟨v,hd⟩:∃d,l[i]? =some d:=⟨_,gE (by have:=hl.o;omega)⟩;obtain⟨⟨T,ac⟩,L,ad⟩:=hv.o v (lm_ hd);obtain⟨q,rfl⟩:=eo_ T;have J:q < f:=oo;obtain⟨b5,X,rfl,o,cv⟩:=Qu_ (HR.o.below e.o.C.old) S hd;rw[YL_ hd,x.o]at e;rw[<-x.o]at e;have C:=h_ L;clear hd L;by_cases R:0 < i
    ·have n:Hid (Bt 224 D ps f fin W y r (.put ⟨#[44]⟩::.split (min (m:Int) 2) true (inN a)::.kid (q:Int) (inN a)::(Xp_ g (i+1) (l.drop (i+1))++([.split 1 false a]++[.put en]))) wr):=by
      have h:=e.o;rw[x.o]at h;dsimp only at h;rw[ip_ R]at h;rw[x.o];exact h_ h
     obtain⟨A,z,B⟩:=n.o.C.tx;have b:=n.o.size;simp only[wB,Xj_]at b;clear e;go_upto_region 11 with fail
     have H6:=h_ n.o.put;clear n A z B b cv o;generalize wr.setCell ⟨D.T,6,none⟩ (T_ (y.text++⟨#[44]⟩))=W5 at *;go_wp2_with fail
     refine Bt.isplit hi H6 (by unfold inN;omega) ?_;intro W6 t U;clear H6 U;go_wp2_with fail
     refine Bt.kid t J C.o oo oo (by unfold inN;omega) ?_;intro W7 N V;clear t V;rw[hi];go_wp2;go_roundw
     case rel=>exact⟨i+1,_,oo,by go_num,N⟩
     case measure=>simp[intOf];omega
    ·obtain rfl:i=0:=oo;rw[Nat.add_zero]at cv;have n:Hid (Bt 224 D ps f fin W y r (.kid (q:Int) (inN a)::(Xp_ g (0+1) (l.drop (0+1))++([.split 1 false a]++[.put en]))) wr):=by
      have h:=e.o;rw[x.o]at h;rw[x.o];exact h_ h
     clear e;go_wp2_with fail
     refine Bt.kid n J C.o oo oo (by unfold inN;omega) ?_;intro W7 N V;clear n V;rw[hi];go_wp2;go_roundw
     case rel=>exact⟨0+1,_,oo,by go_num,N⟩
     case measure=>simp[intOf];omega
   ·obtain rfl:i=m:=oo;rw[Xu_ (Nat.le_of_eq hl.o)]at e;go_wp2_with fail
    refine Bt.isplit hi e rfl ?_;intro W6 t U;clear e U;obtain⟨A,z,B⟩:=t.o.C.tx;have b:=t.o.size;simp only[wB,Xj_]at b;generalize y.split r 1 false a=s7 at *;go_wp2;go_end0;have O:=(t.o.put).fin_;exact⟨rfl,O⟩
theorem Bt.box {F:FuncId} {D:BD} {ps:List PN} {f:Nat} {fin:Pb} {s:Pb} {r:Int} {es:List Bv} {W W':World} {cs:Array Value} (H:Bt F D ps f fin (W.alloc (C_ cs 96)) s r es W'):Blk W' W.heap.size 96 cs:=H.K.2 _ _ (Blk.new W 96 cs)
theorem Zc_ {W W':World} {o:Obj} (h:Kb (W.alloc o) W'):Kb W W':=(Kb.below (br.alloc (lr_ _) o)).trans h
theorem BdC.ti {D:BD} {s:Pb} {W:World} (h:BdC D s W) (hi:D.imp=true):(∃A1 c1,W.cell? ⟨D.T,2,none⟩=some (S_ A1 s.chunks.length c1))/\W.cell? ⟨D.T,5,none⟩=some (S_ D.A D.n D.c)/\(∀i,W.frozen? ⟨D.T,i,none⟩=false)/\D.T < W.heap.size:=by
 obtain⟨A0,c0,A1,c1,A2,c2,A3,c3,h⟩:=h;have:=h.icells hi;exact⟨⟨A1,c1,this.2.1⟩,this.2.2.2.2.1,this.2.2.2.2.2.2.2.1,this.2.2.2.2.2.2.2.2⟩
theorem own7 {ps:List PN} {q:Nat} (h:Qc_ ps (q:Int)=7\/Qc_ ps (q:Int)=8) (s:Pb):ownN ps q s=Q4_ s:=by
 unfold ownN;have e:(ndAt ps q).kind=Qc_ ps (q:Int):=by
  unfold ndAt Qc_;rw[List.getD_eq_getElem?_getD,it_]
  cases ps[q]? <;>rfl
 rw[e,ip_ h]
theorem qq_ (D:BD) (hi:D.imp=true) (ps:List PN) (f:Nat) (ae:Nps D.w0 D.A D.n ps) (aP:f<=D.n) (hN:KidC 224 D ps f) (Z:Uh_ 2000000 ps (QR_ ps f)) (A':OA) (m c':Nat) (l:LI) (t:BA) (z:Bool) (s:Pb) (a:Int) (W:World) (hl:Hid (l.length=m)) (hm:m<=12) (hr:Rd D.w0 1 A' m (Qa_ l))
  (hv:Hid (∀v∈l,(0<=v/\v < (f:Int))/\QI_ (Qc_ ps v)/\v<=900)) (ha:0<=a/\a<=40) (p:s.chunks.length<=79) (hC:BdC D s W) (hZ:s.text.size+wS 2000000 ps (ZS_ ps t l a)<=Xj_):
  Calls prog 249 #[P_ (some ⟨D.T,0,none⟩),A_ #[I_ j_ 7,T_ t,S_ A' m c',B_ z],I_ j_ a] W (YW_ D W (I_ j_ (Q4_ s)) (VL_ (QR_ ps f) (s,-1) (ZS_ ps t l a)).1):=by
 obtain⟨fin,B⟩:=ex_ ((VL_ (QR_ ps f) (s,-1) (ZS_ ps t l a)).1);rw[B];have aa:Below W.heap.size W (W.alloc (C_ #[I_ j_ 7,T_ t,S_ A' m c',B_ z] 96)):=grow_;have H:=h_ (show Bt 224 D ps f fin (W.alloc (C_ #[I_ j_ 7,T_ t,S_ A' m c',B_ z] 96)) s (-1) (ZS_ ps t l a) (W.alloc (C_ #[I_ j_ 7,T_ t,S_ A' m c',B_ z] 96))from⟨hC.next aa,B,hZ,Kb.refl _,hN,Z,p⟩);have HR:=h_ hr;have HP:=h_ ae;obtain⟨aq,ar⟩:=ha;clear hC hZ B hN Z hr ae aa p;unfold ZS_ at H;go_enter func249,ntmps249;go_wp2_with fail
 refine Bt.irule hi H ?_;intro W2 S k2;clear H;obtain⟨r,Q⟩:=ex_ (Q4_ s);rw[Q]at S |-
 generalize s.rule 2 1=s2 at S;obtain⟨g,hg⟩:∃g:Nat->Int->List Bv,g=(fun i v=>(if 0 < i then [Bv.put (⟨#[32]⟩++t),.split 1 true a]else [])++[.tied v a (decide (Qc_ ps v=7)) (!ZB_ (Qc_ ps v))]):=⟨_,rfl⟩;rw[<-hg]at S;have T:=h_ hg;have am:=h_ Q;have K:=S.o.box;have x2:=K.q2;have xg:=K.lt;clear hg Q k2 K;go_wp2;go_loopw [18] (fun j wr=>∃(i:Nat) (I:Pb),i<=m/\j=I_ j_ i/\Hid (Bt 224 D ps f fin (W.alloc (C_ #[I_ j_ 7,T_ t,S_ A' m c',B_ z] 96)) I r (Xp_ g i (l.drop i)) wr)) (fun j _=>m - (intOf j).toNat)
 case atStart=>exact⟨0,s2,lz_ _,rfl,by rw[List.drop_zero];exact S⟩
 case round=>
  clear S x2 xg;obtain⟨i,I,aQ,rfl,F⟩:=hrel;by_cases az:i < m
  ·obtain⟨v,hd⟩:∃d,l[i]? =some d:=⟨_,gE (by have:=hl.o;omega)⟩;obtain⟨⟨aF,aR⟩,ag,aS⟩:=hv.o v (lm_ hd);obtain⟨q,rfl⟩:=eo_ aF;have aD:q < f:=oo;obtain⟨b5,E,rfl,M,cv⟩:=Qu_ (HR.o.below F.o.C.old) az hd;rw[YL_ hd,T.o]at F;rw[<-T.o]at F;have an:=h_ ag;have o:=h_ (show i+1<=m from oo);clear hd ag;have aN:Below D.w0.heap.size D.w0 wr:=F.o.C.old
   go_upto_if 24 with fail
   go_cut [8] (fun x8 wx=>x8=I_ j_ i/\∃k:Pb,Hid (Bt 224 D ps f fin (W.alloc (C_ #[I_ j_ 7,T_ t,S_ (some ⟨b5,E,none⟩) m c',B_ z] 96)) k r (.tied (q:Int) a (decide (Qc_ ps (q:Int)=7)) (!ZB_ (Qc_ ps (q:Int)))::Xp_ g (i+1) (l.drop (i+1))) wx))
   case first=>
    by_cases ay:0 < i
    ·have b:Hid (Bt 224 D ps f fin (W.alloc (C_ #[I_ j_ 7,T_ t,S_ (some ⟨b5,E,none⟩) m c',B_ z] 96)) I r (.put (⟨#[32]⟩++t)::.split 1 true a::.tied (q:Int) a (decide (Qc_ ps (q:Int)=7)) (!ZB_ (Qc_ ps (q:Int)))::Xp_ g (i+1) (l.drop (i+1))) wr):=by
      have h:=F.o;rw[T.o]at h;dsimp only at h;rw[ip_ ay]at h;rw[T.o];exact h_ h
     have K:=b.o.box;have x1:=K.q1;have xg:=K.lt;obtain⟨xt,xf,xz⟩:=b.o.C.tx;have G:=b.o.size;simp only[wB,Xj_,bs_]at G;have af:(⟨#[32]⟩:BA).size=1:=rfl;have aE:I.text.size+(⟨#[32]⟩++t:BA).size<=1000000000000:=(by rw[bs_];exact G);rw[af]at G;clear F K af;have aB:¬9223372036854775807 < 1+t.size:=oo;have aC:¬9223372036854775807 < I.text.size+(1+t.size):=oo;go_upto_region 6 with fail
     go_still_tail 10,nr_;go_upto_region 7 with fail
     have H6:=h_ (b.o.put.next br.drew);clear b xt xf xz G aE aB aC x1 xg cv M;generalize (wr.setCell ⟨D.T,6,none⟩ (T_ (I.text++(⟨#[32]⟩++t)))).drew=W5 at *;go_wp2_with fail
     refine Bt.isplit hi H6 rfl ?_;intro W6 H7 k7;go_wp2_with fail
     go_meet;exact⟨rfl,_,H7⟩
    ·obtain rfl:i=0:=oo;have b:Hid (Bt 224 D ps f fin (W.alloc (C_ #[I_ j_ 7,T_ t,S_ (some ⟨b5,E,none⟩) m c',B_ z] 96)) I r (.tied (q:Int) a (decide (Qc_ ps (q:Int)=7)) (!ZB_ (Qc_ ps (q:Int)))::Xp_ g (0+1) (l.drop (0+1))) wr):=by
      have h:=F.o;rw[T.o]at h;rw[T.o];exact h_ h
     go_wp2_with fail
     go_meet;exact⟨rfl,I,b⟩
   case rest=>
    obtain⟨rfl,k,b⟩:=hcut;obtain⟨⟨A1,c1,xc⟩,_,xf,xz⟩:=b.o.C.ti hi;have p:=b.o.c79;have R:=b.o.size;have P:=h_ (b.o.N q k a wc aD an.o aq oo (fun _=>ar) b.o.c79 b.o.C (by simp only[wB,it_]at R;exact R));rw[show min a 40=a from oo,hi]at P;clear R F;go_wp2_with fail
    refine P.o.mono ?_;rintro e w6 ⟨rfl,x,ac⟩;have J:=h_ x;have L:=h_ ac;have X:=h_ (WS_ ps f q a k p);obtain⟨_,xn,xf,xz⟩:=x.ti hi;obtain⟨y,hy⟩:=HP.o.get (show q < D.n from oo);obtain⟨b6,ah,A6,c6,eD,n,y0,_⟩:=HP.o.at_ (show q < D.n from oo) hy;have ai:=((QW_ x.old).1 _ _ n).trans y0;have av:b6 < w6.heap.size:=ll_ n x.old.size;have N:Qc_ ps (q:Int)=y.kind:=Qr_ hy;have aO:q < D.n:=oo;rw[eD]at xn;rw[N]at b;have Y:=h_ (fun(h:y.kind=7)=>own7 (ps:=ps) (q:=q) (.inl (N.trans h)) k);clear P x ac xc hy eD y0 n N p;obtain⟨c,yt,yl,yz⟩:=y;replace ai:w6.cell? ⟨b6,ah+q * 4,none⟩=some (I_ j_ c):=ai;simp only at b Y;have aM:i+1<=12:=oo;by_cases h7:c=7
    ·subst h7;have e7:=Y.o rfl;rw[e7];clear e7;go_wp2_with fail
     refine(U5_ D hi _ (Q4_ k) r _ J.o).mono ?_;rintro e w7 ⟨rfl,ab,ad⟩;have ak:=h_ ab;have al:=h_ ad;clear ab ad;go_wp2_with fail
     refine(GV_ D hi _ k.chunks.length _ ak.o (by have:=b.o.c79;omega) (by rw[GL_];have:=X.o;omega)).mono ?_;rintro e w8 ⟨rfl,A,C⟩;have V:=h_ (b.o.jump (show BdC D (((QR_ ps f q a k).tie (Q4_ k) r).span k.chunks.length) w8 from A) (L.o.trans (al.o.trans C)));clear A C;go_wp2;go_roundw
     case rel=>exact⟨i+1,_,o.o,by go_num,V⟩
     case measure=>have:=o.o;simp[intOf];omega
    ·have d7:decide (c=7)=false:=df_ h7;have b7:(c==7)=false:=bn_.2 h7;rw[d7]at b;by_cases U:ZB_ c=true
     ·have O:c=1\/c=2\/c=3:=od_ U;have V:=h_ (b.o.jump (show BdC D (if (!ZB_ c)=true then (QR_ ps f q a k).span k.chunks.length else QR_ ps f q a k) w6 from by rw[U];exact J.o) L.o);clear U d7;rcases O with rfl|rfl|rfl
      all_goals
       go_wp2;go_roundw
       case rel=>exact⟨i+1,_,o.o,by go_num,V⟩
       case measure=>have:=o.o;simp[intOf];omega
     ·have O:¬(c=1\/c=2\/c=3):=fun h=>U (dt_ h)
      have n1:(c != 1)=true:=so_;have n2:(c != 2)=true:=so_;have n3:(c != 3)=true:=so_;have aA:ZB_ c=false:=(by cases h:ZB_ c;rfl;exact absurd h U);clear U O h7 d7;go_wp2_with fail
      refine(GV_ D hi _ k.chunks.length _ J.o (by have:=b.o.c79;omega) (by have:=X.o;omega)).mono ?_;rintro e w8 ⟨rfl,A,C⟩;have V:=h_ (b.o.jump (show BdC D (if (!ZB_ c)=true then (QR_ ps f q a k).span k.chunks.length else QR_ ps f q a k) w8 from by rw[aA];exact A) (L.o.trans C));clear A C;go_wp2;go_roundw
      case rel=>exact⟨i+1,_,o.o,by go_num,V⟩
      case measure=>have:=o.o;simp[intOf];omega
  ·obtain rfl:i=m:=oo;rw[Xu_ (Nat.le_of_eq hl.o)]at F;go_wp2;go_ret;have h2:=F.o.fin_;exact⟨Kx_ am.o.symm,h2.1,Zc_ h2.2⟩
structure VIn (F:FuncId) (D:BD) (ps:List PN) (m f j:Nat) (x:PN) (a:Int) (s:Pb) (W:World):Prop where
 hps:Nps D.w0 D.A D.n ps
 hF:TreeF ps m
 hpn:PNs ps
 hn:D.n=m+1
 hx:ps[j]? =some x
 hj:j < f+1
 hfn:f<=D.n
 hv:QI_ x.kind
 hN:KidC F D ps f
 ha:0<=a
 hab:a+4 * (j:Int)<=4000
 h40:D.imp=true->a<=40
 h79:s.chunks.length<=79
 hC:BdC D s W
 hZ:s.text.size+Kk_ ps j * 2000000<=Xj_
section
variable {F:FuncId} {D:BD} {ps:List PN} {m f j:Nat} {x:PN} {a:Int} {s:Pb} {W:World}
theorem VIn.lt (h:VIn F D ps m f j x a s W):j < m+1:=by have:=(gs_.1 h.hx).1;rw[h.hF.tree.len]at this;exact this
theorem VIn.kids (h:VIn F D ps m f j x a s W):∀v∈x.kids,(0<=v/\v < (f:Int))/\v<=900/\a+4+4 * v<=4000:=fun v hv=>by
 have h1:=(h.hF.tree.good j x h.hx).2 v hv;have h2:=h.hF.few;have h3:=h.lt;have h4:=h.hj;have h5:=h.hab;omega
theorem VIn.few (h:VIn F D ps m f j x a s W):x.kids.length<=12:=(h.hF.tree.good j x h.hx).1
theorem VIn.light (h:VIn F D ps m f j x a s W):Uh_ 2000000 ps (QR_ ps f):=xV_ oo h.hF h.hpn f
theorem VIn.form (h:VIn F D ps m f j x a s W):ValF ps x.kind x.kids:=vi_ (h.hF.node j h.lt) h.hx h.hv
theorem VIn.weight (h:VIn F D ps m f j x a s W) (ne:Int):s.text.size+wS 2000000 ps (evsB ps x ne)<=Xj_:=by
 have:=Gn_ (W:=2000000) oo h.hF h.hpn h.hx ne;have:=h.hZ;omega
theorem VIn.bt (h:VIn F D ps m f j x a s W) (b:Int) (cs:Array Value):Bt F D ps f (QR_ ps (f+1) j b s) (W.alloc (C_ cs 96)) s (-1) (evsB ps x b) (W.alloc (C_ cs 96)):=
 ⟨h.hC.next grow_,(KX_ h.hx b s).symm,h.weight b,Kb.refl _,h.hN,h.light,h.h79⟩
theorem VIn.at_ (h:VIn F D ps m f j x a s W):∃b off A' c',D.A=some ⟨b,off,none⟩/\b < W.heap.size/\W.cell? ⟨b,off+j * 4,none⟩=some (I_ j_ x.kind)/\W.cell? ⟨b,off+j * 4+1,none⟩=some (T_ x.text)/\W.cell? ⟨b,off+j * 4+2,none⟩=some (S_ A' x.kids.length c')/\W.cell? ⟨b,off+j * 4+3,none⟩=some (B_ x.blank)/\Rd D.w0 1 A' x.kids.length (Qa_ x.kids)/\x.kids.length<=c':=by
 obtain⟨b,off,A',c',e,c,y0,y1,y2,y3,g,hr⟩:=h.hps.atc (by have:=h.lt;have:=h.hn;omega) h.hx;have d:=(QW_ h.hC.old).1;exact⟨b,off,A',c',e,ll_ c h.hC.old.size,(d _ _ c).trans y0,(d _ _ c).trans y1,(d _ _ c).trans y2,(d _ _ c).trans y3,hr,g⟩
end
theorem YR_ (D:BD) (hi:D.imp=false) (ps:List PN) (f:Nat) (hN:KidC 137 D ps f) (X:Uh_ 2000000 ps (QR_ ps f)) (A':OA) (m c':Nat) (l:LI) (op en:BA) (s:Pb) (a:Int) (W:World) (hl:Hid (l.length=m)) (hm:m<=12) (L:Rd D.w0 1 A' m (Qa_ l))
  (hv:Hid (∀v∈l,(0<=v/\v < (f:Int))/\QI_ (Qc_ ps v)/\a+4+4 * v<=4000)) (ha:0<=a) (ap:a<=4000) (V:s.chunks.length<=79) (hC:BdC D s W) (R:s.text.size+wS 2000000 ps (XT_ op en l (min a 40))<=Xj_):
  Calls prog 188 #[P_ (some ⟨D.T,0,none⟩),T_ op,S_ A' m c',T_ en,I_ j_ a] W (YW_ D W (U_ #[]) (VL_ (QR_ ps f) (s,-1) (XT_ op en l (min a 40))).1):=by
 obtain⟨fin,A⟩:=ex_ ((VL_ (QR_ ps f) (s,-1) (XT_ op en l (min a 40))).1);rw[A];have H:=h_ (show Bt 137 D ps f fin W s (-1) (XT_ op en l (min a 40)) W from⟨hC,A,R,Kb.refl _,hN,X,V⟩);have HR:=h_ L;clear hC R A hN X L V;unfold XT_ at H;by_cases Y:m=0
 ·subst Y;rw[ip_ hl.o]at H;go_enter func188,ntmps188;go_wp2_with fail
  refine Bt.sput hi H ?_;intro W1 G k1;go_wp2_with fail
  refine Bt.sput hi G ?_;intro W2 t k2;go_wp2;go_end0;exact⟨rfl,t.o.fin_⟩
 rw[in_ (by rw[hl.o];exact Y),hl.o]at H;have aq:0 < m:=oo;by_cases I:m=1
 ·have C:min (m:Int) 2=1:=oo;have ai:((m:Int)==1)=true:=by rw[I];rfl
  have aj:((m:Int)==0)=false:=by rw[I];rfl
  go_enter func188,ntmps188;go_wp2_with fail
  refine Bt.sput hi H ?_;intro W1 G k1;clear H k1 I;rw[C]at G;go_wp2_with fail
  refine Bt.srule hi G ?_;intro W2 t k2;clear G k2;obtain⟨r,L⟩:=ex_ (Q4_ (s.put op));rw[L]at t |-
  generalize (s.put op).rule 2 1=s2 at t;clear L;go_wp2_with fail
  refine Bt.ssplit hi t (by unfold inN;omega) ?_;intro W3 n k3;clear t k3;generalize s2.split r 1 false (inN (min a 40))=s3 at n;obtain⟨g,M⟩:∃g:Nat->Int->List Bv,g=(fun i v=>(if 0 < i then [Bv.put ⟨#[44]⟩,.split 1 true (inN (min a 40))]else [])++[.kid v (inN (min a 40))]):=⟨_,rfl⟩;rw[<-M]at n;replace n:Hid (Bt 137 D ps f fin W s3 r (Xp_ g 0 l++([.split 1 false (min a 40)]++[.put en])) W3):=by rw[<-List.append_assoc];exact n
  have p:=h_ M;clear M C;go_wp2;go_loopw [12] (fun j wr=>∃(i:Nat) (K:Pb),i<=m/\j=I_ j_ i/\Hid (Bt 137 D ps f fin W K r (Xp_ g i (l.drop i)++([.split 1 false (min a 40)]++[.put en])) wr)) (fun j _=>m - (intOf j).toNat)
  case atStart=>exact⟨0,s3,lz_ _,rfl,by rw[List.drop_zero];exact n⟩
  case round=>
   clear n;obtain⟨i,K,ah,rfl,b⟩:=hrel;by_cases O:i < m
   ·obtain⟨v,hd⟩:∃d,l[i]? =some d:=⟨_,gE (by have:=hl.o;omega)⟩;obtain⟨⟨P,ak⟩,E,al⟩:=hv.o v (lm_ hd);obtain⟨q,rfl⟩:=eo_ P;have B:q < f:=oo;have e:=h_ (fun(Z:World) (R:Below D.w0.heap.size D.w0 Z)=>Qu_ (HR.o.below R) O hd);rw[YL_ hd,p.o]at b;rw[<-p.o]at b;have z:=h_ E;have c:=h_ (show i+1<=m from oo);clear hd E;by_cases N:0 < i
    ·have o:Hid (Bt 137 D ps f fin W K r (.put ⟨#[44]⟩::.split 1 true (inN (min a 40))::.kid (q:Int) (inN (min a 40))::(Xp_ g (i+1) (l.drop (i+1))++([.split 1 false (min a 40)]++[.put en]))) wr):=by
      have h:=b.o;rw[p.o]at h;dsimp only at h;rw[ip_ N]at h;rw[p.o];exact h_ h
     clear b;go_wp2_with fail
     refine Bt.sput hi o ?_;intro W5 S k6;clear o k6;go_wp2_with fail
     refine Bt.ssplit hi S (by unfold inN;omega) ?_;intro W6 x Q;clear S Q;obtain⟨b5,F,rfl,k,U⟩:=e.o _ x.o.C.old;go_wp2_with fail
     refine Bt.kid x B z.o oo oo (by unfold inN;omega) ?_;intro T y J;clear x J e;rw[hi];go_wp2;go_roundw
     case rel=>exact⟨i+1,_,c.o,by go_num,y⟩
     case measure=>have:=c.o;simp[intOf];omega
    ·obtain rfl:i=0:=oo;have o:Hid (Bt 137 D ps f fin W K r (.kid (q:Int) (inN (min a 40))::(Xp_ g (0+1) (l.drop (0+1))++([.split 1 false (min a 40)]++[.put en]))) wr):=by
      have h:=b.o;rw[p.o]at h;rw[p.o];exact h_ h
     obtain⟨b5,F,rfl,k,U⟩:=e.o _ o.o.C.old;rw[Nat.add_zero]at U;clear b;go_wp2_with fail
     refine Bt.kid o B z.o oo oo (by unfold inN;omega) ?_;intro T y J;clear o J e;rw[hi];go_wp2;go_roundw
     case rel=>exact⟨0+1,_,c.o,by go_num,y⟩
     case measure=>have:=c.o;simp[intOf];omega
   ·obtain rfl:i=m:=oo;rw[Xu_ (Nat.le_of_eq hl.o)]at b;go_wp2_with fail
    refine Bt.ssplit hi b oo ?_;intro W6 x Q;clear b Q;go_wp2_with fail
    refine Bt.sput hi x ?_;intro T y J;go_wp2;go_end0;have h2:=y.o.fin_;exact⟨rfl,h2⟩
 ·have C:min (m:Int) 2=2:=oo;have ai:((m:Int)==1)=false:=bn_.2 oo;have aj:((m:Int)==0)=false:=bn_.2 oo;go_enter func188,ntmps188;go_wp2_with fail
  refine Bt.sput hi H ?_;intro W1 G k1;clear H k1 I;rw[C]at G;go_wp2_with fail
  refine Bt.srule hi G ?_;intro W2 t k2;clear G k2;obtain⟨r,L⟩:=ex_ (Q4_ (s.put op));rw[L]at t |-
  generalize (s.put op).rule 3 1=s2 at t;clear L;go_wp2_with fail
  refine Bt.ssplit hi t (by unfold inN;omega) ?_;intro W3 n k3;clear t k3;generalize s2.split r 1 false (inN (min a 40))=s3 at n;obtain⟨g,M⟩:∃g:Nat->Int->List Bv,g=(fun i v=>(if 0 < i then [Bv.put ⟨#[44]⟩,.split 2 true (inN (min a 40))]else [])++[.kid v (inN (min a 40))]):=⟨_,rfl⟩;rw[<-M]at n;replace n:Hid (Bt 137 D ps f fin W s3 r (Xp_ g 0 l++([.split 1 false (min a 40)]++[.put en])) W3):=by rw[<-List.append_assoc];exact n
  have p:=h_ M;clear M C;go_wp2;go_loopw [12] (fun j wr=>∃(i:Nat) (K:Pb),i<=m/\j=I_ j_ i/\Hid (Bt 137 D ps f fin W K r (Xp_ g i (l.drop i)++([.split 1 false (min a 40)]++[.put en])) wr)) (fun j _=>m - (intOf j).toNat)
  case atStart=>exact⟨0,s3,lz_ _,rfl,by rw[List.drop_zero];exact n⟩
  case round=>
   clear n;obtain⟨i,K,ah,rfl,b⟩:=hrel;by_cases O:i < m
   ·obtain⟨v,hd⟩:∃d,l[i]? =some d:=⟨_,gE (by have:=hl.o;omega)⟩;obtain⟨⟨P,ak⟩,E,al⟩:=hv.o v (lm_ hd);obtain⟨q,rfl⟩:=eo_ P;have B:q < f:=oo;have e:=h_ (fun(Z:World) (R:Below D.w0.heap.size D.w0 Z)=>Qu_ (HR.o.below R) O hd);rw[YL_ hd,p.o]at b;rw[<-p.o]at b;have z:=h_ E;have c:=h_ (show i+1<=m from oo);clear hd E;by_cases N:0 < i
    ·have o:Hid (Bt 137 D ps f fin W K r (.put ⟨#[44]⟩::.split 2 true (inN (min a 40))::.kid (q:Int) (inN (min a 40))::(Xp_ g (i+1) (l.drop (i+1))++([.split 1 false (min a 40)]++[.put en]))) wr):=by
      have h:=b.o;rw[p.o]at h;dsimp only at h;rw[ip_ N]at h;rw[p.o];exact h_ h
     clear b;go_wp2_with fail
     refine Bt.sput hi o ?_;intro W5 S k6;clear o k6;go_wp2_with fail
     refine Bt.ssplit hi S (by unfold inN;omega) ?_;intro W6 x Q;clear S Q;obtain⟨b5,F,rfl,k,U⟩:=e.o _ x.o.C.old;go_wp2_with fail
     refine Bt.kid x B z.o oo oo (by unfold inN;omega) ?_;intro T y J;clear x J e;rw[hi];go_wp2;go_roundw
     case rel=>exact⟨i+1,_,c.o,by go_num,y⟩
     case measure=>have:=c.o;simp[intOf];omega
    ·obtain rfl:i=0:=oo;have o:Hid (Bt 137 D ps f fin W K r (.kid (q:Int) (inN (min a 40))::(Xp_ g (0+1) (l.drop (0+1))++([.split 1 false (min a 40)]++[.put en]))) wr):=by
      have h:=b.o;rw[p.o]at h;rw[p.o];exact h_ h
     obtain⟨b5,F,rfl,k,U⟩:=e.o _ o.o.C.old;rw[Nat.add_zero]at U;clear b;go_wp2_with fail
     refine Bt.kid o B z.o oo oo (by unfold inN;omega) ?_;intro T y J;clear o J e;rw[hi];go_wp2;go_roundw
     case rel=>exact⟨0+1,_,c.o,by go_num,y⟩
     case measure=>have:=c.o;simp[intOf];omega
   ·obtain rfl:i=m:=oo;rw[Xu_ (Nat.le_of_eq hl.o)]at b;go_wp2_with fail
    refine Bt.ssplit hi b oo ?_;intro W6 x Q;clear b Q;go_wp2_with fail
    refine Bt.sput hi x ?_;intro T y J;go_wp2;go_end0;have h2:=y.o.fin_;exact⟨rfl,h2⟩
theorem Qay_ {ps:List PN} {f q:Nat} {p:PN} (hx:ps[q]? =some p) (hk:p.kind=7\/p.kind=8) (d:q < f) (a:Int) (s:Pb) (r:Int):
  (if (s.rules.length:Int) < ((QR_ ps f q a s).rules.length:Int)then (QR_ ps f q a s).tie (s.rules.length:Int) r else QR_ ps f q a s)=(QR_ ps f q a s).tie (Q4_ s) r:=by
 obtain⟨c,rfl⟩:∃c,f=c+1:=⟨f - 1,oo⟩;obtain⟨h1,h2⟩:=xm_ (f:=c) hx hk a s;by_cases b:0<=Q4_ s
 ·rw[ip_ (h1.2 b),h2 b]
 ·rw[in_ (fun h=>b (h1.1 h))];unfold Pb.tie;rw[in_ (fun h=>b h.1)]
theorem za_ (D:BD) (hi:D.imp=false) (ps:List PN) (f:Nat) (aY:Nps D.w0 D.A D.n ps) (bM:f<=D.n) (hN:KidC 137 D ps f) (aQ:Uh_ 2000000 ps (QR_ ps f)) (A':OA) (m c':Nat) (l:LI) (t:BA) (z:Bool) (s:Pb) (a:Int) (W:World) (hl:Hid (l.length=m)) (hm:m<=12) (hr:Rd D.w0 1 A' m (Qa_ l))
  (hv:Hid (∀v∈l,(0<=v/\v < (f:Int))/\QI_ (Qc_ ps v)/\a+4+4 * v<=4000)) (ha:0<=a) (bK:a<=4000) (S:s.chunks.length<=79) (hC:BdC D s W) (hZ:s.text.size+wS 2000000 ps (ZS_ ps t l (inN (min a 40)))<=Xj_):
  Calls prog 189 #[P_ (some ⟨D.T,0,none⟩),A_ #[I_ j_ 7,T_ t,S_ A' m c',B_ z],I_ j_ a] W (YW_ D W (U_ #[]) (VL_ (QR_ ps f) (s,-1) (ZS_ ps t l (inN (min a 40)))).1):=by
 obtain⟨fin,X⟩:=ex_ ((VL_ (QR_ ps f) (s,-1) (ZS_ ps t l (inN (min a 40)))).1);rw[X];have aR:Below W.heap.size W (W.alloc (C_ #[I_ j_ 7,T_ t,S_ A' m c',B_ z] 96)):=grow_;have H:=h_ (show Bt 137 D ps f fin (W.alloc (C_ #[I_ j_ 7,T_ t,S_ A' m c',B_ z] 96)) s (-1) (ZS_ ps t l (inN (min a 40))) (W.alloc (C_ #[I_ j_ 7,T_ t,S_ A' m c',B_ z] 96))from⟨hC.next aR,X,hZ,Kb.refl _,hN,aQ,S⟩);have HR:=h_ hr;have HP:=h_ aY;clear hC hZ X hN aQ hr aY aR S;unfold ZS_ at H;go_enter func189,ntmps189;go_wp2_with fail
 refine Bt.srule hi H ?_;intro W2 H2 k2;clear H;obtain⟨r,a0⟩:=ex_ (Q4_ s);rw[a0]at H2 |-
 generalize s.rule 2 1=s2 at H2;obtain⟨g,hg⟩:∃g:Nat->Int->List Bv,g=(fun i v=>(if 0 < i then [Bv.put (⟨#[32]⟩++t),.split 1 true (inN (min a 40))]else [])++[.tied v (inN (min a 40)) (decide (Qc_ ps v=7)) (!ZB_ (Qc_ ps v))]):=⟨_,rfl⟩;rw[<-hg]at H2;have HG:=h_ hg;clear hg a0 k2;go_wp2;go_loopw [7] (fun j wr=>∃(i:Nat) (s':Pb),i<=m/\j=I_ j_ i/\Hid (Bt 137 D ps f fin (W.alloc (C_ #[I_ j_ 7,T_ t,S_ A' m c',B_ z] 96)) s' r (Xp_ g i (l.drop i)) wr)) (fun j _=>m - (intOf j).toNat)
 case atStart=>exact⟨0,s2,lz_ _,rfl,by rw[List.drop_zero];exact H2⟩
 case round=>
  clear H2;obtain⟨i,s',bN,rfl,H4⟩:=hrel;have K:=H4.o.box;have x1:=K.q1;have x2:=K.q2;have xg:=K.lt;clear K;by_cases bi:i < m
  ·obtain⟨v,hd⟩:∃d,l[i]? =some d:=⟨_,gE (by have:=hl.o;omega)⟩;obtain⟨⟨bk,bP⟩,a3,bQ⟩:=hv.o v (lm_ hd);obtain⟨q,rfl⟩:=eo_ bk;have aZ:q < f:=oo;have al:=h_ (fun(Z:World) (hZ:Below D.w0.heap.size D.w0 Z)=>Qu_ (HR.o.below hZ) bi hd);rw[YL_ hd,HG.o]at H4;rw[<-HG.o]at H4;have aO:=h_ a3;have o:=h_ (show i+1<=m from oo);have bF:i+1<=12:=oo;clear hd a3
   go_upto_if 21 with fail
   go_cut [7] (fun x7 wx=>x7=I_ j_ i/\∃c:Pb,Hid (Bt 137 D ps f fin (W.alloc (C_ #[I_ j_ 7,T_ t,S_ A' m c',B_ z] 96)) c r (.tied (q:Int) (inN (min a 40)) (decide (Qc_ ps (q:Int)=7)) (!ZB_ (Qc_ ps (q:Int)))::Xp_ g (i+1) (l.drop (i+1))) wx))
   case first=>
    by_cases L:0 < i
    ·have C:=h_ (show Bt 137 D ps f fin (W.alloc (C_ #[I_ j_ 7,T_ t,S_ A' m c',B_ z] 96)) s' r (Bv.put (⟨#[32]⟩++t)::.split 1 true (inN (min a 40))::.tied (q:Int) (inN (min a 40)) (decide (Qc_ ps (q:Int)=7)) (!ZB_ (Qc_ ps (q:Int)))::Xp_ g (i+1) (l.drop (i+1))) wr from by
      have h:=H4.o;rw[HG.o]at h;dsimp only at h;rw[ip_ L]at h;rw[HG.o];exact h)
     clear H4;have aC:=C.o.size;simp only[wB,Xj_,bs_]at aC;have a1:(⟨#[32]⟩:BA).size=1:=rfl;rw[a1]at aC;have bO:t.size<=1000000000000:=oo;clear a1 aC;go_wp2_with fail
     refine Bt.sput hi C ?_;intro W5 H6 k6;clear C k6;go_wp2_with fail
     refine Bt.ssplit hi H6 (by unfold inN;omega) ?_;intro W6 H7 k7;go_wp2_with fail
     go_meet;exact⟨rfl,_,H7⟩
    ·obtain rfl:i=0:=oo;have C:=h_ (show Bt 137 D ps f fin (W.alloc (C_ #[I_ j_ 7,T_ t,S_ A' m c',B_ z] 96)) s' r (.tied (q:Int) (inN (min a 40)) (decide (Qc_ ps (q:Int)=7)) (!ZB_ (Qc_ ps (q:Int)))::Xp_ g (0+1) (l.drop (0+1))) wr from by
      have h:=H4.o;rw[HG.o]at h;rw[HG.o];exact h)
     go_wp2_with fail
     go_meet;exact⟨rfl,s',C⟩
   case rest=>
    obtain⟨rfl,c,C⟩:=hcut;obtain⟨wA,rfl⟩:∃wA:World,wA=wc:=⟨_,rfl⟩;obtain⟨A0,c0,A1,c1,A2,c2,A3,c3,hA⟩:=C.o.C;obtain⟨u0,u1,u2,u3,un,ut,ub,uf,uz⟩:=hA.scells hi;clear u2 u3 ut ub hA x1 x2 xg H4;have K:=C.o.box;have x2:=K.q2;have xg:=K.lt;obtain⟨b5,bI,rfl,ao,cv⟩:=al.o _ C.o.C.old;have S:=C.o.c79;have aF:=C.o.size;have aB:=h_ (C.o.N q c (a+4) wA aZ aO.o oo oo (fun e=>by rw[hi]at e;cases e) C.o.c79 C.o.C (by simp only[wB,it_]at aF;exact aF));rw[show min (a+4) 40=inN (min a 40)by unfold inN;omega,hi]at aB;clear aF K;go_wp2_with fail
    refine aB.o.mono ?_;rintro e w6 ⟨rfl,V,ay⟩;have aL:=h_ V;have aM:=h_ ay;have aj:=h_ (WS_ ps f q (inN (min a 40)) c S);obtain⟨y,hy⟩:=HP.o.get (show q < D.n from oo);have R:=h_ (fun(h:y.kind=7)=>Qay_ (f:=f) hy (by rw[h];decide) aZ (inN (min a 40)) c r);obtain⟨b6,a4,A6,c6,eD,J,y0,_⟩:=HP.o.at_ (show q < D.n from oo) hy;have aH:=((QW_ V.old).1 _ _ J).trans y0;have ap:b6 < w6.heap.size:=ll_ J V.old.size;have aU:Qc_ ps (q:Int)=y.kind:=Qr_ hy;have bL:q < D.n:=oo;have aD:=aO.o;rw[aU]at C aD;have K6:=ay.2 _ _ C.o.box;have bC:=K6.q2;have bE:=K6.lt;obtain⟨b7,bJ,e7,aq,bc⟩:=al.o _ V.old;injection e7 with e7;injection e7 with e71 e72;subst e71;subst e72;obtain⟨B0,d0,B1,d1,B2,d2,B3,d3,hA⟩:=V;obtain⟨v0,v1,v2,v3,vn,vt,vb,vf,vz⟩:=hA.scells hi;rw[eD]at vn;have af:1<=y.kind/\y.kind<=11:=aD;clear aB ay hy eD y0 J aU S u0 u1 un uf uz x2 xg cv ao hA K6 aD;obtain⟨E,yt,yl,yz⟩:=y;replace aH:w6.cell? ⟨b6,a4+q * 4,none⟩=some (I_ j_ E):=aH;simp only at C R af;obtain⟨bG,bH⟩:=af;go_upto_region 11 with fail
    go_cut [10] (fun bA wx=>bA=I_ j_ E/\Hid (Below w6.heap.size w6 wx))
    case first=>
     go_quiet (fail);have aS:Below w6.heap.size w6 (w6.drewN nq):=⟨rfl,rfl,rfl,lr_ _,fun g _=>rfl⟩;have O:=h_ aS;clear aS;go_wp2_with fail
     go_meet;exact⟨rfl,O⟩
    case rest=>
    obtain⟨rfl,O⟩:=hcut;have P:=h_ (aL.o.next O.o);have Q:=h_ (aM.o.trans (Kb.below O.o));clear aL aM O aH bC bE bc aq v0 v1 v2 v3 vn vt vb vf vz ap al;generalize wc=w7 at *;by_cases h7:E=7
    ·subst h7;have a2:=(by first|exact R.o rfl|exact R.o trivial);go_wp2_with fail
     refine(WN_ D hi _ (c.rules.length:Int) r _ P.o oo).mono ?_;rintro e p ⟨rfl,ar,aT⟩;rw[a2]at ar;have G:=h_ ar;have I:=h_ (Q.o.trans aT);have bg:(3:Int) < 7:=oo;have ba:((QR_ ps f q (inN (min a 40)) c).tie (Q4_ c) r).chunks.length<=79:=(by rw[GL_];exact aj.o);have HF:=h_ (fun(M:World) (h:BdC D (((QR_ ps f q (inN (min a 40)) c).tie (Q4_ c) r).span c.chunks.length) M) (hk:Kb wA M)=>C.o.jump (show BdC D (((QR_ ps f q (inN (min a 40)) c).tie (Q4_ c) r).span c.chunks.length) M from h) hk);clear ar aT a2 P Q R bg;generalize (QR_ ps f q (inN (min a 40)) c).tie (Q4_ c) r=b at *;obtain⟨B0,d0,B1,d1,B2,d2,B3,d3,hA⟩:=G.o;obtain⟨v0,v1,v2,v3,vn,vt,vb,vf,vz⟩:=hA.scells hi;have N:=h_ hA;clear hA;by_cases q0:c.chunks.length < b.chunks.length
     ·by_cases q1:b.spans.length < 40
      ·have av:D.fo 2=4:=(by unfold BD.fo;rw[hi];rfl);obtain⟨i0,L,Y,aa,ab⟩:=info_parts qx_;have HI:=h_ (ai_ L (ai_ Y (ai_ aa ab)));have B:Below p.heap.size p (p.alloc (C_ #[I_ j_ (c.chunks.length:Int),I_ j_ ((b.chunks.length:Int) - 1),I_ j_ 1] 213)):=grow_;have HM:=h_ (N.o.r2.next B);have az:(p.alloc (C_ #[I_ j_ (c.chunks.length:Int),I_ j_ ((b.chunks.length:Int) - 1),I_ j_ 1] 213)).heap[p.heap.size]? =some (C_ #[I_ j_ (c.chunks.length:Int),I_ j_ ((b.chunks.length:Int) - 1),I_ j_ 1] 213 (0,0)):=heap_alloc_new p _;have ah:=h_ (show D.w0.heap.size<=(p.alloc (C_ #[I_ j_ (c.chunks.length:Int),I_ j_ ((b.chunks.length:Int) - 1),I_ j_ 1] 213)).heap.size from lt_ N.o.old.size B.size);have ag:=h_ (fun(w3:World) hg=>(N.o.grown B N.o.r2 (w3:=w3) hg (Ne.symm (YY_ D.imp).2.2.2.1) dc_).1);have ak:=h_ (fun(v':Value) (w3:World) h1 h2=>N.o.app2 av B (d:=((c.chunks.length:Int),(b.chunks.length:Int) - 1,1)) (v':=v') (w3:=w3) h1 h2);clear L Y aa ab B;go_upto_region 15 with fail
       have aE:IntKind.i64.wrap ((b.chunks.length:Int) - 1)=(b.chunks.length:Int) - 1:=(by rw[IntKind.wrap_i64];omega);go_region_law
        (refine step_append_lies _ rfl (.tmp 97) (.tmp 107) 146 rfl D.w0.heap.size 213 i0 (A_ #[I_ j_ 0,I_ j_ 0,I_ j_ 0]) 3 24 underlying146 HI.o.1 HI.o.2.1 HI.o.2.2.1 HI.o.2.2.2 rfl dc_ (S_ B2 b.spans.length d2) b.spans.length (b.spans.flatMap QJ_) ev_ (by first|exact HM.o.drew|exact HM.o) ⟨p.heap.size,0,none⟩ 1 1 (QJ_ ((c.chunks.length:Int),(b.chunks.length:Int) - 1,1)) ev_ (by rfl) (World.news_of_block (cs:=#[I_ j_ (c.chunks.length:Int),I_ j_ ((b.chunks.length:Int) - 1),I_ j_ 1]) (t:=213) (fr:=(0,0)) az) (qW_ _) dc_ mx_ oo (by first|exact ah.o) (p.heap.size+1) sm_ ?_
         intro q6 cap M A n an aV;have k:(p.alloc (C_ #[I_ j_ (c.chunks.length:Int),I_ j_ ((b.chunks.length:Int) - 1),I_ j_ 1] 213)).grownBy M (S_ B2 b.spans.length d2).ownBlock:=(by first|exact n|exact Q9_ n);have x:=ag.o _ k;rw[hi]at x;have j5:M.cell? ⟨D.T,4,none⟩=some (S_ B2 b.spans.length d2):=x.cell 4;have jf:=x.frozen;have jz:=x.lt;have HW:=h_ (ak.o _ _ A k);clear A n an k x)
       all_goals
        obtain⟨A9,c9,ev,am,T,U⟩:=HW.o;injection ev with ev1 ev2 ev3;subst ev1;subst ev3;have F:=HF.o _ (show BdC D (b.span c.chunks.length) _ from by
          rw[show b.span c.chunks.length=⟨b.rules,b.chunks,b.spans++[((c.chunks.length:Int),(b.chunks.length:Int) - 1,1)],b.ties,b.text⟩from ip_ ⟨q0,q1⟩];exact⟨_,_,_,_,_,_,_,_,T⟩) (I.o.trans U)
        have F:=h_ F;clear am T U HW ev2 q0 q1 aE;go_wp2;go_roundw
        case rel=>exact⟨i+1,_,o.o,by go_num,F⟩
        case measure=>have:=o.o;simp[intOf];omega
      ·have q2:40<=b.spans.length:=oo;have F:=h_ (HF.o _ (show BdC D (b.span c.chunks.length) p from by rw[show b.span c.chunks.length=b from in_ (fun h=>q1 h.2)];exact G.o) I.o);go_wp2;go_roundw
       case rel=>exact⟨i+1,_,o.o,by go_num,F⟩
       case measure=>have:=o.o;simp[intOf];omega
     ·have F:=h_ (HF.o _ (show BdC D (b.span c.chunks.length) p from by rw[show b.span c.chunks.length=b from in_ (fun h=>q0 h.1)];exact G.o) I.o);go_wp2;go_roundw
      case rel=>exact⟨i+1,_,o.o,by go_num,F⟩
      case measure=>have:=o.o;simp[intOf];omega
    ·have d7:decide (E=7)=false:=df_ h7;have b7:(E==7)=false:=bn_.2 h7;rw[d7]at C;by_cases hp:ZB_ E=true
     ·have bj:E<=3:=by
       have h:=od_ (show decide (E=1\/E=2\/E=3)=true from hp);omega
      have F:=h_ (C.o.jump (show BdC D (if (!ZB_ E)=true then (QR_ ps f q (inN (min a 40)) c).span c.chunks.length else QR_ ps f q (inN (min a 40)) c) w7 from by rw[hp];exact P.o) Q.o);clear hp d7;go_wp2;go_roundw
      case rel=>exact⟨i+1,_,o.o,by go_num,F⟩
      case measure=>have:=o.o;simp[intOf];omega
     ·have aA:ZB_ E=false:=(by cases h:ZB_ E;rfl;exact absurd h hp);have bj:3 < E:=by
       have h:=of_decide_eq_false (show decide (E=1\/E=2\/E=3)=false from aA);omega
      have G:=h_ P.o;have I:=h_ Q.o;have ba:=aj.o;have HF:=h_ (fun(M:World) (h:BdC D ((QR_ ps f q (inN (min a 40)) c).span c.chunks.length) M) (hk:Kb wA M)=>C.o.jump (show BdC D (if (!ZB_ E)=true then (QR_ ps f q (inN (min a 40)) c).span c.chunks.length else QR_ ps f q (inN (min a 40)) c) M from by rw[aA];exact h) hk);obtain⟨p,rfl⟩:∃p:World,p=w7:=⟨_,rfl⟩;clear P Q hp d7 aA R aj;generalize QR_ ps f q (inN (min a 40)) c=b at *;obtain⟨B0,d0,B1,d1,B2,d2,B3,d3,hA⟩:=G.o;obtain⟨v0,v1,v2,v3,vn,vt,vb,vf,vz⟩:=hA.scells hi;have N:=h_ hA;clear hA;by_cases q0:c.chunks.length < b.chunks.length
      ·by_cases q1:b.spans.length < 40
       ·have av:D.fo 2=4:=(by unfold BD.fo;rw[hi];rfl);obtain⟨i0,L,Y,aa,ab⟩:=info_parts qx_;have HI:=h_ (ai_ L (ai_ Y (ai_ aa ab)));have B:Below p.heap.size p (p.alloc (C_ #[I_ j_ (c.chunks.length:Int),I_ j_ ((b.chunks.length:Int) - 1),I_ j_ 1] 213)):=grow_;have HM:=h_ (N.o.r2.next B);have az:(p.alloc (C_ #[I_ j_ (c.chunks.length:Int),I_ j_ ((b.chunks.length:Int) - 1),I_ j_ 1] 213)).heap[p.heap.size]? =some (C_ #[I_ j_ (c.chunks.length:Int),I_ j_ ((b.chunks.length:Int) - 1),I_ j_ 1] 213 (0,0)):=heap_alloc_new p _;have ah:=h_ (show D.w0.heap.size<=(p.alloc (C_ #[I_ j_ (c.chunks.length:Int),I_ j_ ((b.chunks.length:Int) - 1),I_ j_ 1] 213)).heap.size from lt_ N.o.old.size B.size);have ag:=h_ (fun(w3:World) hg=>(N.o.grown B N.o.r2 (w3:=w3) hg (Ne.symm (YY_ D.imp).2.2.2.1) dc_).1);have ak:=h_ (fun(v':Value) (w3:World) h1 h2=>N.o.app2 av B (d:=((c.chunks.length:Int),(b.chunks.length:Int) - 1,1)) (v':=v') (w3:=w3) h1 h2);clear L Y aa ab B;go_upto_region 15 with fail
        have aE:IntKind.i64.wrap ((b.chunks.length:Int) - 1)=(b.chunks.length:Int) - 1:=(by rw[IntKind.wrap_i64];omega);go_region_law
          (refine step_append_lies _ rfl (.tmp 97) (.tmp 107) 146 rfl D.w0.heap.size 213 i0 (A_ #[I_ j_ 0,I_ j_ 0,I_ j_ 0]) 3 24 underlying146 HI.o.1 HI.o.2.1 HI.o.2.2.1 HI.o.2.2.2 rfl dc_ (S_ B2 b.spans.length d2) b.spans.length (b.spans.flatMap QJ_) ev_ (by first|exact HM.o.drew|exact HM.o) ⟨p.heap.size,0,none⟩ 1 1 (QJ_ ((c.chunks.length:Int),(b.chunks.length:Int) - 1,1)) ev_ (by rfl) (World.news_of_block (cs:=#[I_ j_ (c.chunks.length:Int),I_ j_ ((b.chunks.length:Int) - 1),I_ j_ 1]) (t:=213) (fr:=(0,0)) az) (qW_ _) dc_ mx_ oo (by first|exact ah.o) (p.heap.size+1) sm_ ?_
           intro q6 cap M A n an aV;have k:(p.alloc (C_ #[I_ j_ (c.chunks.length:Int),I_ j_ ((b.chunks.length:Int) - 1),I_ j_ 1] 213)).grownBy M (S_ B2 b.spans.length d2).ownBlock:=(by first|exact n|exact Q9_ n);have x:=ag.o _ k;rw[hi]at x;have j5:M.cell? ⟨D.T,4,none⟩=some (S_ B2 b.spans.length d2):=x.cell 4;have jf:=x.frozen;have jz:=x.lt;have HW:=h_ (ak.o _ _ A k);clear A n an k x)
        all_goals
          obtain⟨A9,c9,ev,am,T,U⟩:=HW.o;injection ev with ev1 ev2 ev3;subst ev1;subst ev3;have F:=HF.o _ (show BdC D (b.span c.chunks.length) _ from by
            rw[show b.span c.chunks.length=⟨b.rules,b.chunks,b.spans++[((c.chunks.length:Int),(b.chunks.length:Int) - 1,1)],b.ties,b.text⟩from ip_ ⟨q0,q1⟩];exact⟨_,_,_,_,_,_,_,_,T⟩) (I.o.trans U)
          have F:=h_ F;clear am T U HW ev2 q0 q1 aE;go_wp2;go_roundw
          case rel=>exact⟨i+1,_,o.o,by go_num,F⟩
          case measure=>have:=o.o;simp[intOf];omega
       ·have q2:40<=b.spans.length:=oo;have F:=h_ (HF.o _ (show BdC D (b.span c.chunks.length) p from by rw[show b.span c.chunks.length=b from in_ (fun h=>q1 h.2)];exact G.o) I.o);go_wp2;go_roundw
        case rel=>exact⟨i+1,_,o.o,by go_num,F⟩
        case measure=>have:=o.o;simp[intOf];omega
      ·have F:=h_ (HF.o _ (show BdC D (b.span c.chunks.length) p from by rw[show b.span c.chunks.length=b from in_ (fun h=>q0 h.1)];exact G.o) I.o);go_wp2;go_roundw
       case rel=>exact⟨i+1,_,o.o,by go_num,F⟩
       case measure=>have:=o.o;simp[intOf];omega
  ·obtain rfl:i=m:=oo;rw[Xu_ (Nat.le_of_eq hl.o)]at H4;go_wp2;go_end0;have h2:=H4.o.fin_;exact⟨rfl,h2.1,Zc_ h2.2⟩
theorem qX_ (D:BD) (hi:D.imp=false) (ps:List PN) (f:Nat) (ah:Nps D.w0 D.A D.n ps) (aU:f<=D.n) (hN:KidC 137 D ps f) (ac:Uh_ 2000000 ps (QR_ ps f)) (A':OA) (m c':Nat) (l:LI) (t:BA) (z:Bool) (s:Pb) (a:Int) (W:World) (hl:Hid (l.length=m)) (hm:m<=3) (hr:Rd D.w0 1 A' m (Qa_ l))
  (hv:Hid (∀v∈l,(0<=v/\v < (f:Int))/\QI_ (Qc_ ps v)/\a+4+4 * v<=4000)) (ha:0<=a) (aS:a<=4000) (n:s.chunks.length<=79) (hC:BdC D s W) (hZ:s.text.size+wS 2000000 ps (Y4_ ps l (inN (min a 40)))<=Xj_):
  Calls prog 190 #[P_ (some ⟨D.T,0,none⟩),A_ #[I_ j_ 8,T_ t,S_ A' m c',B_ z],I_ j_ a] W (YW_ D W (U_ #[]) (VL_ (QR_ ps f) (s,-1) (Y4_ ps l (inN (min a 40)))).1):=by
 obtain⟨fin,p⟩:=ex_ ((VL_ (QR_ ps f) (s,-1) (Y4_ ps l (inN (min a 40)))).1);rw[p];have ad:Below W.heap.size W (W.alloc (C_ #[I_ j_ 8,T_ t,S_ A' m c',B_ z] 96)):=grow_;have H:=h_ (show Bt 137 D ps f fin (W.alloc (C_ #[I_ j_ 8,T_ t,S_ A' m c',B_ z] 96)) s (-1) (Y4_ ps l (inN (min a 40))) (W.alloc (C_ #[I_ j_ 8,T_ t,S_ A' m c',B_ z] 96))from⟨hC.next ad,p,hZ,Kb.refl _,hN,ac,n⟩);have HR:=h_ hr;have HP:=h_ ah;clear hC hZ p hN ac hr ah ad n;unfold Y4_ at H;go_enter func190,ntmps190;go_wp2_with fail
 refine Bt.srule hi H ?_;intro W2 Y k2;clear H;obtain⟨r,aj⟩:=ex_ (Q4_ s);rw[aj]at Y |-
 generalize s.rule 2 1=s2 at Y;obtain⟨g,hg⟩:∃g:Nat->Int->List Bv,g=(fun i v=>(if 0 < i then [Bv.split 1 true (inN (min a 40)),.put (if i=1 then ⟨#[63,32]⟩else ⟨#[58,32]⟩)]else [])++[.tied v (inN (min a 40)) (decide (Qc_ ps v=8)) false]):=⟨_,rfl⟩;rw[<-hg]at Y;have V:=h_ hg;clear hg aj k2;go_wp2;go_loopw [7] (fun j wr=>∃(i:Nat) (X:Pb),i<=m/\j=I_ j_ i/\Hid (Bt 137 D ps f fin (W.alloc (C_ #[I_ j_ 8,T_ t,S_ A' m c',B_ z] 96)) X r (Xp_ g i (l.drop i)) wr)) (fun j _=>m - (intOf j).toNat)
 case atStart=>exact⟨0,s2,lz_ _,rfl,by rw[List.drop_zero];exact Y⟩
 case round=>
  clear Y;obtain⟨i,X,aV,rfl,A⟩:=hrel;have K:=A.o.box;have x1:=K.q1;have x2:=K.q2;have xg:=K.lt;clear K;by_cases aF:i < m
  ·obtain⟨v,hd⟩:∃d,l[i]? =some d:=⟨_,gE (by have:=hl.o;omega)⟩;obtain⟨⟨aG,aX⟩,al,aY⟩:=hv.o v (lm_ hd);obtain⟨q,rfl⟩:=eo_ aG;have ai:q < f:=oo;have aa:=h_ (fun(Z:World) (hZ:Below D.w0.heap.size D.w0 Z)=>Qu_ (HR.o.below hZ) aF hd);rw[YL_ hd,V.o]at A;rw[<-V.o]at A;have ab:=h_ al;have B:=h_ (show i+1<=m from oo);have aM:i+1<=12:=oo;clear hd al
   go_upto_if 19 with fail
   go_cut [7] (fun x7 wx=>x7=I_ j_ i/\∃E:Pb,Hid (Bt 137 D ps f fin (W.alloc (C_ #[I_ j_ 8,T_ t,S_ A' m c',B_ z] 96)) E r (.tied (q:Int) (inN (min a 40)) (decide (Qc_ ps (q:Int)=8)) false::Xp_ g (i+1) (l.drop (i+1))) wx))
   case first=>
    by_cases aE:0 < i
    ·have b:=h_ (show Bt 137 D ps f fin (W.alloc (C_ #[I_ j_ 8,T_ t,S_ A' m c',B_ z] 96)) X r (Bv.split 1 true (inN (min a 40))::.put (if i=1 then ⟨#[63,32]⟩else ⟨#[58,32]⟩)::.tied (q:Int) (inN (min a 40)) (decide (Qc_ ps (q:Int)=8)) false::Xp_ g (i+1) (l.drop (i+1))) wr from by
      have h:=A.o;rw[V.o]at h;dsimp only at h;rw[ip_ aE]at h;rw[V.o];exact h)
     clear A;go_wp2_with fail
     refine Bt.ssplit hi b (by unfold inN;omega) ?_;intro W5 U k6;clear b k6;generalize X.split r 1 true (inN (min a 40))=s5 at *;have ae:i=1\/i=2:=oo;rcases ae with rfl|rfl
     ·rw[ip_ rfl]at U;rw[show((1:Nat):Int)=1 from rfl];have xk:=(Blk.new W5 9 #[T_ ⟨#[]⟩,T_ ⟨#[63,32]⟩,T_ ⟨#[58,32]⟩]).cell 1;have G:=h_ (U.o.next (W':=W5.alloc (C_ #[T_ ⟨#[]⟩,T_ ⟨#[63,32]⟩,T_ ⟨#[58,32]⟩] 9)) grow_);clear U;go_wp2_with fail
      refine Bt.sput hi G ?_;intro W6 H7 k7;go_wp2_with fail
      go_meet;exact⟨rfl,_,H7⟩
     ·rw[in_ (show ¬2=1 by decide)]at U;rw[show((2:Nat):Int)=2 from rfl];have xk:=(Blk.new W5 9 #[T_ ⟨#[]⟩,T_ ⟨#[63,32]⟩,T_ ⟨#[58,32]⟩]).cell 2;have G:=h_ (U.o.next (W':=W5.alloc (C_ #[T_ ⟨#[]⟩,T_ ⟨#[63,32]⟩,T_ ⟨#[58,32]⟩] 9)) grow_);clear U;go_wp2_with fail
      refine Bt.sput hi G ?_;intro W6 H7 k7;go_wp2_with fail
      go_meet;exact⟨rfl,_,H7⟩
    ·obtain rfl:i=0:=oo;have b:=h_ (show Bt 137 D ps f fin (W.alloc (C_ #[I_ j_ 8,T_ t,S_ A' m c',B_ z] 96)) X r (.tied (q:Int) (inN (min a 40)) (decide (Qc_ ps (q:Int)=8)) false::Xp_ g (0+1) (l.drop (0+1))) wr from by
      have h:=A.o;rw[V.o]at h;rw[V.o];exact h)
     go_wp2_with fail
     go_meet;exact⟨rfl,X,b⟩
   case rest=>
    obtain⟨rfl,E,b⟩:=hcut;obtain⟨wA,rfl⟩:∃wA:World,wA=wc:=⟨_,rfl⟩;obtain⟨A0,c0,A1,c1,A2,c2,A3,c3,hA⟩:=b.o.C;obtain⟨u0,u1,u2,u3,un,ut,ub,uf,uz⟩:=hA.scells hi;clear u2 u3 ut ub hA x1 x2 xg A;have K:=b.o.box;have x2:=K.q2;have xg:=K.lt;obtain⟨b5,aP,rfl,L,cv⟩:=aa.o _ b.o.C.old;have n:=b.o.c79;have S:=b.o.size;have Q:=h_ (b.o.N q E (a+4) wA ai ab.o oo oo (fun e=>by rw[hi]at e;cases e) b.o.c79 b.o.C (by simp only[wB,it_]at S;exact S));rw[show min (a+4) 40=inN (min a 40)by unfold inN;omega,hi]at Q;clear S K;go_wp2_with fail
    refine Q.o.mono ?_;rintro e x ⟨rfl,o,P⟩;have I:=h_ o;have J:=h_ P;have aR:=h_ (WS_ ps f q (inN (min a 40)) E n);obtain⟨y,hy⟩:=HP.o.get (show q < D.n from oo);have C:=h_ (fun(h:y.kind=8)=>Qay_ (f:=f) hy (by rw[h];decide) ai (inN (min a 40)) E r);obtain⟨b6,am,A6,c6,eD,k,y0,_⟩:=HP.o.at_ (show q < D.n from oo) hy;have T:=((QW_ o.old).1 _ _ k).trans y0;have M:b6 < x.heap.size:=ll_ k o.old.size;have ag:Qc_ ps (q:Int)=y.kind:=Qr_ hy;have aT:q < D.n:=oo;have R:=ab.o;rw[ag]at b R;have K6:=P.2 _ _ b.o.box;have aJ:=K6.q2;have aL:=K6.lt;obtain⟨b7,aQ,e7,N,aB⟩:=aa.o _ o.old;injection e7 with e7;injection e7 with e71 e72;subst e71;subst e72;obtain⟨B0,d0,B1,d1,B2,d2,B3,d3,hA⟩:=o;obtain⟨v0,v1,v2,v3,vn,vt,vb,vf,vz⟩:=hA.scells hi;rw[eD]at vn;have F:1<=y.kind/\y.kind<=11:=R;clear Q P hy eD y0 k ag n u0 u1 un uf uz x2 xg cv L hA K6 R;obtain⟨yk,yt,yl,yz⟩:=y;replace T:x.cell? ⟨b6,am+q * 4,none⟩=some (I_ j_ yk):=T;simp only at b C F;obtain⟨aN,aO⟩:=F;by_cases h7:yk=8
    ·subst h7;go_upto_region 10 with fail
     go_quiet (fail);have c:Below x.heap.size x (x.drewN nq):=⟨rfl,rfl,rfl,lr_ _,fun g _=>rfl⟩;have ay:=h_ (I.o.next c);have az:=h_ (J.o.trans (Kb.below c));have ak:=(by first|exact C.o rfl|exact C.o trivial);clear I J c T aJ aL aB N v0 v1 v2 v3 vn vt vb vf vz M C;generalize x.drewN nq=w7 at *;go_wp2_with fail
     refine(WN_ D hi _ (E.rules.length:Int) r _ ay.o oo).mono ?_;rintro e w8 ⟨rfl,O,af⟩;rw[ak]at O;have H8:=h_ (b.o.jump (show BdC D ((QR_ ps f q (inN (min a 40)) E).tie (Q4_ E) r) w8 from O) (az.o.trans af));clear O af ak;go_wp2;go_roundw
     case rel=>exact⟨i+1,_,B.o,by go_num,H8⟩
     case measure=>have:=B.o;simp[intOf];omega
    ·have d7:decide (yk=8)=false:=df_ h7;have b7:(yk==8)=false:=bn_.2 h7;rw[d7]at b;go_upto_region 10 with fail
     go_quiet (fail);have c:Below x.heap.size x (x.drewN nq):=⟨rfl,rfl,rfl,lr_ _,fun g _=>rfl⟩;have H8:=h_ (b.o.jump (show BdC D (QR_ ps f q (inN (min a 40)) E) (x.drewN nq)from I.o.next c) (J.o.trans (Kb.below c)));clear d7 h7 c;go_wp2;go_roundw
     case rel=>exact⟨i+1,_,B.o,by go_num,H8⟩
     case measure=>have:=B.o;simp[intOf];omega
  ·obtain rfl:i=m:=oo;rw[Xu_ (Nat.le_of_eq hl.o)]at A;go_wp2;go_end0;have h2:=A.o.fin_;exact⟨rfl,h2.1,Zc_ h2.2⟩
theorem ZC_ {w:World} {A:OA} {n:Nat} {l:LI} (h:Rd w 1 A n (Qa_ l)) (hn:0 < n):∃b off,A=some ⟨b,off,none⟩:=by
 obtain⟨b,off,e,_,_⟩:=h.2 hn;exact⟨b,off,e⟩
theorem Rd.empty_ (w:World) (s:Nat) (A:OA):Rd w s A 0 []:=⟨by simp,fun h=>absurd h oo⟩
theorem QO_ {w w':World} {b off n i:Nat} {l:LI} {v:Int} (h:Rd w 1 (some ⟨b,off,none⟩) n (Qa_ l)) (hb:Below w.heap.size w w') (hi:i < n) (hd:l[i]? =some v):w'.cell? ⟨b,off+i,none⟩=some (I_ j_ v):=by
 obtain⟨b5,a,e,_,cv⟩:=Qu_ (h.below hb) hi hd;injection e with e;injection e with e1 e2;subst e1;subst e2;exact cv
theorem ZU_ {w w':World} {b off n:Nat} {l:LI} (h:Rd w 1 (some ⟨b,off,none⟩) n (Qa_ l)) (hb:Below w.heap.size w w') (hn:0 < n):b < w'.heap.size:=by
 obtain⟨b5,c,e,a,_⟩:=h.2 hn;injection e with e;injection e with e1 e2;subst e1;exact ll_ a hb.size
theorem j6_ (D:BD) (hi:D.imp=false) (ps:List PN) (m f j:Nat) (t:BA) (z:Bool) (a:Int) (s:Pb) (W:World) (h:VIn 137 D ps m f j ⟨1,t,[],z⟩ a s W):
  Calls prog 137 #[P_ (some ⟨D.T,0,none⟩),I_ j_ (j:Int),I_ j_ a] W (YW_ D W (U_ #[]) (QR_ ps (f+1) j (min a 40) s)):=by
 obtain⟨b,off,A',c',eD,d,y0,y1,y2,y3,hr,g⟩:=h.at_;obtain⟨A0,c0,A1,c1,A2,c2,A3,c3,hA⟩:=h.hC;obtain⟨_,_,_,_,un,_,_,uf,uz⟩:=hA.scells hi;rw[eD]at un;have i:j < D.n:=by have:=h.lt;have:=h.hn;omega
 have c:j<=300:=by have:=h.lt;have:=h.hF.few;omega
 have ha:=h.ha;have e:=h.hab;have HK:=h_ h.kids;have HR:=h_ hr;have HV:=h_ h;replace y0:W.cell? ⟨b,off+j * 4,none⟩=some (I_ j_ 1):=y0;replace y1:W.cell? ⟨b,off+j * 4+1,none⟩=some (T_ t):=y1;replace y2:W.cell? ⟨b,off+j * 4+2,none⟩=some (S_ A' 0 c'):=y2;replace y3:W.cell? ⟨b,off+j * 4+3,none⟩=some (B_ z):=y3;have H:=h_ (h.bt (min a 40) #[I_ j_ 1,T_ t,S_ A' 0 c',B_ z]);clear h hA eD hr;replace H:Hid (Bt 137 D ps f (QR_ ps (f+1) j (min a 40) s) (W.alloc (C_ #[I_ j_ 1,T_ t,S_ A' 0 c',B_ z] 96)) s (-1) [.put t] (W.alloc (C_ #[I_ j_ 1,T_ t,S_ A' 0 c',B_ z] 96))):=H;go_enter func137,ntmps137;go_wp2_with fail
 refine Bt.sput hi H ?_;intro W1 H1 k1;clear H k1;have H:=H1;clear H1;go_wp2;go_end0;have h2:=H.o.fin_;exact⟨rfl,h2.1,Zc_ h2.2⟩
theorem j7_ (D:BD) (hi:D.imp=false) (ps:List PN) (m f j:Nat) (t:BA) (z:Bool) (a:Int) (s:Pb) (W:World) (h:VIn 137 D ps m f j ⟨2,t,[],z⟩ a s W):
  Calls prog 137 #[P_ (some ⟨D.T,0,none⟩),I_ j_ (j:Int),I_ j_ a] W (YW_ D W (U_ #[]) (QR_ ps (f+1) j (min a 40) s)):=by
 obtain⟨b,off,A',c',eD,d,y0,y1,y2,y3,hr,g⟩:=h.at_;obtain⟨A0,c0,A1,c1,A2,c2,A3,c3,hA⟩:=h.hC;obtain⟨_,_,_,_,un,_,_,uf,uz⟩:=hA.scells hi;rw[eD]at un;have i:j < D.n:=by have:=h.lt;have:=h.hn;omega
 have c:j<=300:=by have:=h.lt;have:=h.hF.few;omega
 have ha:=h.ha;have e:=h.hab;have HK:=h_ h.kids;have HR:=h_ hr;have HV:=h_ h;replace y0:W.cell? ⟨b,off+j * 4,none⟩=some (I_ j_ 2):=y0;replace y1:W.cell? ⟨b,off+j * 4+1,none⟩=some (T_ t):=y1;replace y2:W.cell? ⟨b,off+j * 4+2,none⟩=some (S_ A' 0 c'):=y2;replace y3:W.cell? ⟨b,off+j * 4+3,none⟩=some (B_ z):=y3;have H:=h_ (h.bt (min a 40) #[I_ j_ 2,T_ t,S_ A' 0 c',B_ z]);clear h hA eD hr;replace H:Hid (Bt 137 D ps f (QR_ ps (f+1) j (min a 40) s) (W.alloc (C_ #[I_ j_ 2,T_ t,S_ A' 0 c',B_ z] 96)) s (-1) [.put t] (W.alloc (C_ #[I_ j_ 2,T_ t,S_ A' 0 c',B_ z] 96))):=H;go_enter func137,ntmps137;go_wp2_with fail
 refine Bt.sput hi H ?_;intro W1 H1 k1;clear H k1;have H:=H1;clear H1;go_wp2;go_end0;have h2:=H.o.fin_;exact⟨rfl,h2.1,Zc_ h2.2⟩
theorem j8_ (D:BD) (hi:D.imp=false) (ps:List PN) (m f j:Nat) (t:BA) (z:Bool) (a:Int) (s:Pb) (W:World) (h:VIn 137 D ps m f j ⟨3,t,[],z⟩ a s W):
  Calls prog 137 #[P_ (some ⟨D.T,0,none⟩),I_ j_ (j:Int),I_ j_ a] W (YW_ D W (U_ #[]) (QR_ ps (f+1) j (min a 40) s)):=by
 obtain⟨b,off,A',c',eD,d,y0,y1,y2,y3,hr,g⟩:=h.at_;obtain⟨A0,c0,A1,c1,A2,c2,A3,c3,hA⟩:=h.hC;obtain⟨_,_,_,_,un,_,_,uf,uz⟩:=hA.scells hi;rw[eD]at un;have i:j < D.n:=by have:=h.lt;have:=h.hn;omega
 have c:j<=300:=by have:=h.lt;have:=h.hF.few;omega
 have ha:=h.ha;have e:=h.hab;have HK:=h_ h.kids;have HR:=h_ hr;have HV:=h_ h;replace y0:W.cell? ⟨b,off+j * 4,none⟩=some (I_ j_ 3):=y0;replace y1:W.cell? ⟨b,off+j * 4+1,none⟩=some (T_ t):=y1;replace y2:W.cell? ⟨b,off+j * 4+2,none⟩=some (S_ A' 0 c'):=y2;replace y3:W.cell? ⟨b,off+j * 4+3,none⟩=some (B_ z):=y3;have H:=h_ (h.bt (min a 40) #[I_ j_ 3,T_ t,S_ A' 0 c',B_ z]);clear h hA eD hr;replace H:Hid (Bt 137 D ps f (QR_ ps (f+1) j (min a 40) s) (W.alloc (C_ #[I_ j_ 3,T_ t,S_ A' 0 c',B_ z] 96)) s (-1) [.put t] (W.alloc (C_ #[I_ j_ 3,T_ t,S_ A' 0 c',B_ z] 96))):=H;go_enter func137,ntmps137;go_wp2_with fail
 refine Bt.sput hi H ?_;intro W1 H1 k1;clear H k1;have H:=H1;clear H1;go_wp2;go_end0;have h2:=H.o.fin_;exact⟨rfl,h2.1,Zc_ h2.2⟩
theorem Qei_ (D:BD) (hi:D.imp=false) (ps:List PN) (m f j:Nat) (t:BA) (z:Bool) (a:Int) (s:Pb) (W:World) (q:Nat) (h:VIn 137 D ps m f j ⟨11,t,[(q:Int)],z⟩ a s W) (k:QI_ (Qc_ ps (q:Int))):
  Calls prog 137 #[P_ (some ⟨D.T,0,none⟩),I_ j_ (j:Int),I_ j_ a] W (YW_ D W (U_ #[]) (QR_ ps (f+1) j (min a 40) s)):=by
 obtain⟨b,off,A',c',eD,l,y0,y1,y2,y3,hr,p⟩:=h.at_;obtain⟨A0,c0,A1,c1,A2,c2,A3,c3,hA⟩:=h.hC;obtain⟨_,_,_,_,un,_,_,uf,uz⟩:=hA.scells hi;rw[eD]at un;have r:j < D.n:=by have:=h.lt;have:=h.hn;omega
 have e:j<=300:=by have:=h.lt;have:=h.hF.few;omega
 have ha:=h.ha;have o:=h.hab;have HK:=h_ h.kids;have HR:=h_ hr;have HV:=h_ h;replace y0:W.cell? ⟨b,off+j * 4,none⟩=some (I_ j_ 11):=y0;replace y1:W.cell? ⟨b,off+j * 4+1,none⟩=some (T_ t):=y1;replace y2:W.cell? ⟨b,off+j * 4+2,none⟩=some (S_ A' 1 c'):=y2;replace y3:W.cell? ⟨b,off+j * 4+3,none⟩=some (B_ z):=y3;have H:=h_ (h.bt (min a 40) #[I_ j_ 11,T_ t,S_ A' 1 c',B_ z]);clear h hA eD hr;replace H:Hid (Bt 137 D ps f (QR_ ps (f+1) j (min a 40) s) (W.alloc (C_ #[I_ j_ 11,T_ t,S_ A' 1 c',B_ z] 96)) s (-1) ([.put ⟨#[40]⟩,.kid (q:Int) (min a 40),.put ⟨#[41]⟩]) (W.alloc (C_ #[I_ j_ 11,T_ t,S_ A' 1 c',B_ z] 96))):=H;obtain⟨b5,n,rfl⟩:=ZC_ HR.o sm_;obtain⟨⟨v,x⟩,y,A⟩:=HK.o (q:Int) sm_;have g:q < f:=oo;go_enter func137,ntmps137;go_wp2_with fail
 refine Bt.sput hi H ?_;intro W1 c d;clear H d;have H:=c;clear c;have K:=H.o.box;have x1:=K.q1;have x2:=K.q2;have xg:=K.lt;clear K;have cv:=QO_ HR.o H.o.C.old (i:=0) sm_ rfl;rw[Nat.add_zero]at cv;go_wp2_with fail
 refine Bt.kid H g k ha oo rfl ?_;intro W1 c d;clear H d x1 x2 xg cv;have H:=c;clear c;rw[hi];go_wp2_with fail
 refine Bt.sput hi H ?_;intro W1 c d;clear H d;have H:=c;clear c;go_wp2;go_end0;have h2:=H.o.fin_;exact⟨rfl,h2.1,Zc_ h2.2⟩
theorem Qeh_ (D:BD) (hi:D.imp=false) (ps:List PN) (m f j:Nat) (t:BA) (z:Bool) (a:Int) (s:Pb) (W:World) (q:Nat) (h:VIn 137 D ps m f j ⟨6,t,[(q:Int)],z⟩ a s W) (g:QI_ (Qc_ ps (q:Int))):
  Calls prog 137 #[P_ (some ⟨D.T,0,none⟩),I_ j_ (j:Int),I_ j_ a] W (YW_ D W (U_ #[]) (QR_ ps (f+1) j (min a 40) s)):=by
 obtain⟨b,off,A',c',eD,l,y0,y1,y2,y3,hr,p⟩:=h.at_;obtain⟨A0,c0,A1,c1,A2,c2,A3,c3,hA⟩:=h.hC;obtain⟨_,_,_,_,un,_,_,uf,uz⟩:=hA.scells hi;rw[eD]at un;have r:j < D.n:=by have:=h.lt;have:=h.hn;omega
 have d:j<=300:=by have:=h.lt;have:=h.hF.few;omega
 have ha:=h.ha;have o:=h.hab;have HK:=h_ h.kids;have HR:=h_ hr;have HV:=h_ h;replace y0:W.cell? ⟨b,off+j * 4,none⟩=some (I_ j_ 6):=y0;replace y1:W.cell? ⟨b,off+j * 4+1,none⟩=some (T_ t):=y1;replace y2:W.cell? ⟨b,off+j * 4+2,none⟩=some (S_ A' 1 c'):=y2;replace y3:W.cell? ⟨b,off+j * 4+3,none⟩=some (B_ z):=y3;have H:=h_ (h.bt (min a 40) #[I_ j_ 6,T_ t,S_ A' 1 c',B_ z]);clear h hA eD hr;replace H:Hid (Bt 137 D ps f (QR_ ps (f+1) j (min a 40) s) (W.alloc (C_ #[I_ j_ 6,T_ t,S_ A' 1 c',B_ z] 96)) s (-1) ([.kid (q:Int) (min a 40),.put (⟨#[46]⟩++t)]) (W.alloc (C_ #[I_ j_ 6,T_ t,S_ A' 1 c',B_ z] 96))):=H;obtain⟨b5,n,rfl⟩:=ZC_ HR.o sm_;obtain⟨⟨v,x⟩,y,A⟩:=HK.o (q:Int) sm_;have e:q < f:=oo;have ht:=HV.o.hpn _ (lm_ HV.o.hx);have B:t.size<=1048576:=ht.1;clear ht;have cv:=QO_ HR.o (H.o.C.old) (i:=0) sm_ rfl;rw[Nat.add_zero]at cv;go_enter func137,ntmps137;go_wp2_with fail
 refine Bt.kid H e g ha oo rfl ?_;intro W1 c k;clear H k cv;have H:=c;clear c;rw[hi];have K:=H.o.box;have x1:=K.q1;have x2:=K.q2;have xg:=K.lt;clear K;go_wp2_with fail
 refine Bt.sput hi H ?_;intro W1 c k;clear H k x1 x2 xg;have H:=c;clear c;go_wp2;go_end0;have h2:=H.o.fin_;exact⟨rfl,h2.1,Zc_ h2.2⟩
theorem Qb3_ (D:BD) (hi:D.imp=false) (ps:List PN) (m f j:Nat) (t:BA) (z:Bool) (a:Int) (s:Pb) (W:World) (l:LI) (h:VIn 137 D ps m f j ⟨4,t,l,z⟩ a s W) (i:∀v∈l,QI_ (Qc_ ps v)):
  Calls prog 137 #[P_ (some ⟨D.T,0,none⟩),I_ j_ (j:Int),I_ j_ a] W (YW_ D W (U_ #[]) (QR_ ps (f+1) j (min a 40) s)):=by
 obtain⟨b,off,A',c',eD,k,y0,y1,y2,y3,hr,o⟩:=h.at_;obtain⟨A0,c0,A1,c1,A2,c2,A3,c3,hA⟩:=h.hC;obtain⟨_,_,_,_,un,_,_,uf,uz⟩:=hA.scells hi;rw[eD]at un;have p:j < D.n:=by have:=h.lt;have:=h.hn;omega
 have d:j<=300:=by have:=h.lt;have:=h.hF.few;omega
 have ha:=h.ha;have n:=h.hab;have HK:=h_ h.kids;have HR:=h_ hr;have c:=h_ h;replace y0:W.cell? ⟨b,off+j * 4,none⟩=some (I_ j_ 4):=y0;replace y1:W.cell? ⟨b,off+j * 4+1,none⟩=some (T_ t):=y1;replace y2:W.cell? ⟨b,off+j * 4+2,none⟩=some (S_ A' l.length c'):=y2;replace y3:W.cell? ⟨b,off+j * 4+3,none⟩=some (B_ z):=y3;have H:=h_ (h.bt (min a 40) #[I_ j_ 4,T_ t,S_ A' l.length c',B_ z]);clear h hA eD hr;have HL:=h_ (YR_ D hi ps f c.o.hN c.o.light A' l.length c' l ⟨#[91]⟩ ⟨#[93]⟩ s a (W.alloc (C_ #[I_ j_ 4,T_ t,S_ A' l.length c',B_ z] 96)) (h_ rfl) c.o.few HR.o (h_ (fun v g=>⟨(HK.o v g).1,i v g,(HK.o v g).2.2⟩)) ha oo c.o.h79 (c.o.hC.next grow_) (c.o.weight (min a 40)));have HE:=h_ (show(VL_ (QR_ ps f) (s,-1) (XT_ ⟨#[91]⟩ ⟨#[93]⟩ l (min a 40))).1=QR_ ps (f+1) j (min a 40) s from(KX_ c.o.hx (min a 40) s).symm);rw[HE.o]at HL;clear HE H;go_enter func137,ntmps137;go_wp2_with fail
 refine HL.o.mono ?_;rintro e w2 ⟨rfl,h2,h3⟩;have H2:=h_ h2;have H3:=h_ h3;clear h2 h3;go_wp2;go_end0;exact⟨rfl,H2.o,Zc_ H3.o⟩
theorem j5_ (D:BD) (hi:D.imp=false) (ps:List PN) (m f j:Nat) (t:BA) (z:Bool) (a:Int) (s:Pb) (W:World) (l:LI) (h:VIn 137 D ps m f j ⟨7,t,l,z⟩ a s W) (i:∀v∈l,QI_ (Qc_ ps v)):
  Calls prog 137 #[P_ (some ⟨D.T,0,none⟩),I_ j_ (j:Int),I_ j_ a] W (YW_ D W (U_ #[]) (QR_ ps (f+1) j (min a 40) s)):=by
 obtain⟨b,off,A',c',eD,k,y0,y1,y2,y3,hr,o⟩:=h.at_;obtain⟨A0,c0,A1,c1,A2,c2,A3,c3,hA⟩:=h.hC;obtain⟨_,_,_,_,un,_,_,uf,uz⟩:=hA.scells hi;rw[eD]at un;have p:j < D.n:=by have:=h.lt;have:=h.hn;omega
 have d:j<=300:=by have:=h.lt;have:=h.hF.few;omega
 have ha:=h.ha;have n:=h.hab;have HK:=h_ h.kids;have HR:=h_ hr;have c:=h_ h;replace y0:W.cell? ⟨b,off+j * 4,none⟩=some (I_ j_ 7):=y0;replace y1:W.cell? ⟨b,off+j * 4+1,none⟩=some (T_ t):=y1;replace y2:W.cell? ⟨b,off+j * 4+2,none⟩=some (S_ A' l.length c'):=y2;replace y3:W.cell? ⟨b,off+j * 4+3,none⟩=some (B_ z):=y3;have H:=h_ (h.bt (min a 40) #[I_ j_ 7,T_ t,S_ A' l.length c',B_ z]);clear h hA eD hr;have HL:=h_ (za_ D hi ps f c.o.hps c.o.hfn c.o.hN c.o.light A' l.length c' l t z s a (W.alloc (C_ #[I_ j_ 7,T_ t,S_ A' l.length c',B_ z] 96)) (h_ rfl) c.o.few HR.o (h_ (fun v g=>⟨(HK.o v g).1,i v g,(HK.o v g).2.2⟩)) ha oo c.o.h79 (c.o.hC.next grow_) (c.o.weight (min a 40)));have HE:=h_ (show(VL_ (QR_ ps f) (s,-1) (ZS_ ps t l (inN (min a 40)))).1=QR_ ps (f+1) j (min a 40) s from(KX_ c.o.hx (min a 40) s).symm);rw[HE.o]at HL;clear HE H;go_enter func137,ntmps137;go_wp2_with fail
 refine HL.o.mono ?_;rintro e w2 ⟨rfl,h2,h3⟩;have H2:=h_ h2;have H3:=h_ h3;clear h2 h3;go_wp2;go_end0;exact⟨rfl,H2.o,Zc_ H3.o⟩
theorem Qb4_ (D:BD) (hi:D.imp=false) (ps:List PN) (m f j:Nat) (t:BA) (z:Bool) (a:Int) (s:Pb) (W:World) (l:LI) (h:VIn 137 D ps m f j ⟨8,t,l,z⟩ a s W) (k:∀v∈l,QI_ (Qc_ ps v)) (d:Hid (l.length=3)):
  Calls prog 137 #[P_ (some ⟨D.T,0,none⟩),I_ j_ (j:Int),I_ j_ a] W (YW_ D W (U_ #[]) (QR_ ps (f+1) j (min a 40) s)):=by
 obtain⟨b,off,A',c',eD,n,y0,y1,y2,y3,hr,p⟩:=h.at_;obtain⟨A0,c0,A1,c1,A2,c2,A3,c3,hA⟩:=h.hC;obtain⟨_,_,_,_,un,_,_,uf,uz⟩:=hA.scells hi;rw[eD]at un;have q:j < D.n:=by have:=h.lt;have:=h.hn;omega
 have g:j<=300:=by have:=h.lt;have:=h.hF.few;omega
 have ha:=h.ha;have o:=h.hab;have HK:=h_ h.kids;have HR:=h_ hr;have c:=h_ h;replace y0:W.cell? ⟨b,off+j * 4,none⟩=some (I_ j_ 8):=y0;replace y1:W.cell? ⟨b,off+j * 4+1,none⟩=some (T_ t):=y1;replace y2:W.cell? ⟨b,off+j * 4+2,none⟩=some (S_ A' l.length c'):=y2;replace y3:W.cell? ⟨b,off+j * 4+3,none⟩=some (B_ z):=y3;have H:=h_ (h.bt (min a 40) #[I_ j_ 8,T_ t,S_ A' l.length c',B_ z]);clear h hA eD hr;have HL:=h_ (qX_ D hi ps f c.o.hps c.o.hfn c.o.hN c.o.light A' l.length c' l t z s a (W.alloc (C_ #[I_ j_ 8,T_ t,S_ A' l.length c',B_ z] 96)) (h_ rfl) (by have:=d.o;omega) HR.o (h_ (fun v i=>⟨(HK.o v i).1,k v i,(HK.o v i).2.2⟩)) ha oo c.o.h79 (c.o.hC.next grow_) (c.o.weight (min a 40)));have HE:=h_ (show(VL_ (QR_ ps f) (s,-1) (Y4_ ps l (inN (min a 40)))).1=QR_ ps (f+1) j (min a 40) s from(KX_ c.o.hx (min a 40) s).symm);rw[HE.o]at HL;clear HE H;go_enter func137,ntmps137;go_wp2_with fail
 refine HL.o.mono ?_;rintro e w2 ⟨rfl,h2,h3⟩;have H2:=h_ h2;have H3:=h_ h3;clear h2 h3;go_wp2;go_end0;exact⟨rfl,H2.o,Zc_ H3.o⟩
theorem Qb1_ (D:BD) (hi:D.imp=false) (ps:List PN) (m f j:Nat) (t:BA) (z:Bool) (a:Int) (s:Pb) (W:World) (q:Nat) (l:LI) (h:VIn 137 D ps m f j ⟨5,t,(q:Int)::l,z⟩ a s W) (A:QI_ (Qc_ ps (q:Int))) (M:∀v∈l,QI_ (Qc_ ps v)):
  Calls prog 137 #[P_ (some ⟨D.T,0,none⟩),I_ j_ (j:Int),I_ j_ a] W (YW_ D W (U_ #[]) (QR_ ps (f+1) j (min a 40) s)):=by
 obtain⟨b,off,A',c',eD,N,y0,y1,y2,y3,hr,I⟩:=h.at_;obtain⟨A0,c0,A1,c1,A2,c2,A3,c3,hA⟩:=h.hC;obtain⟨_,_,_,_,un,_,_,uf,uz⟩:=hA.scells hi;rw[eD]at un;have S:j < D.n:=by have:=h.lt;have:=h.hn;omega
 have J:j<=300:=by have:=h.lt;have:=h.hF.few;omega
 have C:=h.ha;have P:=h.hab;have G:=h_ h.kids;have B:=h_ hr;have g:=h_ h;replace y0:W.cell? ⟨b,off+j * 4,none⟩=some (I_ j_ 5):=y0;replace y1:W.cell? ⟨b,off+j * 4+1,none⟩=some (T_ t):=y1;replace y2:W.cell? ⟨b,off+j * 4+2,none⟩=some (S_ A' (l.length+1) c'):=y2;replace y3:W.cell? ⟨b,off+j * 4+3,none⟩=some (B_ z):=y3;have H:=h_ (h.bt (min a 40) #[I_ j_ 5,T_ t,S_ A' (l.length+1) c',B_ z]);clear h hA eD hr;replace H:Hid (Bt 137 D ps f (QR_ ps (f+1) j (min a 40) s) (W.alloc (C_ #[I_ j_ 5,T_ t,S_ A' (l.length+1) c',B_ z] 96)) s (-1) (.kid (q:Int) (min a 40)::XT_ ⟨#[40]⟩ ⟨#[41]⟩ l (min a 40)) (W.alloc (C_ #[I_ j_ 5,T_ t,S_ A' (l.length+1) c',B_ z] 96))):=H;obtain⟨b5,d,rfl⟩:=ZC_ B.o sm_;obtain⟨⟨T,U⟩,V,X⟩:=G.o (q:Int) sm_;have r:q < f:=oo;have cv:=QO_ B.o g.o.hC.old (i:=0) sm_ rfl;rw[Nat.add_zero]at cv;have Q:=ZU_ B.o g.o.hC.old sm_;have em:((l.length+1:Nat):Int) - 1=(l.length:Int):=oo;have O:l.length+1<=c':=I;have x:Rd D.w0 1 (some ⟨b5,d+1,none⟩) l.length (Qa_ l):=UL_ B.o sm_ sm_;have L:c'=1->l=[]:=fun e=>ln_ oo
 by_cases p:c'=1
 ·obtain rfl:l=[]:=L p;subst p;clear em x;go_enter func137,ntmps137;go_wp2_with fail
  refine Bt.kid H r A C oo rfl ?_;intro W1 c k1;rw[hi];have K:=c.o.box;have x2:=K.q2;have xg:=K.lt;have k:=h_ (fun A2=>YR_ D hi ps f g.o.hN g.o.light A2 0 0 [] ⟨#[40]⟩ ⟨#[41]⟩ (QR_ ps f q (min a 40) s) a W1 (h_ rfl) oo (Rd.empty_ _ _ _) (h_ (fun v y=>(by cases y))) C oo c.o.c79 c.o.C c.o.Z);rw[c.o.L]at k;clear H K;go_wp2_with fail
  refine(k.o _).mono ?_;rintro e w2 ⟨rfl,n,o⟩;have E:=h_ n;have F:=h_ (c.o.K.trans o);clear n o;go_wp2;go_end0;exact⟨rfl,E.o,Zc_ F.o⟩
 ·have R:1 < c':=oo;go_enter func137,ntmps137;go_wp2_with fail
  refine Bt.kid H r A C oo rfl ?_;intro W1 c k1;rw[hi];have K:=c.o.box;have x2:=K.q2;have xg:=K.lt;have k:=h_ (fun c2=>YR_ D hi ps f g.o.hN g.o.light (some ⟨b5,d+1,none⟩) l.length c2 l ⟨#[40]⟩ ⟨#[41]⟩ (QR_ ps f q (min a 40) s) a W1 (h_ rfl) (by have:=g.o.few;simp only[List.length_cons]at this;omega) x (h_ (fun v y=>⟨(G.o v (List.mem_cons_of_mem _ y)).1,M v y,(G.o v (List.mem_cons_of_mem _ y)).2.2⟩)) C oo c.o.c79 c.o.C c.o.Z);rw[c.o.L]at k;clear H K;go_wp2_with fail
  refine(k.o _).mono ?_;rintro e w2 ⟨rfl,n,o⟩;have E:=h_ n;have F:=h_ (c.o.K.trans o);clear n o;go_wp2;go_end0;exact⟨rfl,E.o,Zc_ F.o⟩
end Go.Proofs.YtbiijipkgfpgoaaGreatDoor

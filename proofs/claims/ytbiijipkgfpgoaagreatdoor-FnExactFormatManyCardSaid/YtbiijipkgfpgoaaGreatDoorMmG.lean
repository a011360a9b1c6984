/-
  Put together by program.
-/
import Derived.Test.YtbiijipkgfpgoaaGreatDoorMmD
set_option maxRecDepth 100000
set_option linter.all false
set_option maxHeartbeats 25600000
open Go.Proofs.Tryz
open Go.Value renaming int→I_,slice→S_,string→T_,bool→B_,pointer→P_,agg→A_,tuple→U_
open Go.IntKind renaming i64→j_
open Go.Obj renaming cells→C_
open List renaming length→η
open Go renaming World→Ω,Calls→Δ,Value→Υ
open Go.Proofs.Tryz renaming prog→π
open Go.RowKit renaming Hid→Ψ
open Bool renaming true→τ,false→φ
open Option renaming none→ν,some→σ
namespace Go.Proofs.YtbiijipkgfpgoaaGreatDoor
open Go.RowKit
variable (d:BD)(e:OA)(n c:Nat)(l:List BA)(g:Ω)(s:Nat)(h:OA)(i:Pb)(a b:BA)(r:List BA){j:LI}{f:Nat}{w k:Ω}
def YD_ (F:FuncId) (hF:F=224) (D:BD) (hi:D.imp=τ) (ps:List PN) (f:Nat) (hN:KidC F D ps f) (G:Uh_ 2000000 ps (QR_ ps f)) (A':OA) (m c':Nat) (l:LI) (op en:BA) (s:Pb) (a:Int) (W:Ω) (hl:Ψ (η l=m)) (hm:m<=12) (K:Rd D.w0 1 A' m (Qa_ l))
  (hv:Ψ (∀v∈l,(0<=v/\v<(f:Int))/\QI_ (Qc_ ps v)/\v<=900)) (ha:0<=a/\a<=40) (E:η s.chunks<=79) (P:BdC D s W) (hZ:s.text.size+wS 2000000 ps (XT_ op en l a)<=Xj_):
  Δ π 248 #[P_ (σ ⟨D.T,0,ν⟩),T_ op,S_ A' m c',T_ en,I_ j_ a] W (YW_ D W (U_ #[]) (VL_ (QR_ ps f) (s,-1) (XT_ op en l a)).1):=by
 subst hF;obtain⟨fin,c⟩:=ex_ ((VL_ (QR_ ps f) (s,-1) (XT_ op en l a)).1);rw[c];have H:=h_ (show Bt 224 D ps f fin W s (-1) (XT_ op en l a) W from⟨P,c,hZ,Kb.refl _,hN,G,E⟩);obtain⟨A,z,B⟩:=P.tx;have HR:=h_ K;unfold XT_ at H;have b:=H.o.size;simp only[wB,Xj_]at b;obtain⟨Y,Z⟩:=ha;by_cases I:m=0
 ·subst I;rw[ip_ hl.o]at H;go_in;go_upto_region 1 with fail
  have k:=h_ H.o.put;generalize W.setCell ⟨D.T,6,ν⟩ (T_ (s.text++op))=W1 at *;obtain⟨A,z,B⟩:=k.o.C.tx;have b:=k.o.size;simp only[wB,Xj_]at b;go_wp2;go_end0;have O:=(k.o.put).fin_;exact⟨rfl,O⟩
 rw[in_ (by rw[hl.o];exact I)]at H;have ab:0<m:=oo;go_in;go_upto_region 1 with fail
 have k:=h_ H.o.put;generalize W.setCell ⟨D.T,6,ν⟩ (T_ (s.text++op))=W1 at *;rw[hl.o]at k;go_wp2_with fail;refine Bt.irule hi k ?_;intro W2 M k2;obtain⟨r,K⟩:=ex_ (Q4_ (s.put op));rw[K]at M |-
 generalize (s.put op).rule (min (m:Int) 2+1) 1=s2 at M;go_wp2_with fail;refine Bt.isplit hi M (by unfold inN;omega) ?_;intro W3 p k3;generalize s2.split r 1 φ (inN a)=s3 at p;obtain⟨g,Q⟩:∃g:Nat->Int->List Bv,g=(λi v=>(if 0<i then [Bv.put ⟨#[44]⟩,.split (min (m:Int) 2) τ (inN a)]else [])++[.kid v (inN a)]):=⟨_,rfl⟩;rw[<-Q]at p;replace p:Ψ (Bt 224 D ps f fin W s3 r (Xp_ g 0 l++([.split 1 φ a]++[.put en])) W3):=by rw[<-List.append_assoc];exact p
 have x:=h_ Q;go_wp2;go_loopw [42] (λj wr=>∃(i:Nat) (y:Pb),i<=m/\j=I_ j_ i/\Ψ (Bt 224 D ps f fin W y r (Xp_ g i (l.drop i)++([.split 1 φ a]++[.put en])) wr)) (λj _=>m-(intOf j).toNat)
 ·exact⟨0,s3,lz_ _,rfl,by rw[List.drop_zero];exact p⟩
 obtain⟨i,y,aa,rfl,e⟩:=hrel;by_cases S:i<m
 ·obtain⟨v,hd⟩:∃d,l[i]? =σ d:=⟨_,gE (by have:=hl.o;omega)⟩;obtain⟨⟨T,ac⟩,L,ad⟩:=hv.o v (lm_ hd);obtain⟨q,rfl⟩:=eo_ T;have J:q<f:=oo;obtain⟨b5,X,rfl,o,cv⟩:=Qu_ (HR.o.below e.o.C.old) S hd;rw[YL_ hd,x.o]at e;rw[<-x.o]at e;have C:=h_ L;by_cases R:0<i
  ·have n:Ψ (Bt 224 D ps f fin W y r (.put ⟨#[44]⟩::.split (min (m:Int) 2) τ (inN a)::.kid (q:Int) (inN a)::(Xp_ g (i+1) (l.drop (i+1))++([.split 1 φ a]++[.put en]))) wr):=by
    have h:=e.o;rw[x.o]at h;dsimp only at h;rw[ip_ R]at h;rw[x.o];exact h_ h
   obtain⟨A,z,B⟩:=n.o.C.tx;have b:=n.o.size;simp only[wB,Xj_]at b;go_upto_region 11 with fail
   have H6:=h_ n.o.put;generalize wr.setCell ⟨D.T,6,ν⟩ (T_ (y.text++⟨#[44]⟩))=W5 at *;go_wp2_with fail;refine Bt.isplit hi H6 (by unfold inN;omega) ?_;intro W6 t U;go_wp2_with fail;refine Bt.kid t J C.o oo oo (by unfold inN;omega) ?_;intro W7 N V;rw[hi];go_wp2;exact⟨⟨i+1,_,oo,by go_num,N⟩,ms_⟩
  obtain rfl:i=0:=oo;rw[Nat.add_zero]at cv;have n:Ψ (Bt 224 D ps f fin W y r (.kid (q:Int) (inN a)::(Xp_ g (0+1) (l.drop (0+1))++([.split 1 φ a]++[.put en]))) wr):=by
   have h:=e.o;rw[x.o]at h;rw[x.o];exact h_ h
  go_wp2_with fail;refine Bt.kid n J C.o oo oo (by unfold inN;omega) ?_;intro W7 N V;rw[hi];go_wp2;exact⟨⟨0+1,_,oo,by go_num,N⟩,ms_⟩
 obtain rfl:i=m:=oo;rw[Xu_ (Nat.le_of_eq hl.o)]at e;go_wp2_with fail;refine Bt.isplit hi e rfl ?_;intro W6 t U;obtain⟨A,z,B⟩:=t.o.C.tx;have b:=t.o.size;simp only[wB,Xj_]at b;generalize y.split r 1 φ a=s7 at *;go_wp2;go_end0;have O:=(t.o.put).fin_;exact⟨rfl,O⟩
def Bt.box {F:FuncId} {D:BD} {ps:List PN} {fin:Pb} {s:Pb} {r:Int} {es:List Bv}  {cs:Array Υ} (H:Bt F D ps f fin (w.alloc (C_ cs 96)) s r es k):Blk k w.heap.size 96 cs:=H.K.2 _ _ (Blk.new w 96 cs)
def Zc_ {o:Obj} (h:Kb (w.alloc o) k):Kb w k:=(Kb.below (br.alloc (lr_ _) o)).trans h
def BdC.ti {D:BD} {s:Pb} (h:BdC D s w) (hi:D.imp=τ):(∃A1 c1,w.cell? ⟨D.T,2,ν⟩=σ (S_ A1 (η s.chunks) c1))/\w.cell? ⟨D.T,5,ν⟩=σ (S_ D.A D.n D.c)/\(∀i,w.frozen? ⟨D.T,i,ν⟩=φ)/\D.T<w.heap.size:=by
 obtain⟨A0,c0,A1,c1,A2,c2,A3,c3,h⟩:=h;have:=h.icells hi;exact⟨⟨A1,c1,this.2.1⟩,this.2.2.2.2.1,this.2.2.2.2.2.2.2.1,this.2.2.2.2.2.2.2.2⟩
def own7 {ps:List PN} {q:Nat} (h:Qc_ ps (q:Int)=7\/Qc_ ps (q:Int)=8) (s:Pb):ownN ps q s=Q4_ s:=by
 unfold ownN;have e:(ndAt ps q).kind=Qc_ ps (q:Int):=by
  unfold ndAt Qc_;rw[List.getD_eq_getElem?_getD,it_]
  cases ps[q]? <;>rfl
 rw[e,ip_ h]
def qq_ (hi:d.imp=τ) (ps:List PN) (f:Nat) (ae:Nps d.w0 d.A d.n ps) (aP:f<=d.n) (hN:KidC 224 d ps f) (Z:Uh_ 2000000 ps (QR_ ps f)) (A':OA) (m c':Nat) (l:LI) (t:BA) (z:Bool) (s:Pb) (a:Int) (W:Ω) (hl:Ψ (η l=m)) (hm:m<=12) (hr:Rd d.w0 1 A' m (Qa_ l))
  (hv:Ψ (∀v∈l,(0<=v/\v<(f:Int))/\QI_ (Qc_ ps v)/\v<=900)) (ha:0<=a/\a<=40) (p:η s.chunks<=79) (hC:BdC d s W) (hZ:s.text.size+wS 2000000 ps (ZS_ ps t l a)<=Xj_):
  Δ π 249 #[P_ (σ ⟨d.T,0,ν⟩),A_ #[I_ j_ 7,T_ t,S_ A' m c',B_ z],I_ j_ a] W (YW_ d W (I_ j_ (Q4_ s)) (VL_ (QR_ ps f) (s,-1) (ZS_ ps t l a)).1):=by
 obtain⟨fin,B⟩:=ex_ ((VL_ (QR_ ps f) (s,-1) (ZS_ ps t l a)).1);rw[B];have aa:Λ W (W.alloc (C_ #[I_ j_ 7,T_ t,S_ A' m c',B_ z] 96)):=grow_;have H:=h_ (show Bt 224 d ps f fin (W.alloc (C_ #[I_ j_ 7,T_ t,S_ A' m c',B_ z] 96)) s (-1) (ZS_ ps t l a) (W.alloc (C_ #[I_ j_ 7,T_ t,S_ A' m c',B_ z] 96))from⟨hC.next aa,B,hZ,Kb.refl _,hN,Z,p⟩);have HR:=h_ hr;have HP:=h_ ae;obtain⟨aq,ar⟩:=ha;unfold ZS_ at H;go_in;go_wp2_with fail;refine Bt.irule hi H ?_;intro W2 S k2;obtain⟨r,Q⟩:=ex_ (Q4_ s);rw[Q]at S |-
 generalize s.rule 2 1=s2 at S;obtain⟨g,hg⟩:∃g:Nat->Int->List Bv,g=(λi v=>(if 0<i then [Bv.put (⟨#[32]⟩++t),.split 1 τ a]else [])++[.tied v a (decide (Qc_ ps v=7)) (!ZB_ (Qc_ ps v))]):=⟨_,rfl⟩;rw[<-hg]at S;have T:=h_ hg;have am:=h_ Q;have K:=S.o.box;have x2:=K.q2;have xg:=K.lt;go_wp2;go_loopw [18] (λj wr=>∃(i:Nat) (I:Pb),i<=m/\j=I_ j_ i/\Ψ (Bt 224 d ps f fin (W.alloc (C_ #[I_ j_ 7,T_ t,S_ A' m c',B_ z] 96)) I r (Xp_ g i (l.drop i)) wr)) (λj _=>m-(intOf j).toNat)
 ·exact⟨0,s2,lz_ _,rfl,by rw[List.drop_zero];exact S⟩
 obtain⟨i,I,aQ,rfl,F⟩:=hrel;by_cases az:i<m
 ·obtain⟨v,hd⟩:∃D,l[i]? =σ D:=⟨_,gE (by have:=hl.o;omega)⟩;obtain⟨⟨aF,aR⟩,ag,aS⟩:=hv.o v (lm_ hd);obtain⟨q,rfl⟩:=eo_ aF;have aD:q<f:=oo;obtain⟨b5,E,rfl,M,cv⟩:=Qu_ (HR.o.below F.o.C.old) az hd;rw[YL_ hd,T.o]at F;rw[<-T.o]at F;have an:=h_ ag;have o:=h_ (show i+1<=m from oo);have aN:Below d.w0.heap.size d.w0 wr:=F.o.C.old
  go_upto_if 24 with fail
  go_cut [8] (λx8 wx=>x8=I_ j_ i/\∃k:Pb,Ψ (Bt 224 d ps f fin (W.alloc (C_ #[I_ j_ 7,T_ t,S_ (σ ⟨b5,E,ν⟩) m c',B_ z] 96)) k r (.tied (q:Int) a (decide (Qc_ ps (q:Int)=7)) (!ZB_ (Qc_ ps (q:Int)))::Xp_ g (i+1) (l.drop (i+1))) wx))
  ·
   by_cases ay:0<i
   ·have b:Ψ (Bt 224 d ps f fin (W.alloc (C_ #[I_ j_ 7,T_ t,S_ (σ ⟨b5,E,ν⟩) m c',B_ z] 96)) I r (.put (⟨#[32]⟩++t)::.split 1 τ a::.tied (q:Int) a (decide (Qc_ ps (q:Int)=7)) (!ZB_ (Qc_ ps (q:Int)))::Xp_ g (i+1) (l.drop (i+1))) wr):=by
     have h:=F.o;rw[T.o]at h;dsimp only at h;rw[ip_ ay]at h;rw[T.o];exact h_ h
    have K:=b.o.box;have x1:=K.q1;have xg:=K.lt;obtain⟨xt,xf,xz⟩:=b.o.C.tx;have G:=b.o.size;simp only[wB,Xj_,bs_]at G;have af:(⟨#[32]⟩:BA).size=1:=rfl;have aE:I.text.size+(⟨#[32]⟩++t:BA).size<=1000000000000:=(by rw[bs_];exact G);rw[af]at G;have aB:¬9223372036854775807<1+t.size:=oo;have aC:¬9223372036854775807<I.text.size+(1+t.size):=oo;go_upto_region 6 with fail
    go_still_tail 10,nr_;go_upto_region 7 with fail
    have H6:=h_<|b.o.put.next br.drew;generalize (wr.setCell ⟨d.T,6,ν⟩ (T_ (I.text++(⟨#[32]⟩++t)))).drew=W5 at *;go_wp2_with fail
    refine Bt.isplit hi H6 rfl ?_;intro W6 H7 k7;go_wp2_with fail;go_meet;exact⟨rfl,_,H7⟩
   obtain rfl:i=0:=oo;have b:Ψ (Bt 224 d ps f fin (W.alloc (C_ #[I_ j_ 7,T_ t,S_ (σ ⟨b5,E,ν⟩) m c',B_ z] 96)) I r (.tied (q:Int) a (decide (Qc_ ps (q:Int)=7)) (!ZB_ (Qc_ ps (q:Int)))::Xp_ g (0+1) (l.drop (0+1))) wr):=by
    have h:=F.o;rw[T.o]at h;rw[T.o];exact h_ h
   go_wp2_with fail;go_meet;exact⟨rfl,I,b⟩
  obtain⟨rfl,k,b⟩:=hcut;obtain⟨⟨A1,c1,xc⟩,_,xf,xz⟩:=b.o.C.ti hi;have p:=b.o.c79;have R:=b.o.size;have P:=h_<|b.o.N q k a wc aD an.o aq oo (λ_=>ar) b.o.c79 b.o.C (by simp only[wB,it_]at R;exact R);rw[show min a 40=a from oo,hi]at P;go_wp2_with fail
  refine mb_ P.o ?_;rintro w6 ⟨x,ac⟩;have J:=h_ x;have L:=h_ ac;have X:=h_<|WS_ ps f q a k p;obtain⟨_,xn,xf,xz⟩:=x.ti hi;obtain⟨y,hy⟩:=HP.o.get (show q<d.n from oo);obtain⟨b6,ah,A6,c6,eD,n,y0,_⟩:=HP.o.at_ (show q<d.n from oo) hy;have ai:=((QW_ x.old).1 _ _ n).trans y0;have av:b6<w6.heap.size:=ll_ n x.old.size;have N:Qc_ ps (q:Int)=y.kind:=Qr_ hy;have aO:q<d.n:=oo;rw[eD]at xn;rw[N]at b;have Y:=h_ (λ(h:y.kind=7)=>own7 (ps:=ps) (q:=q) (.inl (N.trans h)) k);obtain⟨c,yt,yl,yz⟩:=y;replace ai:w6.cell? ⟨b6,ah+q*4,ν⟩=σ (I_ j_ c):=ai;simp only at b Y;have aM:i+1<=12:=oo;by_cases h7:c=7
  ·subst h7;have e7:=Y.o rfl;rw[e7];go_wp2_with fail;refine mb_ (U5_ d hi _ (Q4_ k) r _ J.o) ?_;rintro w7 ⟨ab,ad⟩;have ak:=h_ ab;have al:=h_ ad;go_wp2_with fail;refine mb_ (GV_ d hi _ (η k.chunks) _ ak.o (by have:=b.o.c79;omega) (by rw[GL_];have:=X.o;omega)) ?_;rintro w8 ⟨A,C⟩;have V:=h_<|b.o.jump (show BdC d (((QR_ ps f q a k).tie (Q4_ k) r).span (η k.chunks)) w8 from A)<|L.o.trans<|al.o.trans C;go_wp2;go_roundw
   ·exact⟨i+1,_,o.o,by go_num,V⟩
   have:=o.o;exact ms_
  have d7:decide (c=7)=φ:=df_ h7;have b7:(c==7)=φ:=bn_.2 h7;rw[d7]at b;by_cases U:ZB_ c=τ
  ·have O:c=1\/c=2\/c=3:=od_ U;have V:=h_ (b.o.jump (show BdC d (if (!ZB_ c)=τ then (QR_ ps f q a k).span (η k.chunks) else QR_ ps f q a k) w6 from by rw[U];exact J.o) L.o);rcases O with rfl|rfl|rfl
   all_goals
    go_wp2;go_roundw
    ·exact⟨i+1,_,o.o,by go_num,V⟩
    have:=o.o;exact ms_
  have O:¬(c=1\/c=2\/c=3):=λh=>U (dt_ h)
  have n1:(c != 1)=τ:=so_;have n2:(c != 2)=τ:=so_;have n3:(c != 3)=τ:=so_;have aA:ZB_ c=φ:=(by cases h:ZB_ c;rfl;exact absurd h U);go_wp2_with fail;refine mb_ (GV_ d hi _ (η k.chunks) _ J.o (by have:=b.o.c79;omega) (by have:=X.o;omega)) ?_;rintro w8 ⟨A,C⟩;have V:=h_<|b.o.jump (show BdC d (if (!ZB_ c)=τ then (QR_ ps f q a k).span (η k.chunks) else QR_ ps f q a k) w8 from by rw[aA];exact A)<|L.o.trans C;go_wp2;go_roundw
  ·exact⟨i+1,_,o.o,by go_num,V⟩
  have:=o.o;exact ms_
 obtain rfl:i=m:=oo;rw[Xu_ (Nat.le_of_eq hl.o)]at F;go_wp2;go_ret;have h2:=F.o.fin_;exact⟨Kx_ am.o.symm,h2.1,Zc_ h2.2⟩
structure VIn (F:FuncId) (D:BD) (ps:List PN) (m f j:Nat) (x:PN) (a:Int) (s:Pb) (W:Ω):Prop where
 hps:Nps D.w0 D.A D.n ps
 hF:TreeF ps m
 hpn:PNs ps
 hn:D.n=m+1
 hx:ps[j]? =σ x
 hj:j<f+1
 hfn:f<=D.n
 hv:QI_ x.kind
 hN:KidC F D ps f
 ha:0<=a
 hab:a+4*(j:Int)<=4000
 h40:D.imp=τ->a<=40
 h79:η s.chunks<=79
 hC:BdC D s W
 hZ:s.text.size+Kk_ ps j*2000000<=Xj_
section
variable {F:FuncId} {D:BD} {ps:List PN} {m f j:Nat} {x:PN} {a:Int} {s:Pb} {W:Ω}
def VIn.lt (h:VIn F D ps m f j x a s W):j<m+1:=by have:=(gs_.1 h.hx).1;rw[h.hF.tree.len]at this;exact this
def VIn.kids (h:VIn F D ps m f j x a s W):∀v∈x.kids,(0<=v/\v<(f:Int))/\v<=900/\a+4+4*v<=4000:=λv hv=>by
 have h1:=(h.hF.tree.good j x h.hx).2 v hv;have h2:=h.hF.few;have h3:=h.lt;have h4:=h.hj;have h5:=h.hab;omega
def VIn.few (h:VIn F D ps m f j x a s W):η x.kids<=12:=(h.hF.tree.good j x h.hx).1
def VIn.light (h:VIn F D ps m f j x a s W):Uh_ 2000000 ps (QR_ ps f):=xV_ oo h.hF h.hpn f
def VIn.form (h:VIn F D ps m f j x a s W):ValF ps x.kind x.kids:=vi_ (h.hF.node j h.lt) h.hx h.hv
def VIn.weight (h:VIn F D ps m f j x a s W) (ne:Int):s.text.size+wS 2000000 ps (evsB ps x ne)<=Xj_:=by
 have:=Gn_ (W:=2000000) oo h.hF h.hpn h.hx ne;have:=h.hZ;omega
def VIn.bt (h:VIn F D ps m f j x a s W) (b:Int) (cs:Array Υ):Bt F D ps f (QR_ ps (f+1) j b s) (W.alloc (C_ cs 96)) s (-1) (evsB ps x b) (W.alloc (C_ cs 96)):=
 ⟨h.hC.next grow_,(KX_ h.hx b s).symm,h.weight b,Kb.refl _,h.hN,h.light,h.h79⟩
def VIn.at_ (h:VIn F D ps m f j x a s W):∃b off A' c',D.A=σ ⟨b,off,ν⟩/\b<W.heap.size/\W.cell? ⟨b,off+j*4,ν⟩=σ (I_ j_ x.kind)/\W.cell? ⟨b,off+j*4+1,ν⟩=σ (T_ x.text)/\W.cell? ⟨b,off+j*4+2,ν⟩=σ (S_ A' (η x.kids) c')/\W.cell? ⟨b,off+j*4+3,ν⟩=σ (B_ x.blank)/\Rd D.w0 1 A' (η x.kids) (Qa_ x.kids)/\η x.kids<=c':=by
 obtain⟨b,off,A',c',e,c,y0,y1,y2,y3,g,hr⟩:=h.hps.atc (by have:=h.lt;have:=h.hn;omega) h.hx;have d:=(QW_ h.hC.old).1;exact⟨b,off,A',c',e,ll_ c h.hC.old.size,(d _ _ c).trans y0,(d _ _ c).trans y1,(d _ _ c).trans y2,(d _ _ c).trans y3,hr,g⟩
end
def YR_ (hi:d.imp=φ) (ps:List PN) (f:Nat) (hN:KidC 137 d ps f) (X:Uh_ 2000000 ps (QR_ ps f)) (A':OA) (m c':Nat) (l:LI) (op en:BA) (s:Pb) (a:Int) (W:Ω) (hl:Ψ (η l=m)) (hm:m<=12) (L:Rd d.w0 1 A' m (Qa_ l))
  (hv:Ψ (∀v∈l,(0<=v/\v<(f:Int))/\QI_ (Qc_ ps v)/\a+4+4*v<=4000)) (ha:0<=a) (ap:a<=4000) (V:η s.chunks<=79) (hC:BdC d s W) (R:s.text.size+wS 2000000 ps (XT_ op en l (min a 40))<=Xj_):
  Δ π 188 #[P_ (σ ⟨d.T,0,ν⟩),T_ op,S_ A' m c',T_ en,I_ j_ a] W (YW_ d W (U_ #[]) (VL_ (QR_ ps f) (s,-1) (XT_ op en l (min a 40))).1):=by
 obtain⟨fin,A⟩:=ex_ ((VL_ (QR_ ps f) (s,-1) (XT_ op en l (min a 40))).1);rw[A];have H:=h_ (show Bt 137 d ps f fin W s (-1) (XT_ op en l (min a 40)) W from⟨hC,A,R,Kb.refl _,hN,X,V⟩);have HR:=h_ L;clear hC R A hN X L V;unfold XT_ at H;by_cases Y:m=0
 ·subst Y;rw[ip_ hl.o]at H;go_in;go_wp2_with fail;refine Bt.sput hi H ?_;intro W1 G k1;go_wp2_with fail;refine Bt.sput hi G ?_;intro W2 t k2;go_wp2;go_end0;exact⟨rfl,t.o.fin_⟩
 rw[in_ (by rw[hl.o];exact Y),hl.o]at H;have aq:0<m:=oo;by_cases I:m=1
 ·have C:min (m:Int) 2=1:=oo;have ai:((m:Int)==1)=τ:=by rw[I];rfl
  have aj:((m:Int)==0)=φ:=by rw[I];rfl
  go_in;go_wp2_with fail;refine Bt.sput hi H ?_;intro W1 G k1;clear H k1 I;rw[C]at G;go_wp2_with fail;refine Bt.srule hi G ?_;intro W2 t k2;clear G k2;obtain⟨r,L⟩:=ex_ (Q4_ (s.put op));rw[L]at t |-
  generalize (s.put op).rule 2 1=s2 at t;clear L;go_wp2_with fail;refine Bt.ssplit hi t (by unfold inN;omega) ?_;intro W3 n k3;clear t k3;generalize s2.split r 1 φ (inN (min a 40))=s3 at n;obtain⟨g,M⟩:∃g:Nat->Int->List Bv,g=(λi v=>(if 0<i then [Bv.put ⟨#[44]⟩,.split 1 τ (inN (min a 40))]else [])++[.kid v (inN (min a 40))]):=⟨_,rfl⟩;rw[<-M]at n;replace n:Ψ (Bt 137 d ps f fin W s3 r (Xp_ g 0 l++([.split 1 φ (min a 40)]++[.put en])) W3):=by rw[<-List.append_assoc];exact n
  have p:=h_ M;clear M C;go_wp2;go_loopw [12] (λj wr=>∃(i:Nat) (K:Pb),i<=m/\j=I_ j_ i/\Ψ (Bt 137 d ps f fin W K r (Xp_ g i (l.drop i)++([.split 1 φ (min a 40)]++[.put en])) wr)) (λj _=>m-(intOf j).toNat)
  ·exact⟨0,s3,lz_ _,rfl,by rw[List.drop_zero];exact n⟩
  clear n;obtain⟨i,K,ah,rfl,b⟩:=hrel;by_cases O:i<m
  ·obtain⟨v,hd⟩:∃D,l[i]? =σ D:=⟨_,gE (by have:=hl.o;omega)⟩;obtain⟨⟨P,ak⟩,E,al⟩:=hv.o v (lm_ hd);obtain⟨q,rfl⟩:=eo_ P;have B:q<f:=oo;have e:=h_ (λ(Z:Ω) (R:Below d.w0.heap.size d.w0 Z)=>Qu_ (HR.o.below R) O hd);rw[YL_ hd,p.o]at b;rw[<-p.o]at b;have z:=h_ E;have c:=h_ (show i+1<=m from oo);clear hd E;by_cases N:0<i
   ·have o:Ψ (Bt 137 d ps f fin W K r (.put ⟨#[44]⟩::.split 1 τ (inN (min a 40))::.kid (q:Int) (inN (min a 40))::(Xp_ g (i+1) (l.drop (i+1))++([.split 1 φ (min a 40)]++[.put en]))) wr):=by
     have h:=b.o;rw[p.o]at h;dsimp only at h;rw[ip_ N]at h;rw[p.o];exact h_ h
    clear b;go_wp2_with fail;refine Bt.sput hi o ?_;intro W5 S k6;clear o k6;go_wp2_with fail;refine Bt.ssplit hi S (by unfold inN;omega) ?_;intro W6 x Q;clear S Q;obtain⟨b5,F,rfl,k,U⟩:=e.o _ x.o.C.old;go_wp2_with fail;refine Bt.kid x B z.o oo oo (by unfold inN;omega) ?_;intro T y J;clear x J e;rw[hi];go_wp2;go_roundw
    ·exact⟨i+1,_,c.o,by go_num,y⟩
    have:=c.o;exact ms_
   obtain rfl:i=0:=oo;have o:Ψ (Bt 137 d ps f fin W K r (.kid (q:Int) (inN (min a 40))::(Xp_ g (0+1) (l.drop (0+1))++([.split 1 φ (min a 40)]++[.put en]))) wr):=by
    have h:=b.o;rw[p.o]at h;rw[p.o];exact h_ h
   obtain⟨b5,F,rfl,k,U⟩:=e.o _ o.o.C.old;rw[Nat.add_zero]at U;clear b;go_wp2_with fail;refine Bt.kid o B z.o oo oo (by unfold inN;omega) ?_;intro T y J;clear o J e;rw[hi];go_wp2;go_roundw
   ·exact⟨0+1,_,c.o,by go_num,y⟩
   have:=c.o;exact ms_
  obtain rfl:i=m:=oo;rw[Xu_ (Nat.le_of_eq hl.o)]at b;go_wp2_with fail;refine Bt.ssplit hi b oo ?_;intro W6 x Q;clear b Q;go_wp2_with fail;refine Bt.sput hi x ?_;intro T y J;go_wp2;go_end0;have h2:=y.o.fin_;exact⟨rfl,h2⟩
 have C:min (m:Int) 2=2:=oo;have ai:((m:Int)==1)=φ:=bn_.2 oo;have aj:((m:Int)==0)=φ:=bn_.2 oo;go_in;go_wp2_with fail;refine Bt.sput hi H ?_;intro W1 G k1;clear H k1 I;rw[C]at G;go_wp2_with fail;refine Bt.srule hi G ?_;intro W2 t k2;clear G k2;obtain⟨r,L⟩:=ex_ (Q4_ (s.put op));rw[L]at t |-
 generalize (s.put op).rule 3 1=s2 at t;clear L;go_wp2_with fail;refine Bt.ssplit hi t (by unfold inN;omega) ?_;intro W3 n k3;clear t k3;generalize s2.split r 1 φ (inN (min a 40))=s3 at n;obtain⟨g,M⟩:∃g:Nat->Int->List Bv,g=(λi v=>(if 0<i then [Bv.put ⟨#[44]⟩,.split 2 τ (inN (min a 40))]else [])++[.kid v (inN (min a 40))]):=⟨_,rfl⟩;rw[<-M]at n;replace n:Ψ (Bt 137 d ps f fin W s3 r (Xp_ g 0 l++([.split 1 φ (min a 40)]++[.put en])) W3):=by rw[<-List.append_assoc];exact n
 have p:=h_ M;clear M C;go_wp2;go_loopw [12] (λj wr=>∃(i:Nat) (K:Pb),i<=m/\j=I_ j_ i/\Ψ (Bt 137 d ps f fin W K r (Xp_ g i (l.drop i)++([.split 1 φ (min a 40)]++[.put en])) wr)) (λj _=>m-(intOf j).toNat)
 ·exact⟨0,s3,lz_ _,rfl,by rw[List.drop_zero];exact n⟩
 clear n;obtain⟨i,K,ah,rfl,b⟩:=hrel;by_cases O:i<m
 ·obtain⟨v,hd⟩:∃D,l[i]? =σ D:=⟨_,gE (by have:=hl.o;omega)⟩;obtain⟨⟨P,ak⟩,E,al⟩:=hv.o v (lm_ hd);obtain⟨q,rfl⟩:=eo_ P;have B:q<f:=oo;have e:=h_ (λ(Z:Ω) (R:Below d.w0.heap.size d.w0 Z)=>Qu_ (HR.o.below R) O hd);rw[YL_ hd,p.o]at b;rw[<-p.o]at b;have z:=h_ E;have c:=h_ (show i+1<=m from oo);clear hd E;by_cases N:0<i
  ·have o:Ψ (Bt 137 d ps f fin W K r (.put ⟨#[44]⟩::.split 2 τ (inN (min a 40))::.kid (q:Int) (inN (min a 40))::(Xp_ g (i+1) (l.drop (i+1))++([.split 1 φ (min a 40)]++[.put en]))) wr):=by
    have h:=b.o;rw[p.o]at h;dsimp only at h;rw[ip_ N]at h;rw[p.o];exact h_ h
   clear b;go_wp2_with fail;refine Bt.sput hi o ?_;intro W5 S k6;clear o k6;go_wp2_with fail;refine Bt.ssplit hi S (by unfold inN;omega) ?_;intro W6 x Q;clear S Q;obtain⟨b5,F,rfl,k,U⟩:=e.o _ x.o.C.old;go_wp2_with fail;refine Bt.kid x B z.o oo oo (by unfold inN;omega) ?_;intro T y J;clear x J e;rw[hi];go_wp2;go_roundw
   ·exact⟨i+1,_,c.o,by go_num,y⟩
   have:=c.o;exact ms_
  obtain rfl:i=0:=oo;have o:Ψ (Bt 137 d ps f fin W K r (.kid (q:Int) (inN (min a 40))::(Xp_ g (0+1) (l.drop (0+1))++([.split 1 φ (min a 40)]++[.put en]))) wr):=by
   have h:=b.o;rw[p.o]at h;rw[p.o];exact h_ h
  obtain⟨b5,F,rfl,k,U⟩:=e.o _ o.o.C.old;rw[Nat.add_zero]at U;clear b;go_wp2_with fail;refine Bt.kid o B z.o oo oo (by unfold inN;omega) ?_;intro T y J;clear o J e;rw[hi];go_wp2;go_roundw
  ·exact⟨0+1,_,c.o,by go_num,y⟩
  have:=c.o;exact ms_
 obtain rfl:i=m:=oo;rw[Xu_ (Nat.le_of_eq hl.o)]at b;go_wp2_with fail;refine Bt.ssplit hi b oo ?_;intro W6 x Q;clear b Q;go_wp2_with fail;refine Bt.sput hi x ?_;intro T y J;go_wp2;go_end0;have h2:=y.o.fin_;exact⟨rfl,h2⟩
def Qay_ {ps:List PN} {f q:Nat} {p:PN} (hx:ps[q]? =σ p) (hk:p.kind=7\/p.kind=8) (d:q<f) (a:Int) (s:Pb) (r:Int):
  (if (η s.rules:Int)<((QR_ ps f q a s).rules.length:Int)then (QR_ ps f q a s).tie (η s.rules:Int) r else QR_ ps f q a s)=(QR_ ps f q a s).tie (Q4_ s) r:=by
 obtain⟨c,rfl⟩:∃c,f=c+1:=⟨f-1,oo⟩;obtain⟨h1,h2⟩:=xm_ (f:=c) hx hk a s;by_cases b:0<=Q4_ s
 ·rw[ip_ (h1.2 b),h2 b]
 rw[in_ (λh=>b (h1.1 h))];unfold Pb.tie;rw[in_ (λh=>b h.1)]
def za_ (D:BD) (hi:D.imp=φ) (ps:List PN) (f:Nat) (aY:Nps D.w0 D.A D.n ps) (bM:f<=D.n) (hN:KidC 137 D ps f) (aQ:Uh_ 2000000 ps (QR_ ps f)) (A':OA) (m c':Nat) (l:LI) (t:BA) (z:Bool) (s:Pb) (a:Int) (W:Ω) (hl:Ψ (η l=m)) (hm:m<=12) (hr:Rd D.w0 1 A' m (Qa_ l))
  (hv:Ψ (∀v∈l,(0<=v/\v<(f:Int))/\QI_ (Qc_ ps v)/\a+4+4*v<=4000)) (ha:0<=a) (bK:a<=4000) (S:η s.chunks<=79) (hC:BdC D s W) (hZ:s.text.size+wS 2000000 ps (ZS_ ps t l (inN (min a 40)))<=Xj_):
  Δ π 189 #[P_ (σ ⟨D.T,0,ν⟩),A_ #[I_ j_ 7,T_ t,S_ A' m c',B_ z],I_ j_ a] W (YW_ D W (U_ #[]) (VL_ (QR_ ps f) (s,-1) (ZS_ ps t l (inN (min a 40)))).1):=by
 obtain⟨fin,X⟩:=ex_ ((VL_ (QR_ ps f) (s,-1) (ZS_ ps t l (inN (min a 40)))).1);rw[X];have aR:Λ W (W.alloc (C_ #[I_ j_ 7,T_ t,S_ A' m c',B_ z] 96)):=grow_;have H:=h_ (show Bt 137 D ps f fin (W.alloc (C_ #[I_ j_ 7,T_ t,S_ A' m c',B_ z] 96)) s (-1) (ZS_ ps t l (inN (min a 40))) (W.alloc (C_ #[I_ j_ 7,T_ t,S_ A' m c',B_ z] 96))from⟨hC.next aR,X,hZ,Kb.refl _,hN,aQ,S⟩);have HR:=h_ hr;have HP:=h_ aY;unfold ZS_ at H;go_in;go_wp2_with fail;refine Bt.srule hi H ?_;intro W2 H2 k2;obtain⟨r,a0⟩:=ex_ (Q4_ s);rw[a0]at H2 |-
 generalize s.rule 2 1=s2 at H2;obtain⟨g,hg⟩:∃g:Nat->Int->List Bv,g=(λi v=>(if 0<i then [Bv.put (⟨#[32]⟩++t),.split 1 τ (inN (min a 40))]else [])++[.tied v (inN (min a 40)) (decide (Qc_ ps v=7)) (!ZB_ (Qc_ ps v))]):=⟨_,rfl⟩;rw[<-hg]at H2;have HG:=h_ hg;go_wp2;go_loopw [7] (λj wr=>∃(i:Nat) (s':Pb),i<=m/\j=I_ j_ i/\Ψ (Bt 137 D ps f fin (W.alloc (C_ #[I_ j_ 7,T_ t,S_ A' m c',B_ z] 96)) s' r (Xp_ g i (l.drop i)) wr)) (λj _=>m-(intOf j).toNat)
 ·exact⟨0,s2,lz_ _,rfl,by rw[List.drop_zero];exact H2⟩
 obtain⟨i,s',bN,rfl,H4⟩:=hrel;have K:=H4.o.box;have x1:=K.q1;have x2:=K.q2;have xg:=K.lt;by_cases bi:i<m
 ·obtain⟨v,hd⟩:∃d,l[i]? =σ d:=⟨_,gE (by have:=hl.o;omega)⟩;obtain⟨⟨bk,bP⟩,a3,bQ⟩:=hv.o v (lm_ hd);obtain⟨q,rfl⟩:=eo_ bk;have aZ:q<f:=oo;have al:=h_ (λ(Z:Ω) (hZ:Below D.w0.heap.size D.w0 Z)=>Qu_ (HR.o.below hZ) bi hd);rw[YL_ hd,HG.o]at H4;rw[<-HG.o]at H4;have aO:=h_ a3;have o:=h_ (show i+1<=m from oo);have bF:i+1<=12:=oo
  go_upto_if 21 with fail
  go_cut [7] (λx7 wx=>x7=I_ j_ i/\∃c:Pb,Ψ (Bt 137 D ps f fin (W.alloc (C_ #[I_ j_ 7,T_ t,S_ A' m c',B_ z] 96)) c r (.tied (q:Int) (inN (min a 40)) (decide (Qc_ ps (q:Int)=7)) (!ZB_ (Qc_ ps (q:Int)))::Xp_ g (i+1) (l.drop (i+1))) wx))
  ·
   by_cases L:0<i
   ·have C:=h_ (show Bt 137 D ps f fin (W.alloc (C_ #[I_ j_ 7,T_ t,S_ A' m c',B_ z] 96)) s' r (Bv.put (⟨#[32]⟩++t)::.split 1 τ (inN (min a 40))::.tied (q:Int) (inN (min a 40)) (decide (Qc_ ps (q:Int)=7)) (!ZB_ (Qc_ ps (q:Int)))::Xp_ g (i+1) (l.drop (i+1))) wr from by
     have h:=H4.o;rw[HG.o]at h;dsimp only at h;rw[ip_ L]at h;rw[HG.o];exact h)
    have aC:=C.o.size;simp only[wB,Xj_,bs_]at aC;have a1:(⟨#[32]⟩:BA).size=1:=rfl;rw[a1]at aC;have bO:t.size<=1000000000000:=oo;go_wp2_with fail;refine Bt.sput hi C ?_;intro W5 H6 k6;go_wp2_with fail;refine Bt.ssplit hi H6 (by unfold inN;omega) ?_;intro W6 H7 k7;go_wp2_with fail;go_meet;exact⟨rfl,_,H7⟩
   obtain rfl:i=0:=oo;have C:=h_ (show Bt 137 D ps f fin (W.alloc (C_ #[I_ j_ 7,T_ t,S_ A' m c',B_ z] 96)) s' r (.tied (q:Int) (inN (min a 40)) (decide (Qc_ ps (q:Int)=7)) (!ZB_ (Qc_ ps (q:Int)))::Xp_ g (0+1) (l.drop (0+1))) wr from by
    have h:=H4.o;rw[HG.o]at h;rw[HG.o];exact h)
   go_wp2_with fail;go_meet;exact⟨rfl,s',C⟩
  obtain⟨rfl,c,C⟩:=hcut;obtain⟨wA,rfl⟩:∃wA:Ω,wA=wc:=⟨_,rfl⟩;obtain⟨A0,c0,A1,c1,A2,c2,A3,c3,hA⟩:=C.o.C;obtain⟨u0,u1,u2,u3,un,ut,ub,uf,uz⟩:=hA.scells hi;have K:=C.o.box;have x2:=K.q2;have xg:=K.lt;obtain⟨b5,bI,rfl,ao,cv⟩:=al.o _ C.o.C.old;have S:=C.o.c79;have aF:=C.o.size;have aB:=h_<|C.o.N q c (a+4) wA aZ aO.o oo oo (λe=>by rw[hi]at e;cases e) C.o.c79 C.o.C (by simp only[wB,it_]at aF;exact aF);rw[show min (a+4) 40=inN (min a 40)by unfold inN;omega,hi]at aB;go_wp2_with fail
  refine mb_ aB.o ?_;rintro w6 ⟨V,ay⟩;have aL:=h_ V;have aM:=h_ ay;have aj:=h_<|WS_ ps f q (inN (min a 40)) c S;obtain⟨y,hy⟩:=HP.o.get (show q<D.n from oo);have R:=h_ (λ(h:y.kind=7)=>Qay_ (f:=f) hy (by rw[h];decide) aZ (inN (min a 40)) c r);obtain⟨b6,a4,A6,c6,eD,J,y0,_⟩:=HP.o.at_ (show q<D.n from oo) hy;have aH:=((QW_ V.old).1 _ _ J).trans y0;have ap:b6<w6.heap.size:=ll_ J V.old.size;have aU:Qc_ ps (q:Int)=y.kind:=Qr_ hy;have bL:q<D.n:=oo;have aD:=aO.o;rw[aU]at C aD;have K6:=ay.2 _ _ C.o.box;have bC:=K6.q2;have bE:=K6.lt;obtain⟨b7,bJ,e7,aq,bc⟩:=al.o _ V.old;injection e7 with e7;injection e7 with e71 e72;subst e71;subst e72;obtain⟨B0,d0,B1,d1,B2,d2,B3,d3,hA⟩:=V;obtain⟨v0,v1,v2,v3,vn,vt,vb,vf,vz⟩:=hA.scells hi;rw[eD]at vn;have af:1<=y.kind/\y.kind<=11:=aD;obtain⟨E,yt,yl,yz⟩:=y;replace aH:w6.cell? ⟨b6,a4+q*4,ν⟩=σ (I_ j_ E):=aH;simp only at C R af;obtain⟨bG,bH⟩:=af;go_upto_region 11 with fail
  go_cut [10] (λbA wx=>bA=I_ j_ E/\Ψ (Λ w6 wx))
  ·
   go_quiet (fail);have aS:Λ w6 (w6.drewN nq):=⟨rfl,rfl,rfl,lr_ _,λg _=>rfl⟩;have O:=h_ aS;go_wp2_with fail;go_meet;exact⟨rfl,O⟩
  case rest=>
  obtain⟨rfl,O⟩:=hcut;have P:=h_<|aL.o.next O.o;have Q:=h_<|aM.o.trans<|Kb.below O.o;generalize wc=w7 at *;by_cases h7:E=7
  ·subst h7;have a2:=(by first|exact R.o rfl|exact R.o trivial);go_wp2_with fail;refine mb_ (WN_ D hi _ (η c.rules:Int) r _ P.o oo) ?_;rintro p ⟨ar,aT⟩;rw[a2]at ar;have G:=h_ ar;have I:=h_<|Q.o.trans aT;have bg:(3:Int)<7:=oo;have ba:((QR_ ps f q (inN (min a 40)) c).tie (Q4_ c) r).chunks.length<=79:=(by rw[GL_];exact aj.o);have HF:=h_ (λ(M:Ω) (h:BdC D (((QR_ ps f q (inN (min a 40)) c).tie (Q4_ c) r).span (η c.chunks)) M) (hk:Kb wA M)=>C.o.jump (show BdC D (((QR_ ps f q (inN (min a 40)) c).tie (Q4_ c) r).span (η c.chunks)) M from h) hk);generalize (QR_ ps f q (inN (min a 40)) c).tie (Q4_ c) r=b at *;obtain⟨B0,d0,B1,d1,B2,d2,B3,d3,hA⟩:=G.o;obtain⟨v0,v1,v2,v3,vn,vt,vb,vf,vz⟩:=hA.scells hi;have N:=h_ hA;by_cases q0:η c.chunks<η b.chunks
   ·by_cases q1:η b.spans<40
    ·have av:D.fo 2=4:=(by unfold BD.fo;rw[hi];rfl);obtain⟨i0,L,Y,aa,ab⟩:=info_parts qx_;have HI:=h_ (ai_ L (ai_ Y (ai_ aa ab)));have B:Λ p (p.alloc (C_ #[I_ j_ (η c.chunks:Int),I_ j_ ((η b.chunks:Int)-1),I_ j_ 1] 213)):=grow_;have HM:=h_ (N.o.r2.next B);have az:(p.alloc (C_ #[I_ j_ (η c.chunks:Int),I_ j_ ((η b.chunks:Int)-1),I_ j_ 1] 213)).heap[p.heap.size]? =σ (C_ #[I_ j_ (η c.chunks:Int),I_ j_ ((η b.chunks:Int)-1),I_ j_ 1] 213 (0,0)):=heap_alloc_new p _;have ah:=h_ (show D.w0.heap.size<=(p.alloc (C_ #[I_ j_ (η c.chunks:Int),I_ j_ ((η b.chunks:Int)-1),I_ j_ 1] 213)).heap.size from lt_ N.o.old.size B.size);have ag:=h_ (λ(w3:Ω) hg=>(N.o.grown B N.o.r2 (w3:=w3) hg (Ne.symm (YY_ D.imp).2.2.2.1) dc_).1);have ak:=h_ (λ(v':Υ) (w3:Ω) h1 h2=>N.o.app2 av B (d:=((η c.chunks:Int),(η b.chunks:Int)-1,1)) (v':=v') (w3:=w3) h1 h2);go_upto_region 15 with fail
     have aE:IntKind.i64.wrap ((η b.chunks:Int)-1)=(η b.chunks:Int)-1:=(by rw[IntKind.wrap_i64];omega);go_region_law
      (refine step_append_lies _ rfl (.tmp 97) (.tmp 107) 146 rfl D.w0.heap.size 213 i0 (A_ #[I_ j_ 0,I_ j_ 0,I_ j_ 0]) 3 24 underlying146 HI.o.1 HI.o.2.1 HI.o.2.2.1 HI.o.2.2.2 rfl dc_ (S_ B2 (η b.spans) d2) (η b.spans) (b.spans.flatMap QJ_) ev_ (by first|exact HM.o.drew|exact HM.o) ⟨p.heap.size,0,ν⟩ 1 1 (QJ_ ((η c.chunks:Int),(η b.chunks:Int)-1,1)) ev_ (by rfl) (World.news_of_block (cs:=#[I_ j_ (η c.chunks:Int),I_ j_ ((η b.chunks:Int)-1),I_ j_ 1]) (t:=213) (fr:=(0,0)) az) (qW_ _) dc_ mx_ oo (by first|exact ah.o) (p.heap.size+1) sm_ ?_
       intro q6 cap M A n an aV;have k:(p.alloc (C_ #[I_ j_ (η c.chunks:Int),I_ j_ ((η b.chunks:Int)-1),I_ j_ 1] 213)).grownBy M (S_ B2 (η b.spans) d2).ownBlock:=(by first|exact n|exact Q9_ n);have x:=ag.o _ k;rw[hi]at x;have j5:M.cell? ⟨D.T,4,ν⟩=σ (S_ B2 (η b.spans) d2):=x.cell 4;have jf:=x.frozen;have jz:=x.lt;have HW:=h_ (ak.o _ _ A k))
     all_goals
      obtain⟨A9,c9,ev,am,T,U⟩:=HW.o;injection ev with ev1 ev2 ev3;subst ev1;subst ev3;have F:=HF.o _ (show BdC D (b.span (η c.chunks)) _ from by
        rw[show b.span (η c.chunks)=⟨b.rules,b.chunks,b.spans++[((η c.chunks:Int),(η b.chunks:Int)-1,1)],b.ties,b.text⟩from ip_ ⟨q0,q1⟩];exact⟨_,_,_,_,_,_,_,_,T⟩) (I.o.trans U)
      have F:=h_ F;go_wp2;go_roundw
      ·exact⟨i+1,_,o.o,by go_num,F⟩
      have:=o.o;exact ms_
    have q2:40<=η b.spans:=oo;have F:=h_<|HF.o _ (show BdC D (b.span (η c.chunks)) p from by rw[show b.span (η c.chunks)=b from in_ (λh=>q1 h.2)];exact G.o) I.o;go_wp2;go_roundw
    ·exact⟨i+1,_,o.o,by go_num,F⟩
    have:=o.o;exact ms_
   have F:=h_<|HF.o _ (show BdC D (b.span (η c.chunks)) p from by rw[show b.span (η c.chunks)=b from in_ (λh=>q0 h.1)];exact G.o) I.o;go_wp2;go_roundw
   ·exact⟨i+1,_,o.o,by go_num,F⟩
   have:=o.o;exact ms_
  have d7:decide (E=7)=φ:=df_ h7;have b7:(E==7)=φ:=bn_.2 h7;rw[d7]at C;by_cases hp:ZB_ E=τ
  ·have bj:E<=3:=by
    have h:=od_ (show decide (E=1\/E=2\/E=3)=τ from hp);omega
   have F:=h_<|C.o.jump (show BdC D (if (!ZB_ E)=τ then (QR_ ps f q (inN (min a 40)) c).span (η c.chunks) else QR_ ps f q (inN (min a 40)) c) w7 from by rw[hp];exact P.o) Q.o;go_wp2;go_roundw
   ·exact⟨i+1,_,o.o,by go_num,F⟩
   have:=o.o;exact ms_
  have aA:ZB_ E=φ:=(by cases h:ZB_ E;rfl;exact absurd h hp);have bj:3<E:=by
   have h:=of_decide_eq_false (show decide (E=1\/E=2\/E=3)=φ from aA);omega
  have G:=h_ P.o;have I:=h_ Q.o;have ba:=aj.o;have HF:=h_ (λ(M:Ω) (h:BdC D ((QR_ ps f q (inN (min a 40)) c).span (η c.chunks)) M) (hk:Kb wA M)=>C.o.jump (show BdC D (if (!ZB_ E)=τ then (QR_ ps f q (inN (min a 40)) c).span (η c.chunks) else QR_ ps f q (inN (min a 40)) c) M from by rw[aA];exact h) hk);obtain⟨p,rfl⟩:∃p:Ω,p=w7:=⟨_,rfl⟩;generalize QR_ ps f q (inN (min a 40)) c=b at *;obtain⟨B0,d0,B1,d1,B2,d2,B3,d3,hA⟩:=G.o;obtain⟨v0,v1,v2,v3,vn,vt,vb,vf,vz⟩:=hA.scells hi;have N:=h_ hA;by_cases q0:η c.chunks<η b.chunks
  ·by_cases q1:η b.spans<40
   ·have av:D.fo 2=4:=(by unfold BD.fo;rw[hi];rfl);obtain⟨i0,L,Y,aa,ab⟩:=info_parts qx_;have HI:=h_ (ai_ L (ai_ Y (ai_ aa ab)));have B:Λ p (p.alloc (C_ #[I_ j_ (η c.chunks:Int),I_ j_ ((η b.chunks:Int)-1),I_ j_ 1] 213)):=grow_;have HM:=h_ (N.o.r2.next B);have az:(p.alloc (C_ #[I_ j_ (η c.chunks:Int),I_ j_ ((η b.chunks:Int)-1),I_ j_ 1] 213)).heap[p.heap.size]? =σ (C_ #[I_ j_ (η c.chunks:Int),I_ j_ ((η b.chunks:Int)-1),I_ j_ 1] 213 (0,0)):=heap_alloc_new p _;have ah:=h_ (show D.w0.heap.size<=(p.alloc (C_ #[I_ j_ (η c.chunks:Int),I_ j_ ((η b.chunks:Int)-1),I_ j_ 1] 213)).heap.size from lt_ N.o.old.size B.size);have ag:=h_ (λ(w3:Ω) hg=>(N.o.grown B N.o.r2 (w3:=w3) hg (Ne.symm (YY_ D.imp).2.2.2.1) dc_).1);have ak:=h_ (λ(v':Υ) (w3:Ω) h1 h2=>N.o.app2 av B (d:=((η c.chunks:Int),(η b.chunks:Int)-1,1)) (v':=v') (w3:=w3) h1 h2);go_upto_region 15 with fail
    have aE:IntKind.i64.wrap ((η b.chunks:Int)-1)=(η b.chunks:Int)-1:=(by rw[IntKind.wrap_i64];omega);go_region_law
      (refine step_append_lies _ rfl (.tmp 97) (.tmp 107) 146 rfl D.w0.heap.size 213 i0 (A_ #[I_ j_ 0,I_ j_ 0,I_ j_ 0]) 3 24 underlying146 HI.o.1 HI.o.2.1 HI.o.2.2.1 HI.o.2.2.2 rfl dc_ (S_ B2 (η b.spans) d2) (η b.spans) (b.spans.flatMap QJ_) ev_ (by first|exact HM.o.drew|exact HM.o) ⟨p.heap.size,0,ν⟩ 1 1 (QJ_ ((η c.chunks:Int),(η b.chunks:Int)-1,1)) ev_ (by rfl) (World.news_of_block (cs:=#[I_ j_ (η c.chunks:Int),I_ j_ ((η b.chunks:Int)-1),I_ j_ 1]) (t:=213) (fr:=(0,0)) az) (qW_ _) dc_ mx_ oo (by first|exact ah.o) (p.heap.size+1) sm_ ?_
       intro q6 cap M A n an aV;have k:(p.alloc (C_ #[I_ j_ (η c.chunks:Int),I_ j_ ((η b.chunks:Int)-1),I_ j_ 1] 213)).grownBy M (S_ B2 (η b.spans) d2).ownBlock:=(by first|exact n|exact Q9_ n);have x:=ag.o _ k;rw[hi]at x;have j5:M.cell? ⟨D.T,4,ν⟩=σ (S_ B2 (η b.spans) d2):=x.cell 4;have jf:=x.frozen;have jz:=x.lt;have HW:=h_ (ak.o _ _ A k))
    all_goals
      obtain⟨A9,c9,ev,am,T,U⟩:=HW.o;injection ev with ev1 ev2 ev3;subst ev1;subst ev3;have F:=HF.o _ (show BdC D (b.span (η c.chunks)) _ from by
        rw[show b.span (η c.chunks)=⟨b.rules,b.chunks,b.spans++[((η c.chunks:Int),(η b.chunks:Int)-1,1)],b.ties,b.text⟩from ip_ ⟨q0,q1⟩];exact⟨_,_,_,_,_,_,_,_,T⟩) (I.o.trans U)
      have F:=h_ F;go_wp2;go_roundw
      ·exact⟨i+1,_,o.o,by go_num,F⟩
      have:=o.o;exact ms_
   have q2:40<=η b.spans:=oo;have F:=h_<|HF.o _ (show BdC D (b.span (η c.chunks)) p from by rw[show b.span (η c.chunks)=b from in_ (λh=>q1 h.2)];exact G.o) I.o;go_wp2;go_roundw
   ·exact⟨i+1,_,o.o,by go_num,F⟩
   have:=o.o;exact ms_
  have F:=h_<|HF.o _ (show BdC D (b.span (η c.chunks)) p from by rw[show b.span (η c.chunks)=b from in_ (λh=>q0 h.1)];exact G.o) I.o;go_wp2;go_roundw
  ·exact⟨i+1,_,o.o,by go_num,F⟩
  have:=o.o;exact ms_
 obtain rfl:i=m:=oo;rw[Xu_ (Nat.le_of_eq hl.o)]at H4;go_wp2;go_end0;have h2:=H4.o.fin_;exact⟨rfl,h2.1,Zc_ h2.2⟩
def qX_ (hi:d.imp=φ) (ps:List PN) (f:Nat) (ah:Nps d.w0 d.A d.n ps) (aU:f<=d.n) (hN:KidC 137 d ps f) (ac:Uh_ 2000000 ps (QR_ ps f)) (A':OA) (m c':Nat) (l:LI) (t:BA) (z:Bool) (s:Pb) (a:Int) (W:Ω) (hl:Ψ (η l=m)) (hm:m<=3) (hr:Rd d.w0 1 A' m (Qa_ l))
  (hv:Ψ (∀v∈l,(0<=v/\v<(f:Int))/\QI_ (Qc_ ps v)/\a+4+4*v<=4000)) (ha:0<=a) (aS:a<=4000) (n:η s.chunks<=79) (hC:BdC d s W) (hZ:s.text.size+wS 2000000 ps (Y4_ ps l (inN (min a 40)))<=Xj_):
  Δ π 190 #[P_ (σ ⟨d.T,0,ν⟩),A_ #[I_ j_ 8,T_ t,S_ A' m c',B_ z],I_ j_ a] W (YW_ d W (U_ #[]) (VL_ (QR_ ps f) (s,-1) (Y4_ ps l (inN (min a 40)))).1):=by
 obtain⟨fin,p⟩:=ex_ ((VL_ (QR_ ps f) (s,-1) (Y4_ ps l (inN (min a 40)))).1);rw[p];have ad:Λ W (W.alloc (C_ #[I_ j_ 8,T_ t,S_ A' m c',B_ z] 96)):=grow_;have H:=h_ (show Bt 137 d ps f fin (W.alloc (C_ #[I_ j_ 8,T_ t,S_ A' m c',B_ z] 96)) s (-1) (Y4_ ps l (inN (min a 40))) (W.alloc (C_ #[I_ j_ 8,T_ t,S_ A' m c',B_ z] 96))from⟨hC.next ad,p,hZ,Kb.refl _,hN,ac,n⟩);have HR:=h_ hr;have HP:=h_ ah;unfold Y4_ at H;go_in;go_wp2_with fail;refine Bt.srule hi H ?_;intro W2 Y k2;obtain⟨r,aj⟩:=ex_ (Q4_ s);rw[aj]at Y |-
 generalize s.rule 2 1=s2 at Y;obtain⟨g,hg⟩:∃g:Nat->Int->List Bv,g=(λi v=>(if 0<i then [Bv.split 1 τ (inN (min a 40)),.put (if i=1 then ⟨#[63,32]⟩else ⟨#[58,32]⟩)]else [])++[.tied v (inN (min a 40)) (decide (Qc_ ps v=8)) φ]):=⟨_,rfl⟩;rw[<-hg]at Y;have V:=h_ hg;go_wp2;go_loopw [7] (λj wr=>∃(i:Nat) (X:Pb),i<=m/\j=I_ j_ i/\Ψ (Bt 137 d ps f fin (W.alloc (C_ #[I_ j_ 8,T_ t,S_ A' m c',B_ z] 96)) X r (Xp_ g i (l.drop i)) wr)) (λj _=>m-(intOf j).toNat)
 ·exact⟨0,s2,lz_ _,rfl,by rw[List.drop_zero];exact Y⟩
 obtain⟨i,X,aV,rfl,A⟩:=hrel;have K:=A.o.box;have x1:=K.q1;have x2:=K.q2;have xg:=K.lt;by_cases aF:i<m
 ·obtain⟨v,hd⟩:∃D,l[i]? =σ D:=⟨_,gE (by have:=hl.o;omega)⟩;obtain⟨⟨aG,aX⟩,al,aY⟩:=hv.o v (lm_ hd);obtain⟨q,rfl⟩:=eo_ aG;have ai:q<f:=oo;have aa:=h_ (λ(Z:Ω) (hZ:Below d.w0.heap.size d.w0 Z)=>Qu_ (HR.o.below hZ) aF hd);rw[YL_ hd,V.o]at A;rw[<-V.o]at A;have ab:=h_ al;have B:=h_ (show i+1<=m from oo);have aM:i+1<=12:=oo
  go_upto_if 19 with fail
  go_cut [7] (λx7 wx=>x7=I_ j_ i/\∃E:Pb,Ψ (Bt 137 d ps f fin (W.alloc (C_ #[I_ j_ 8,T_ t,S_ A' m c',B_ z] 96)) E r (.tied (q:Int) (inN (min a 40)) (decide (Qc_ ps (q:Int)=8)) φ::Xp_ g (i+1) (l.drop (i+1))) wx))
  ·
   by_cases aE:0<i
   ·have b:=h_ (show Bt 137 d ps f fin (W.alloc (C_ #[I_ j_ 8,T_ t,S_ A' m c',B_ z] 96)) X r (Bv.split 1 τ (inN (min a 40))::.put (if i=1 then ⟨#[63,32]⟩else ⟨#[58,32]⟩)::.tied (q:Int) (inN (min a 40)) (decide (Qc_ ps (q:Int)=8)) φ::Xp_ g (i+1) (l.drop (i+1))) wr from by
     have h:=A.o;rw[V.o]at h;dsimp only at h;rw[ip_ aE]at h;rw[V.o];exact h)
    go_wp2_with fail;refine Bt.ssplit hi b (by unfold inN;omega) ?_;intro W5 U k6;generalize X.split r 1 τ (inN (min a 40))=s5 at *;have ae:i=1\/i=2:=oo;rcases ae with rfl|rfl
    ·rw[ip_ rfl]at U;rw[show((1:Nat):Int)=1 from rfl];have xk:=(Blk.new W5 9 #[T_ ⟨#[]⟩,T_ ⟨#[63,32]⟩,T_ ⟨#[58,32]⟩]).cell 1;have G:=h_ (U.o.next (W':=W5.alloc (C_ #[T_ ⟨#[]⟩,T_ ⟨#[63,32]⟩,T_ ⟨#[58,32]⟩] 9)) grow_);go_wp2_with fail;refine Bt.sput hi G ?_;intro W6 H7 k7;go_wp2_with fail;go_meet;exact⟨rfl,_,H7⟩
    rw[in_ (show ¬2=1 by decide)]at U;rw[show((2:Nat):Int)=2 from rfl];have xk:=(Blk.new W5 9 #[T_ ⟨#[]⟩,T_ ⟨#[63,32]⟩,T_ ⟨#[58,32]⟩]).cell 2;have G:=h_<|U.o.next (W':=W5.alloc (C_ #[T_ ⟨#[]⟩,T_ ⟨#[63,32]⟩,T_ ⟨#[58,32]⟩] 9)) grow_;go_wp2_with fail
    refine Bt.sput hi G ?_;intro W6 H7 k7;go_wp2_with fail;go_meet;exact⟨rfl,_,H7⟩
   obtain rfl:i=0:=oo;have b:=h_ (show Bt 137 d ps f fin (W.alloc (C_ #[I_ j_ 8,T_ t,S_ A' m c',B_ z] 96)) X r (.tied (q:Int) (inN (min a 40)) (decide (Qc_ ps (q:Int)=8)) φ::Xp_ g (0+1) (l.drop (0+1))) wr from by
    have h:=A.o;rw[V.o]at h;rw[V.o];exact h)
   go_wp2_with fail;go_meet;exact⟨rfl,X,b⟩
  obtain⟨rfl,E,b⟩:=hcut;obtain⟨wA,rfl⟩:∃wA:Ω,wA=wc:=⟨_,rfl⟩;obtain⟨A0,c0,A1,c1,A2,c2,A3,c3,hA⟩:=b.o.C;obtain⟨u0,u1,u2,u3,un,ut,ub,uf,uz⟩:=hA.scells hi;have K:=b.o.box;have x2:=K.q2;have xg:=K.lt;obtain⟨b5,aP,rfl,L,cv⟩:=aa.o _ b.o.C.old;have n:=b.o.c79;have S:=b.o.size;have Q:=h_<|b.o.N q E (a+4) wA ai ab.o oo oo (λe=>by rw[hi]at e;cases e) b.o.c79 b.o.C (by simp only[wB,it_]at S;exact S);rw[show min (a+4) 40=inN (min a 40)by unfold inN;omega,hi]at Q;go_wp2_with fail
  refine mb_ Q.o ?_;rintro x ⟨o,P⟩;have I:=h_ o;have J:=h_ P;have aR:=h_<|WS_ ps f q (inN (min a 40)) E n;obtain⟨y,hy⟩:=HP.o.get (show q<d.n from oo);have C:=h_ (λ(h:y.kind=8)=>Qay_ (f:=f) hy (by rw[h];decide) ai (inN (min a 40)) E r);obtain⟨b6,am,A6,c6,eD,k,y0,_⟩:=HP.o.at_ (show q<d.n from oo) hy;have T:=((QW_ o.old).1 _ _ k).trans y0;have M:b6<x.heap.size:=ll_ k o.old.size;have ag:Qc_ ps (q:Int)=y.kind:=Qr_ hy;have aT:q<d.n:=oo;have R:=ab.o;rw[ag]at b R;have K6:=P.2 _ _ b.o.box;have aJ:=K6.q2;have aL:=K6.lt;obtain⟨b7,aQ,e7,N,aB⟩:=aa.o _ o.old;injection e7 with e7;injection e7 with e71 e72;subst e71;subst e72;obtain⟨B0,d0,B1,d1,B2,d2,B3,d3,hA⟩:=o;obtain⟨v0,v1,v2,v3,vn,vt,vb,vf,vz⟩:=hA.scells hi;rw[eD]at vn;have F:1<=y.kind/\y.kind<=11:=R;obtain⟨yk,yt,yl,yz⟩:=y;replace T:x.cell? ⟨b6,am+q*4,ν⟩=σ (I_ j_ yk):=T;simp only at b C F;obtain⟨aN,aO⟩:=F;by_cases h7:yk=8
  ·subst h7;go_upto_region 10 with fail
   go_quiet (fail);have c:Λ x (x.drewN nq):=⟨rfl,rfl,rfl,lr_ _,λg _=>rfl⟩;have ay:=h_<|I.o.next c;have az:=h_<|J.o.trans<|Kb.below c;have ak:=(by first|exact C.o rfl|exact C.o trivial);generalize x.drewN nq=w7 at *;go_wp2_with fail
   refine mb_ (WN_ d hi _ (η E.rules:Int) r _ ay.o oo) ?_;rintro w8 ⟨O,af⟩;rw[ak]at O;have H8:=h_<|b.o.jump (show BdC d ((QR_ ps f q (inN (min a 40)) E).tie (Q4_ E) r) w8 from O)<|az.o.trans af;go_wp2;go_roundw
   ·exact⟨i+1,_,B.o,by go_num,H8⟩
   have:=B.o;exact ms_
  have d7:decide (yk=8)=φ:=df_ h7;have b7:(yk==8)=φ:=bn_.2 h7;rw[d7]at b;go_upto_region 10 with fail
  go_quiet (fail);have c:Λ x (x.drewN nq):=⟨rfl,rfl,rfl,lr_ _,λg _=>rfl⟩;have H8:=h_<|b.o.jump (show BdC d (QR_ ps f q (inN (min a 40)) E) (x.drewN nq)from I.o.next c)<|J.o.trans<|Kb.below c;go_wp2;go_roundw
  ·exact⟨i+1,_,B.o,by go_num,H8⟩
  have:=B.o;exact ms_
 obtain rfl:i=m:=oo;rw[Xu_ (Nat.le_of_eq hl.o)]at A;go_wp2;go_end0;have h2:=A.o.fin_;exact⟨rfl,h2.1,Zc_ h2.2⟩
def ZC_ {A:OA} {n:Nat} (h:Rd w 1 A n (Qa_ j)) (hn:0<n):∃b off,A=σ ⟨b,off,ν⟩:=by
 obtain⟨b,off,e,_,_⟩:=h.2 hn;exact⟨b,off,e⟩
def Rd.empty_:Rd g s h 0 []:=⟨by simp,λw=>absurd w oo⟩
def QO_ {b off n i:Nat} {v:Int} (h:Rd w 1 (σ ⟨b,off,ν⟩) n (Qa_ j)) (hb:Λ w k) (hi:i<n) (hd:j[i]? =σ v):k.cell? ⟨b,off+i,ν⟩=σ (I_ j_ v):=by
 obtain⟨b5,a,e,_,cv⟩:=Qu_ (h.below hb) hi hd;injection e with e;injection e with e1 e2;subst e1;subst e2;exact cv
def ZU_ {off n:Nat} (h:Rd w 1 (σ ⟨f,off,ν⟩) n (Qa_ j)) (hb:Λ w k) (hn:0<n):f<k.heap.size:=by
 obtain⟨b5,c,e,a,_⟩:=h.2 hn;injection e with e;injection e with e1 e2;subst e1;exact ll_ a hb.size
def j6_ (hi:d.imp=φ) (ps:List PN) (m f j:Nat) (t:BA) (z:Bool) (a:Int) (s:Pb) (W:Ω) (h:VIn 137 d ps m f j ⟨1,t,[],z⟩ a s W):
  Δ π 137 #[P_ (σ ⟨d.T,0,ν⟩),I_ j_ (j:Int),I_ j_ a] W (YW_ d W (U_ #[]) (QR_ ps (f+1) j (min a 40) s)):=by
 obtain⟨b,off,A',c',eD,D,y0,y1,y2,y3,hr,g⟩:=h.at_;obtain⟨A0,c0,A1,c1,A2,c2,A3,c3,hA⟩:=h.hC;obtain⟨_,_,_,_,un,_,_,uf,uz⟩:=hA.scells hi;rw[eD]at un;have i:j<d.n:=by have:=h.lt;have:=h.hn;omega
 have c:j<=300:=by have:=h.lt;have:=h.hF.few;omega
 have ha:=h.ha;have e:=h.hab;have HK:=h_ h.kids;have HR:=h_ hr;have HV:=h_ h;dsimp only at y0 y1 y2 y3;have H:=h_<|h.bt (min a 40) #[I_ j_ 1,T_ t,S_ A' 0 c',B_ z];replace H:Ψ (Bt 137 d ps f (QR_ ps (f+1) j (min a 40) s) (W.alloc (C_ #[I_ j_ 1,T_ t,S_ A' 0 c',B_ z] 96)) s (-1) [.put t] (W.alloc (C_ #[I_ j_ 1,T_ t,S_ A' 0 c',B_ z] 96))):=H;go_in;go_wp2_with fail
 refine Bt.sput hi H ?_;intro W1 H1 k1;have H:=H1;go_wp2;go_end0;have h2:=H.o.fin_;exact⟨rfl,h2.1,Zc_ h2.2⟩
def j7_ (hi:d.imp=φ) (ps:List PN) (m f j:Nat) (t:BA) (z:Bool) (a:Int) (s:Pb) (W:Ω) (h:VIn 137 d ps m f j ⟨2,t,[],z⟩ a s W):
  Δ π 137 #[P_ (σ ⟨d.T,0,ν⟩),I_ j_ (j:Int),I_ j_ a] W (YW_ d W (U_ #[]) (QR_ ps (f+1) j (min a 40) s)):=by
 obtain⟨b,off,A',c',eD,D,y0,y1,y2,y3,hr,g⟩:=h.at_;obtain⟨A0,c0,A1,c1,A2,c2,A3,c3,hA⟩:=h.hC;obtain⟨_,_,_,_,un,_,_,uf,uz⟩:=hA.scells hi;rw[eD]at un;have i:j<d.n:=by have:=h.lt;have:=h.hn;omega
 have c:j<=300:=by have:=h.lt;have:=h.hF.few;omega
 have ha:=h.ha;have e:=h.hab;have HK:=h_ h.kids;have HR:=h_ hr;have HV:=h_ h;dsimp only at y0 y1 y2 y3;have H:=h_<|h.bt (min a 40) #[I_ j_ 2,T_ t,S_ A' 0 c',B_ z];replace H:Ψ (Bt 137 d ps f (QR_ ps (f+1) j (min a 40) s) (W.alloc (C_ #[I_ j_ 2,T_ t,S_ A' 0 c',B_ z] 96)) s (-1) [.put t] (W.alloc (C_ #[I_ j_ 2,T_ t,S_ A' 0 c',B_ z] 96))):=H;go_in;go_wp2_with fail
 refine Bt.sput hi H ?_;intro W1 H1 k1;have H:=H1;go_wp2;go_end0;have h2:=H.o.fin_;exact⟨rfl,h2.1,Zc_ h2.2⟩
def j8_ (hi:d.imp=φ) (ps:List PN) (m f j:Nat) (t:BA) (z:Bool) (a:Int) (s:Pb) (W:Ω) (h:VIn 137 d ps m f j ⟨3,t,[],z⟩ a s W):
  Δ π 137 #[P_ (σ ⟨d.T,0,ν⟩),I_ j_ (j:Int),I_ j_ a] W (YW_ d W (U_ #[]) (QR_ ps (f+1) j (min a 40) s)):=by
 obtain⟨b,off,A',c',eD,D,y0,y1,y2,y3,hr,g⟩:=h.at_;obtain⟨A0,c0,A1,c1,A2,c2,A3,c3,hA⟩:=h.hC;obtain⟨_,_,_,_,un,_,_,uf,uz⟩:=hA.scells hi;rw[eD]at un;have i:j<d.n:=by have:=h.lt;have:=h.hn;omega
 have c:j<=300:=by have:=h.lt;have:=h.hF.few;omega
 have ha:=h.ha;have e:=h.hab;have HK:=h_ h.kids;have HR:=h_ hr;have HV:=h_ h;dsimp only at y0 y1 y2 y3;have H:=h_<|h.bt (min a 40) #[I_ j_ 3,T_ t,S_ A' 0 c',B_ z];replace H:Ψ (Bt 137 d ps f (QR_ ps (f+1) j (min a 40) s) (W.alloc (C_ #[I_ j_ 3,T_ t,S_ A' 0 c',B_ z] 96)) s (-1) [.put t] (W.alloc (C_ #[I_ j_ 3,T_ t,S_ A' 0 c',B_ z] 96))):=H;go_in;go_wp2_with fail
 refine Bt.sput hi H ?_;intro W1 H1 k1;have H:=H1;go_wp2;go_end0;have h2:=H.o.fin_;exact⟨rfl,h2.1,Zc_ h2.2⟩
def Qei_ (hi:d.imp=φ) (ps:List PN) (m f j:Nat) (t:BA) (z:Bool) (a:Int) (s:Pb) (W:Ω) (q:Nat) (h:VIn 137 d ps m f j ⟨11,t,[(q:Int)],z⟩ a s W) (k:QI_ (Qc_ ps (q:Int))):
  Δ π 137 #[P_ (σ ⟨d.T,0,ν⟩),I_ j_ (j:Int),I_ j_ a] W (YW_ d W (U_ #[]) (QR_ ps (f+1) j (min a 40) s)):=by
 obtain⟨b,off,A',c',eD,l,y0,y1,y2,y3,hr,p⟩:=h.at_;obtain⟨A0,c0,A1,c1,A2,c2,A3,c3,hA⟩:=h.hC;obtain⟨_,_,_,_,un,_,_,uf,uz⟩:=hA.scells hi;rw[eD]at un;have r:j<d.n:=by have:=h.lt;have:=h.hn;omega
 have e:j<=300:=by have:=h.lt;have:=h.hF.few;omega
 have ha:=h.ha;have o:=h.hab;have HK:=h_ h.kids;have HR:=h_ hr;have HV:=h_ h;dsimp only at y0 y1 y2 y3;have H:=h_<|h.bt (min a 40) #[I_ j_ 11,T_ t,S_ A' 1 c',B_ z];replace H:Ψ (Bt 137 d ps f (QR_ ps (f+1) j (min a 40) s) (W.alloc (C_ #[I_ j_ 11,T_ t,S_ A' 1 c',B_ z] 96)) s (-1) ([.put ⟨#[40]⟩,.kid (q:Int) (min a 40),.put ⟨#[41]⟩]) (W.alloc (C_ #[I_ j_ 11,T_ t,S_ A' 1 c',B_ z] 96))):=H;obtain⟨b5,n,rfl⟩:=ZC_ HR.o sm_;obtain⟨⟨v,x⟩,y,A⟩:=HK.o (q:Int) sm_;have g:q<f:=oo;go_in;go_wp2_with fail
 refine Bt.sput hi H ?_;intro W1 c D;have H:=c;have K:=H.o.box;have x1:=K.q1;have x2:=K.q2;have xg:=K.lt;have cv:=QO_ HR.o H.o.C.old (i:=0) sm_ rfl;rw[Nat.add_zero]at cv;go_wp2_with fail;refine Bt.kid H g k ha oo rfl ?_;intro W1 c D;have H:=c;rw[hi];go_wp2_with fail;refine Bt.sput hi H ?_;intro W1 c D;have H:=c;go_wp2;go_end0;have h2:=H.o.fin_;exact⟨rfl,h2.1,Zc_ h2.2⟩
def Qeh_ (hi:d.imp=φ) (ps:List PN) (m f j:Nat) (t:BA) (z:Bool) (a:Int) (s:Pb) (W:Ω) (q:Nat) (h:VIn 137 d ps m f j ⟨6,t,[(q:Int)],z⟩ a s W) (g:QI_ (Qc_ ps (q:Int))):
  Δ π 137 #[P_ (σ ⟨d.T,0,ν⟩),I_ j_ (j:Int),I_ j_ a] W (YW_ d W (U_ #[]) (QR_ ps (f+1) j (min a 40) s)):=by
 obtain⟨b,off,A',c',eD,l,y0,y1,y2,y3,hr,p⟩:=h.at_;obtain⟨A0,c0,A1,c1,A2,c2,A3,c3,hA⟩:=h.hC;obtain⟨_,_,_,_,un,_,_,uf,uz⟩:=hA.scells hi;rw[eD]at un;have r:j<d.n:=by have:=h.lt;have:=h.hn;omega
 have D:j<=300:=by have:=h.lt;have:=h.hF.few;omega
 have ha:=h.ha;have o:=h.hab;have HK:=h_ h.kids;have HR:=h_ hr;have HV:=h_ h;dsimp only at y0 y1 y2 y3;have H:=h_<|h.bt (min a 40) #[I_ j_ 6,T_ t,S_ A' 1 c',B_ z];replace H:Ψ (Bt 137 d ps f (QR_ ps (f+1) j (min a 40) s) (W.alloc (C_ #[I_ j_ 6,T_ t,S_ A' 1 c',B_ z] 96)) s (-1) ([.kid (q:Int) (min a 40),.put (⟨#[46]⟩++t)]) (W.alloc (C_ #[I_ j_ 6,T_ t,S_ A' 1 c',B_ z] 96))):=H;obtain⟨b5,n,rfl⟩:=ZC_ HR.o sm_;obtain⟨⟨v,x⟩,y,A⟩:=HK.o (q:Int) sm_;have e:q<f:=oo;have ht:=HV.o.hpn _<|lm_ HV.o.hx;have B:t.size<=1048576:=ht.1;have cv:=QO_ HR.o (H.o.C.old) (i:=0) sm_ rfl;rw[Nat.add_zero]at cv;go_in;go_wp2_with fail
 refine Bt.kid H e g ha oo rfl ?_;intro W1 c k;have H:=c;rw[hi];have K:=H.o.box;have x1:=K.q1;have x2:=K.q2;have xg:=K.lt;go_wp2_with fail;refine Bt.sput hi H ?_;intro W1 c k;have H:=c;go_wp2;go_end0;have h2:=H.o.fin_;exact⟨rfl,h2.1,Zc_ h2.2⟩
def Qb3_ (hi:d.imp=φ) (ps:List PN) (m f j:Nat) (t:BA) (z:Bool) (a:Int) (s:Pb) (W:Ω) (l:LI) (h:VIn 137 d ps m f j ⟨4,t,l,z⟩ a s W) (i:∀v∈l,QI_ (Qc_ ps v)):
  Δ π 137 #[P_ (σ ⟨d.T,0,ν⟩),I_ j_ (j:Int),I_ j_ a] W (YW_ d W (U_ #[]) (QR_ ps (f+1) j (min a 40) s)):=by
 obtain⟨b,off,A',c',eD,k,y0,y1,y2,y3,hr,o⟩:=h.at_;obtain⟨A0,c0,A1,c1,A2,c2,A3,c3,hA⟩:=h.hC;obtain⟨_,_,_,_,un,_,_,uf,uz⟩:=hA.scells hi;rw[eD]at un;have p:j<d.n:=by have:=h.lt;have:=h.hn;omega
 have D:j<=300:=by have:=h.lt;have:=h.hF.few;omega
 have ha:=h.ha;have n:=h.hab;have HK:=h_ h.kids;have HR:=h_ hr;have c:=h_ h;dsimp only at y0 y1 y2 y3;have H:=h_<|h.bt (min a 40) #[I_ j_ 4,T_ t,S_ A' (η l) c',B_ z];have HL:=h_<|YR_ d hi ps f c.o.hN c.o.light A' (η l) c' l ⟨#[91]⟩ ⟨#[93]⟩ s a (W.alloc (C_ #[I_ j_ 4,T_ t,S_ A' (η l) c',B_ z] 96)) (h_ rfl) c.o.few HR.o (h_ (λv g=>⟨(HK.o v g).1,i v g,(HK.o v g).2.2⟩)) ha oo c.o.h79 (c.o.hC.next grow_)<|c.o.weight<|min a 40;have HE:=h_ (show(VL_ (QR_ ps f) (s,-1) (XT_ ⟨#[91]⟩ ⟨#[93]⟩ l (min a 40))).1=QR_ ps (f+1) j (min a 40) s from(KX_ c.o.hx (min a 40) s).symm);rw[HE.o]at HL;go_in;go_wp2_with fail
 refine mb_ HL.o ?_;rintro w2 ⟨h2,h3⟩;have H2:=h_ h2;have H3:=h_ h3;go_wp2;go_end0;exact⟨rfl,H2.o,Zc_ H3.o⟩
def j5_ (hi:d.imp=φ) (ps:List PN) (m f j:Nat) (t:BA) (z:Bool) (a:Int) (s:Pb) (W:Ω) (l:LI) (h:VIn 137 d ps m f j ⟨7,t,l,z⟩ a s W) (i:∀v∈l,QI_ (Qc_ ps v)):
  Δ π 137 #[P_ (σ ⟨d.T,0,ν⟩),I_ j_ (j:Int),I_ j_ a] W (YW_ d W (U_ #[]) (QR_ ps (f+1) j (min a 40) s)):=by
 obtain⟨b,off,A',c',eD,k,y0,y1,y2,y3,hr,o⟩:=h.at_;obtain⟨A0,c0,A1,c1,A2,c2,A3,c3,hA⟩:=h.hC;obtain⟨_,_,_,_,un,_,_,uf,uz⟩:=hA.scells hi;rw[eD]at un;have p:j<d.n:=by have:=h.lt;have:=h.hn;omega
 have D:j<=300:=by have:=h.lt;have:=h.hF.few;omega
 have ha:=h.ha;have n:=h.hab;have HK:=h_ h.kids;have HR:=h_ hr;have c:=h_ h;dsimp only at y0 y1 y2 y3;have H:=h_<|h.bt (min a 40) #[I_ j_ 7,T_ t,S_ A' (η l) c',B_ z];have HL:=h_<|za_ d hi ps f c.o.hps c.o.hfn c.o.hN c.o.light A' (η l) c' l t z s a (W.alloc (C_ #[I_ j_ 7,T_ t,S_ A' (η l) c',B_ z] 96)) (h_ rfl) c.o.few HR.o (h_ (λv g=>⟨(HK.o v g).1,i v g,(HK.o v g).2.2⟩)) ha oo c.o.h79 (c.o.hC.next grow_)<|c.o.weight<|min a 40;have HE:=h_ (show(VL_ (QR_ ps f) (s,-1) (ZS_ ps t l (inN (min a 40)))).1=QR_ ps (f+1) j (min a 40) s from(KX_ c.o.hx (min a 40) s).symm);rw[HE.o]at HL;go_in;go_wp2_with fail
 refine mb_ HL.o ?_;rintro w2 ⟨h2,h3⟩;have H2:=h_ h2;have H3:=h_ h3;go_wp2;go_end0;exact⟨rfl,H2.o,Zc_ H3.o⟩
def Qb4_ (hi:d.imp=φ) (ps:List PN) (m f j:Nat) (t:BA) (z:Bool) (a:Int) (s:Pb) (W:Ω) (l:LI) (h:VIn 137 d ps m f j ⟨8,t,l,z⟩ a s W) (k:∀v∈l,QI_ (Qc_ ps v)) (D:Ψ (η l=3)):
  Δ π 137 #[P_ (σ ⟨d.T,0,ν⟩),I_ j_ (j:Int),I_ j_ a] W (YW_ d W (U_ #[]) (QR_ ps (f+1) j (min a 40) s)):=by
 obtain⟨b,off,A',c',eD,n,y0,y1,y2,y3,hr,p⟩:=h.at_;obtain⟨A0,c0,A1,c1,A2,c2,A3,c3,hA⟩:=h.hC;obtain⟨_,_,_,_,un,_,_,uf,uz⟩:=hA.scells hi;rw[eD]at un;have q:j<d.n:=by have:=h.lt;have:=h.hn;omega
 have g:j<=300:=by have:=h.lt;have:=h.hF.few;omega
 have ha:=h.ha;have o:=h.hab;have HK:=h_ h.kids;have HR:=h_ hr;have c:=h_ h;dsimp only at y0 y1 y2 y3;have H:=h_<|h.bt (min a 40) #[I_ j_ 8,T_ t,S_ A' (η l) c',B_ z];have HL:=h_<|qX_ d hi ps f c.o.hps c.o.hfn c.o.hN c.o.light A' (η l) c' l t z s a (W.alloc (C_ #[I_ j_ 8,T_ t,S_ A' (η l) c',B_ z] 96)) (h_ rfl) (by have:=D.o;omega) HR.o (h_ (λv i=>⟨(HK.o v i).1,k v i,(HK.o v i).2.2⟩)) ha oo c.o.h79 (c.o.hC.next grow_)<|c.o.weight<|min a 40;have HE:=h_ (show(VL_ (QR_ ps f) (s,-1) (Y4_ ps l (inN (min a 40)))).1=QR_ ps (f+1) j (min a 40) s from(KX_ c.o.hx (min a 40) s).symm);rw[HE.o]at HL;go_in;go_wp2_with fail
 refine mb_ HL.o ?_;rintro w2 ⟨h2,h3⟩;have H2:=h_ h2;have H3:=h_ h3;go_wp2;go_end0;exact⟨rfl,H2.o,Zc_ H3.o⟩
def Qb1_ (hi:d.imp=φ) (ps:List PN) (m f j:Nat) (t:BA) (z:Bool) (a:Int) (s:Pb) (W:Ω) (q:Nat) (l:LI) (h:VIn 137 d ps m f j ⟨5,t,(q:Int)::l,z⟩ a s W) (A:QI_ (Qc_ ps (q:Int))) (M:∀v∈l,QI_ (Qc_ ps v)):
  Δ π 137 #[P_ (σ ⟨d.T,0,ν⟩),I_ j_ (j:Int),I_ j_ a] W (YW_ d W (U_ #[]) (QR_ ps (f+1) j (min a 40) s)):=by
 obtain⟨b,off,A',c',eD,N,y0,y1,y2,y3,hr,I⟩:=h.at_;obtain⟨A0,c0,A1,c1,A2,c2,A3,c3,hA⟩:=h.hC;obtain⟨_,_,_,_,un,_,_,uf,uz⟩:=hA.scells hi;rw[eD]at un;have S:j<d.n:=by have:=h.lt;have:=h.hn;omega
 have J:j<=300:=by have:=h.lt;have:=h.hF.few;omega
 have C:=h.ha;have P:=h.hab;have G:=h_ h.kids;have B:=h_ hr;have g:=h_ h;dsimp only at y0 y1 y2 y3;have H:=h_<|h.bt (min a 40) #[I_ j_ 5,T_ t,S_ A' (η l+1) c',B_ z];replace H:Ψ (Bt 137 d ps f (QR_ ps (f+1) j (min a 40) s) (W.alloc (C_ #[I_ j_ 5,T_ t,S_ A' (η l+1) c',B_ z] 96)) s (-1) (.kid (q:Int) (min a 40)::XT_ ⟨#[40]⟩ ⟨#[41]⟩ l (min a 40)) (W.alloc (C_ #[I_ j_ 5,T_ t,S_ A' (η l+1) c',B_ z] 96))):=H;obtain⟨b5,D,rfl⟩:=ZC_ B.o sm_;obtain⟨⟨T,U⟩,V,X⟩:=G.o (q:Int) sm_;have r:q<f:=oo;have cv:=QO_ B.o g.o.hC.old (i:=0) sm_ rfl;rw[Nat.add_zero]at cv;have Q:=ZU_ B.o g.o.hC.old sm_;have em:((η l+1:Nat):Int)-1=(η l:Int):=oo;have O:η l+1<=c':=I;have x:Rd d.w0 1 (σ ⟨b5,D+1,ν⟩) (η l) (Qa_ l):=UL_ B.o sm_ sm_;have L:c'=1->l=[]:=λe=>ln_ oo
 by_cases p:c'=1
 ·obtain rfl:l=[]:=L p;subst p;go_in;go_wp2_with fail;refine Bt.kid H r A C oo rfl ?_;intro W1 c k1;rw[hi];have K:=c.o.box;have x2:=K.q2;have xg:=K.lt;have k:=h_ (λA2=>YR_ d hi ps f g.o.hN g.o.light A2 0 0 [] ⟨#[40]⟩ ⟨#[41]⟩ (QR_ ps f q (min a 40) s) a W1 (h_ rfl) oo (Rd.empty_ _ _ _) (h_ (λv y=>(by cases y))) C oo c.o.c79 c.o.C c.o.Z);rw[c.o.L]at k;go_wp2_with fail;refine mb_ (k.o _) ?_;rintro w2 ⟨n,o⟩;have E:=h_ n;have F:=h_<|c.o.K.trans o;go_wp2;go_end0;exact⟨rfl,E.o,Zc_ F.o⟩
 have R:1<c':=oo;go_in;go_wp2_with fail;refine Bt.kid H r A C oo rfl ?_;intro W1 c k1;rw[hi];have K:=c.o.box;have x2:=K.q2;have xg:=K.lt;have k:=h_ (λc2=>YR_ d hi ps f g.o.hN g.o.light (σ ⟨b5,D+1,ν⟩) (η l) c2 l ⟨#[40]⟩ ⟨#[41]⟩ (QR_ ps f q (min a 40) s) a W1 (h_ rfl) (by have:=g.o.few;simp only[List.length_cons]at this;omega) x (h_ (λv y=>⟨(G.o v (List.mem_cons_of_mem _ y)).1,M v y,(G.o v (List.mem_cons_of_mem _ y)).2.2⟩)) C oo c.o.c79 c.o.C c.o.Z);rw[c.o.L]at k;go_wp2_with fail;refine mb_ (k.o _) ?_;rintro w2 ⟨n,o⟩;have E:=h_ n;have F:=h_<|c.o.K.trans o;go_wp2;go_end0;exact⟨rfl,E.o,Zc_ F.o⟩
def kG_ (hi:d.imp=τ) (ps:List PN) (f:Nat) (aa:Nps d.w0 d.A d.n ps) (aE:f<=d.n) (hN:KidC 224 d ps f) (T:Uh_ 2000000 ps (QR_ ps f)) (A':OA) (m c':Nat) (l:LI) (t:BA) (z:Bool) (s:Pb) (a:Int) (W:Ω) (hl:Ψ (η l=m)) (hm:m<=3) (hr:Rd d.w0 1 A' m (Qa_ l))
  (hv:Ψ (∀v∈l,(0<=v/\v<(f:Int))/\QI_ (Qc_ ps v)/\v<=900)) (ha:0<=a/\a<=40) (k:η s.chunks<=79) (hC:BdC d s W) (hZ:s.text.size+wS 2000000 ps (Y4_ ps l a)<=Xj_):
  Δ π 250 #[P_ (σ ⟨d.T,0,ν⟩),A_ #[I_ j_ 8,T_ t,S_ A' m c',B_ z],I_ j_ a] W (YW_ d W (I_ j_ (Q4_ s)) (VL_ (QR_ ps f) (s,-1) (Y4_ ps l a)).1):=by
 obtain⟨fin,o⟩:=ex_ ((VL_ (QR_ ps f) (s,-1) (Y4_ ps l a)).1);rw[o];have U:Λ W (W.alloc (C_ #[I_ j_ 8,T_ t,S_ A' m c',B_ z] 96)):=grow_;have H:=h_ (show Bt 224 d ps f fin (W.alloc (C_ #[I_ j_ 8,T_ t,S_ A' m c',B_ z] 96)) s (-1) (Y4_ ps l a) (W.alloc (C_ #[I_ j_ 8,T_ t,S_ A' m c',B_ z] 96))from⟨hC.next U,o,hZ,Kb.refl _,hN,T,k⟩);have HR:=h_ hr;have HP:=h_ aa;obtain⟨al,am⟩:=ha;unfold Y4_ at H;go_in;go_wp2_with fail;refine Bt.irule hi H ?_;intro W2 N k2;obtain⟨r,L⟩:=ex_ (Q4_ s);rw[L]at N |-
 generalize s.rule 2 1=s2 at N;obtain⟨g,hg⟩:∃g:Nat->Int->List Bv,g=(λi v=>(if 0<i then [Bv.split 1 τ a,.put (if i=1 then ⟨#[63,32]⟩else ⟨#[58,32]⟩)]else [])++[.tied v a (decide (Qc_ ps v=8)) φ]):=⟨_,rfl⟩;rw[<-hg]at N;have O:=h_ hg;have ai:=h_ L;have K:=N.o.box;have x2:=K.q2;have xg:=K.lt;go_wp2;go_loopw [16] (λj wr=>∃(i:Nat) (P:Pb),i<=m/\j=I_ j_ i/\Ψ (Bt 224 d ps f fin (W.alloc (C_ #[I_ j_ 8,T_ t,S_ A' m c',B_ z] 96)) P r (Xp_ g i (l.drop i)) wr)) (λj _=>m-(intOf j).toNat)
 ·exact⟨0,s2,lz_ _,rfl,by rw[List.drop_zero];exact N⟩
 obtain⟨i,P,aF,rfl,B⟩:=hrel;by_cases aq:i<m
 ·obtain⟨v,hd⟩:∃D,l[i]? =σ D:=⟨_,gE (by have:=hl.o;omega)⟩;obtain⟨⟨ax,aG⟩,ab,aH⟩:=hv.o v (lm_ hd);obtain⟨q,rfl⟩:=eo_ ax;have av:q<f:=oo;obtain⟨b5,A,rfl,G,cv⟩:=Qu_ (HR.o.below B.o.C.old) aq hd;rw[YL_ hd,O.o]at B;rw[<-O.o]at B;have aj:=h_ ab;have C:=h_ (show i+1<=m from oo);have aB:Below d.w0.heap.size d.w0 wr:=B.o.C.old
  go_upto_if 22 with fail
  go_cut [8] (λx8 wx=>x8=I_ j_ i/\∃E:Pb,Ψ (Bt 224 d ps f fin (W.alloc (C_ #[I_ j_ 8,T_ t,S_ (σ ⟨b5,A,ν⟩) m c',B_ z] 96)) E r (.tied (q:Int) a (decide (Qc_ ps (q:Int)=8)) φ::Xp_ g (i+1) (l.drop (i+1))) wx))
  ·
   by_cases ap:0<i
   ·have b:Ψ (Bt 224 d ps f fin (W.alloc (C_ #[I_ j_ 8,T_ t,S_ (σ ⟨b5,A,ν⟩) m c',B_ z] 96)) P r (.split 1 τ a::.put (if i=1 then ⟨#[63,32]⟩else ⟨#[58,32]⟩)::.tied (q:Int) a (decide (Qc_ ps (q:Int)=8)) φ::Xp_ g (i+1) (l.drop (i+1))) wr):=by
     have h:=B.o;rw[O.o]at h;dsimp only at h;rw[ip_ ap]at h;rw[O.o];exact h_ h
    go_wp2_with fail;refine Bt.isplit hi b rfl ?_;intro W5 F k6;generalize P.split r 1 τ a=s5 at *;have X:i=1\/i=2:=oo;obtain⟨xt,xf,xz⟩:=F.o.C.tx;rcases X with rfl|rfl
    ·rw[ip_ rfl]at F;have p:=F.o.size;simp only[wB,Xj_]at p;have x:(⟨#[63,32]⟩:BA).size=2:=rfl;rw[x]at p;have ar:¬9223372036854775807<s5.text.size+2:=oo;rw[show((1:Nat):Int)=1 from rfl];have ix:∀w,(Instr.index 252 (A_ #[T_ ⟨#[]⟩,T_ ⟨#[63,32]⟩,T_ ⟨#[58,32]⟩]) (I_ j_ 1)).run π w=.ok (T_ ⟨#[63,32]⟩) w:=λ_=>by kernel_rfl
     go_upto_region 7 with fail
     go_still_tail 10,nr_;have H7:=h_<|F.o.put.next br.drew;go_wp2_with fail
     go_meet;exact⟨rfl,_,H7⟩
    rw[in_ (show ¬2=1 by decide)]at F;have p:=F.o.size;simp only[wB,Xj_]at p;have x:(⟨#[58,32]⟩:BA).size=2:=rfl;rw[x]at p;have ar:¬9223372036854775807<s5.text.size+2:=oo;rw[show((2:Nat):Int)=2 from rfl];have ix:∀w,(Instr.index 252 (A_ #[T_ ⟨#[]⟩,T_ ⟨#[63,32]⟩,T_ ⟨#[58,32]⟩]) (I_ j_ 2)).run π w=.ok (T_ ⟨#[58,32]⟩) w:=λ_=>by kernel_rfl
    go_upto_region 7 with fail
    go_still_tail 10,nr_;have H7:=h_<|F.o.put.next br.drew;go_wp2_with fail
    go_meet;exact⟨rfl,_,H7⟩
   obtain rfl:i=0:=oo;have b:Ψ (Bt 224 d ps f fin (W.alloc (C_ #[I_ j_ 8,T_ t,S_ (σ ⟨b5,A,ν⟩) m c',B_ z] 96)) P r (.tied (q:Int) a (decide (Qc_ ps (q:Int)=8)) φ::Xp_ g (0+1) (l.drop (0+1))) wr):=by
    have h:=B.o;rw[O.o]at h;rw[O.o];exact h_ h
   go_wp2_with fail;go_meet;exact⟨rfl,P,b⟩
  obtain⟨rfl,E,b⟩:=hcut;have k:=b.o.c79;have M:=b.o.size;have J:=h_<|b.o.N q E a wc av aj.o al oo (λ_=>am) b.o.c79 b.o.C (by simp only[wB,it_]at M;exact M);rw[show min a 40=a from oo,hi]at J;go_wp2_with fail
  refine mb_ J.o ?_;rintro w6 ⟨n,Y⟩;have Q:=h_ n;have R:=h_ Y;have aC:=h_<|WS_ ps f q a E k;obtain⟨_,xn,xf,xz⟩:=n.ti hi;obtain⟨y,hy⟩:=HP.o.get (show q<d.n from oo);obtain⟨b6,ac,A6,c6,eD,c,y0,_⟩:=HP.o.at_ (show q<d.n from oo) hy;have ad:=((QW_ n.old).1 _ _ c).trans y0;have an:b6<w6.heap.size:=ll_ c n.old.size;have I:Qc_ ps (q:Int)=y.kind:=Qr_ hy;have aD:q<d.n:=oo;rw[eD]at xn;rw[I]at b;have S:=h_ (λ(h:y.kind=8)=>own7 (ps:=ps) (q:=q) (.inr (I.trans h)) E);obtain⟨yk,yt,yl,yz⟩:=y;replace ad:w6.cell? ⟨b6,ac+q*4,ν⟩=σ (I_ j_ yk):=ad;simp only at b S;have aA:i+1<=12:=oo;by_cases h7:yk=8
  ·subst h7;have e7:=S.o rfl;rw[e7];go_wp2_with fail;refine mb_ (U5_ d hi _ (Q4_ E) r _ Q.o) ?_;rintro w7 ⟨V,Z⟩;have H8:=h_<|b.o.jump (show BdC d ((QR_ ps f q a E).tie (Q4_ E) r) w7 from V)<|R.o.trans Z;go_wp2;go_roundw
   ·exact⟨i+1,_,C.o,by go_num,H8⟩
   have:=C.o;exact ms_
  have d7:decide (yk=8)=φ:=df_ h7;have b7:(yk==8)=φ:=bn_.2 h7;rw[d7]at b;have H8:=h_<|b.o.jump (show BdC d (QR_ ps f q a E) w6 from Q.o) R.o;go_wp2;go_roundw
  ·exact⟨i+1,_,C.o,by go_num,H8⟩
  have:=C.o;exact ms_
 obtain rfl:i=m:=oo;rw[Xu_ (Nat.le_of_eq hl.o)]at B;go_wp2;go_ret;have h2:=B.o.fin_;exact⟨Kx_ ai.o.symm,h2.1,Zc_ h2.2⟩
def jq_ (hi:d.imp=τ) (ps:List PN) (m f j:Nat) (t:BA) (z:Bool) (a:Int) (s:Pb) (W:Ω) (h:VIn 224 d ps m f j ⟨1,t,[],z⟩ a s W):
  Δ π 224 #[P_ (σ ⟨d.T,0,ν⟩),I_ j_ (j:Int),I_ j_ a] W (YW_ d W (I_ j_ (-1)) (QR_ ps (f+1) j (min a 40) s)):=by
 obtain⟨b,off,A',c',eD,k,y0,y1,y2,y3,hr,n⟩:=h.at_;obtain⟨_,un,uf,uz⟩:=h.hC.ti hi;have ut:=h.hC.tx.1;rw[eD]at un;have o:j<d.n:=by have:=h.lt;have:=h.hn;omega
 have e:j<=300:=by have:=h.lt;have:=h.hF.few;omega
 have ha:=h.ha;have l:=h.hab;have i:=h.h40 hi;have HK:=h_ h.kids;have HR:=h_ hr;have HV:=h_ h;dsimp only at y0 y1 y2 y3;have H:=h_<|h.bt (min a 40) #[I_ j_ 1,T_ t,S_ A' 0 c',B_ z];have q:t.size<=1048576:=(h.hpn _ (lm_ h.hx)).1;rw[show min a 40=a from oo]at H |-
 replace H:Ψ (Bt 224 d ps f (QR_ ps (f+1) j a s) (W.alloc (C_ #[I_ j_ 1,T_ t,S_ A' 0 c',B_ z] 96)) s (-1) ([.put t]) (W.alloc (C_ #[I_ j_ 1,T_ t,S_ A' 0 c',B_ z] 96))):=H;go_in;go_upto_region 2 with fail
 have D:=h_<|Kb.below (show Λ W (W.alloc (C_ #[I_ j_ 1,T_ t,S_ A' 0 c',B_ z] 96))from grow_);have c:=h_<|Blk.new W 96 #[I_ j_ 1,T_ t,S_ A' 0 c',B_ z];generalize W.alloc (C_ #[I_ j_ 1,T_ t,S_ A' 0 c',B_ z] 96)=Wb at *;have K:=c.o;have x0:=K.q0;have x1:=K.q1;have x2:=K.q2;have xg:=K.lt;obtain⟨xt,xf,xz⟩:=H.o.C.tx;have g:=H.o.size;simp only[wB,Xj_]at g;have p:¬9223372036854775807<s.text.size+t.size:=oo;go_upto_region 7 with fail
 go_still_tail 9,nr_;have H2:=h_<|H.o.put.next br.drew;go_wp2;go_ret;have h2:=H2.o.fin_;exact⟨rfl,h2.1,D.o.trans h2.2⟩
def jr_ (hi:d.imp=τ) (ps:List PN) (m f j:Nat) (t:BA) (z:Bool) (a:Int) (s:Pb) (W:Ω) (h:VIn 224 d ps m f j ⟨2,t,[],z⟩ a s W):
  Δ π 224 #[P_ (σ ⟨d.T,0,ν⟩),I_ j_ (j:Int),I_ j_ a] W (YW_ d W (I_ j_ (-1)) (QR_ ps (f+1) j (min a 40) s)):=by
 obtain⟨b,off,A',c',eD,k,y0,y1,y2,y3,hr,n⟩:=h.at_;obtain⟨_,un,uf,uz⟩:=h.hC.ti hi;have ut:=h.hC.tx.1;rw[eD]at un;have o:j<d.n:=by have:=h.lt;have:=h.hn;omega
 have e:j<=300:=by have:=h.lt;have:=h.hF.few;omega
 have ha:=h.ha;have l:=h.hab;have i:=h.h40 hi;have HK:=h_ h.kids;have HR:=h_ hr;have HV:=h_ h;dsimp only at y0 y1 y2 y3;have H:=h_<|h.bt (min a 40) #[I_ j_ 2,T_ t,S_ A' 0 c',B_ z];have q:t.size<=1048576:=(h.hpn _ (lm_ h.hx)).1;rw[show min a 40=a from oo]at H |-
 replace H:Ψ (Bt 224 d ps f (QR_ ps (f+1) j a s) (W.alloc (C_ #[I_ j_ 2,T_ t,S_ A' 0 c',B_ z] 96)) s (-1) ([.put t]) (W.alloc (C_ #[I_ j_ 2,T_ t,S_ A' 0 c',B_ z] 96))):=H;go_in;go_upto_region 2 with fail
 have D:=h_<|Kb.below (show Λ W (W.alloc (C_ #[I_ j_ 2,T_ t,S_ A' 0 c',B_ z] 96))from grow_);have c:=h_<|Blk.new W 96 #[I_ j_ 2,T_ t,S_ A' 0 c',B_ z];generalize W.alloc (C_ #[I_ j_ 2,T_ t,S_ A' 0 c',B_ z] 96)=Wb at *;have K:=c.o;have x0:=K.q0;have x1:=K.q1;have x2:=K.q2;have xg:=K.lt;obtain⟨xt,xf,xz⟩:=H.o.C.tx;have g:=H.o.size;simp only[wB,Xj_]at g;have p:¬9223372036854775807<s.text.size+t.size:=oo;go_upto_region 7 with fail
 go_still_tail 9,nr_;have H2:=h_<|H.o.put.next br.drew;go_wp2;go_ret;have h2:=H2.o.fin_;exact⟨rfl,h2.1,D.o.trans h2.2⟩
def js_ (hi:d.imp=τ) (ps:List PN) (m f j:Nat) (t:BA) (z:Bool) (a:Int) (s:Pb) (W:Ω) (h:VIn 224 d ps m f j ⟨3,t,[],z⟩ a s W):
  Δ π 224 #[P_ (σ ⟨d.T,0,ν⟩),I_ j_ (j:Int),I_ j_ a] W (YW_ d W (I_ j_ (-1)) (QR_ ps (f+1) j (min a 40) s)):=by
 obtain⟨b,off,A',c',eD,k,y0,y1,y2,y3,hr,n⟩:=h.at_;obtain⟨_,un,uf,uz⟩:=h.hC.ti hi;have ut:=h.hC.tx.1;rw[eD]at un;have o:j<d.n:=by have:=h.lt;have:=h.hn;omega
 have e:j<=300:=by have:=h.lt;have:=h.hF.few;omega
 have ha:=h.ha;have l:=h.hab;have i:=h.h40 hi;have HK:=h_ h.kids;have HR:=h_ hr;have HV:=h_ h;dsimp only at y0 y1 y2 y3;have H:=h_<|h.bt (min a 40) #[I_ j_ 3,T_ t,S_ A' 0 c',B_ z];have q:t.size<=1048576:=(h.hpn _ (lm_ h.hx)).1;rw[show min a 40=a from oo]at H |-
 replace H:Ψ (Bt 224 d ps f (QR_ ps (f+1) j a s) (W.alloc (C_ #[I_ j_ 3,T_ t,S_ A' 0 c',B_ z] 96)) s (-1) ([.put t]) (W.alloc (C_ #[I_ j_ 3,T_ t,S_ A' 0 c',B_ z] 96))):=H;go_in;go_upto_region 2 with fail
 have D:=h_<|Kb.below (show Λ W (W.alloc (C_ #[I_ j_ 3,T_ t,S_ A' 0 c',B_ z] 96))from grow_);have c:=h_<|Blk.new W 96 #[I_ j_ 3,T_ t,S_ A' 0 c',B_ z];generalize W.alloc (C_ #[I_ j_ 3,T_ t,S_ A' 0 c',B_ z] 96)=Wb at *;have K:=c.o;have x0:=K.q0;have x1:=K.q1;have x2:=K.q2;have xg:=K.lt;obtain⟨xt,xf,xz⟩:=H.o.C.tx;have g:=H.o.size;simp only[wB,Xj_]at g;have p:¬9223372036854775807<s.text.size+t.size:=oo;go_upto_region 7 with fail
 go_still_tail 9,nr_;have H2:=h_<|H.o.put.next br.drew;go_wp2;go_ret;have h2:=H2.o.fin_;exact⟨rfl,h2.1,D.o.trans h2.2⟩
def Qc7_ (hi:d.imp=τ) (ps:List PN) (m f j:Nat) (t:BA) (z:Bool) (a:Int) (s:Pb) (W:Ω) (q:Nat) (h:VIn 224 d ps m f j ⟨11,t,[(q:Int)],z⟩ a s W) (v:QI_ (Qc_ ps (q:Int))):
  Δ π 224 #[P_ (σ ⟨d.T,0,ν⟩),I_ j_ (j:Int),I_ j_ a] W (YW_ d W (I_ j_ (-1)) (QR_ ps (f+1) j (min a 40) s)):=by
 obtain⟨b,off,A',c',eD,B,y0,y1,y2,y3,hr,E⟩:=h.at_;obtain⟨_,un,uf,uz⟩:=h.hC.ti hi;have ut:=h.hC.tx.1;rw[eD]at un;have F:j<d.n:=by have:=h.lt;have:=h.hn;omega
 have p:j<=300:=by have:=h.lt;have:=h.hF.few;omega
 have ha:=h.ha;have C:=h.hab;have A:=h.h40 hi;have HK:=h_ h.kids;have n:=h_ hr;have HV:=h_ h;dsimp only at y0 y1 y2 y3;have H:=h_<|h.bt (min a 40) #[I_ j_ 11,T_ t,S_ A' 1 c',B_ z];have M:t.size<=1048576:=(h.hpn _ (lm_ h.hx)).1;rw[show min a 40=a from oo]at H |-
 obtain⟨k,c,rfl⟩:=ZC_ n.o sm_;obtain⟨⟨G,I⟩,J,L⟩:=HK.o (q:Int) sm_;have r:q<f:=oo;replace H:Ψ (Bt 224 d ps f (QR_ ps (f+1) j a s) (W.alloc (C_ #[I_ j_ 11,T_ t,S_ (σ ⟨k,c,ν⟩) 1 c',B_ z] 96)) s (-1) ([.put ⟨#[40]⟩,.kid (q:Int) a,.put ⟨#[41]⟩]) (W.alloc (C_ #[I_ j_ 11,T_ t,S_ (σ ⟨k,c,ν⟩) 1 c',B_ z] 96))):=H;go_in;go_upto_region 2 with fail
 have l:=h_<|Kb.below (show Λ W (W.alloc (C_ #[I_ j_ 11,T_ t,S_ (σ ⟨k,c,ν⟩) 1 c',B_ z] 96))from grow_);have e:=h_<|Blk.new W 96 #[I_ j_ 11,T_ t,S_ (σ ⟨k,c,ν⟩) 1 c',B_ z];generalize W.alloc (C_ #[I_ j_ 11,T_ t,S_ (σ ⟨k,c,ν⟩) 1 c',B_ z] 96)=Wb at *;have K:=e.o;have x0:=K.q0;have x1:=K.q1;have x:=K.q2;have y:=K.lt;obtain⟨xt,xf,xz⟩:=H.o.C.tx;have D:=H.o.size;simp only[wB,Xj_]at D;go_upto_region 10 with fail
 have g:=h_ H.o.put;generalize Wb.setCell ⟨d.T,6,ν⟩ (T_ (s.text++⟨#[40]⟩))=W5 at *;have H:=g;have K:=H.o.K.2 _ _ e.o;have x:=K.q2;have y:=K.lt;have cv:=QO_ n.o H.o.C.old (i:=0) sm_ rfl;rw[Nat.add_zero]at cv;have o:=ZU_ n.o H.o.C.old sm_;go_wp2_with fail;refine Bt.kid H r v ha oo oo ?_;intro W1 g k1;have H:=g;rw[hi];obtain⟨xt,xf,xz⟩:=H.o.C.tx;have D:=H.o.size;simp only[wB,Xj_]at D;go_wp2;go_ret;have h2:=H.o.put.fin_;exact⟨rfl,h2.1,l.o.trans h2.2⟩
def Qc6_ (hi:d.imp=τ) (ps:List PN) (m f j:Nat) (t:BA) (z:Bool) (a:Int) (s:Pb) (W:Ω) (q:Nat) (h:VIn 224 d ps m f j ⟨6,t,[(q:Int)],z⟩ a s W) (o:QI_ (Qc_ ps (q:Int))):
  Δ π 224 #[P_ (σ ⟨d.T,0,ν⟩),I_ j_ (j:Int),I_ j_ a] W (YW_ d W (I_ j_ (-1)) (QR_ ps (f+1) j (min a 40) s)):=by
 obtain⟨b,off,A',c',eD,r,y0,y1,y2,y3,hr,A⟩:=h.at_;obtain⟨_,un,uf,uz⟩:=h.hC.ti hi;have ut:=h.hC.tx.1;rw[eD]at un;have B:j<d.n:=by have:=h.lt;have:=h.hn;omega
 have l:j<=300:=by have:=h.lt;have:=h.hF.few;omega
 have ha:=h.ha;have y:=h.hab;have p:=h.h40 hi;have HK:=h_ h.kids;have g:=h_ hr;have HV:=h_ h;dsimp only at y0 y1 y2 y3;have H:=h_<|h.bt (min a 40) #[I_ j_ 6,T_ t,S_ A' 1 c',B_ z];have I:t.size<=1048576:=(h.hpn _ (lm_ h.hx)).1;rw[show min a 40=a from oo]at H |-
 obtain⟨b5,c,rfl⟩:=ZC_ g.o sm_;obtain⟨⟨C,E⟩,F,G⟩:=HK.o (q:Int) sm_;have n:q<f:=oo;replace H:Ψ (Bt 224 d ps f (QR_ ps (f+1) j a s) (W.alloc (C_ #[I_ j_ 6,T_ t,S_ (σ ⟨b5,c,ν⟩) 1 c',B_ z] 96)) s (-1) ([.kid (q:Int) a,.put (⟨#[46]⟩++t)]) (W.alloc (C_ #[I_ j_ 6,T_ t,S_ (σ ⟨b5,c,ν⟩) 1 c',B_ z] 96))):=H;have cv:=QO_ g.o HV.o.hC.old (i:=0) sm_ rfl;rw[Nat.add_zero]at cv;have k:=ZU_ g.o HV.o.hC.old sm_;go_in;go_wp2_with fail;refine Bt.kid H n o ha oo oo ?_;intro W1 H1 k1;have H:=H1;rw[hi];have K:=H.o.box;have x1:=K.q1;have x2:=K.q2;have xg:=K.lt;obtain⟨xt,xf,xz⟩:=H.o.C.tx;have D:=H.o.size;simp only[wB,Xj_,bs_]at D;have e:(⟨#[46]⟩:BA).size=1:=rfl;rw[e]at D;have v:¬9223372036854775807<1+t.size:=oo;have x:¬9223372036854775807<(QR_ ps f q a s).text.size+(1+t.size):=oo;go_upto_region 14 with fail
 go_still_tail 10,nr_;have H2:=h_<|H.o.put.next br.drew;go_wp2;go_ret;have h2:=H2.o.fin_;exact⟨rfl,h2.1,Zc_ h2.2⟩
def Qa6_ (hi:d.imp=τ) (ps:List PN) (m f j:Nat) (t:BA) (z:Bool) (a:Int) (s:Pb) (W:Ω) (l:LI) (h:VIn 224 d ps m f j ⟨4,t,l,z⟩ a s W) (k:∀v∈l,QI_ (Qc_ ps v)):
  Δ π 224 #[P_ (σ ⟨d.T,0,ν⟩),I_ j_ (j:Int),I_ j_ a] W (YW_ d W (I_ j_ (-1)) (QR_ ps (f+1) j (min a 40) s)):=by
 obtain⟨b,off,A',c',eD,n,y0,y1,y2,y3,hr,p⟩:=h.at_;obtain⟨_,un,uf,uz⟩:=h.hC.ti hi;have ut:=h.hC.tx.1;rw[eD]at un;have q:j<d.n:=by have:=h.lt;have:=h.hn;omega
 have g:j<=300:=by have:=h.lt;have:=h.hF.few;omega
 have ha:=h.ha;have o:=h.hab;have D:=h.h40 hi;have HK:=h_ h.kids;have HR:=h_ hr;have c:=h_ h;dsimp only at y0 y1 y2 y3;have H:=h_<|h.bt (min a 40) #[I_ j_ 4,T_ t,S_ A' (η l) c',B_ z];have r:t.size<=1048576:=(h.hpn _ (lm_ h.hx)).1;rw[show min a 40=a from oo]at H |-
 have HL:=h_<|YD_ _ rfl d hi ps f c.o.hN c.o.light A' (η l) c' l ⟨#[91]⟩ ⟨#[93]⟩ s a (W.alloc (C_ #[I_ j_ 4,T_ t,S_ A' (η l) c',B_ z] 96)) (h_ rfl) c.o.few HR.o (h_ (λv i=>⟨(HK.o v i).1,k v i,(HK.o v i).2.1⟩)) ⟨ha,D⟩ c.o.h79 (c.o.hC.next grow_)<|c.o.weight a;have HE:=h_ (show(VL_ (QR_ ps f) (s,-1) (XT_ ⟨#[91]⟩ ⟨#[93]⟩ l a)).1=QR_ ps (f+1) j a s from(KX_ c.o.hx a s).symm);rw[HE.o]at HL;go_in;go_wp2_with fail
 refine mb_ HL.o ?_;rintro w2 ⟨h2,h3⟩;have H2:=h_ h2;have H3:=h_ h3;go_wp2;go_ret;exact⟨rfl,H2.o,Zc_ H3.o⟩
def jp_ (hi:d.imp=τ) (ps:List PN) (m f j:Nat) (t:BA) (z:Bool) (a:Int) (s:Pb) (W:Ω) (l:LI) (h:VIn 224 d ps m f j ⟨7,t,l,z⟩ a s W) (i:∀v∈l,QI_ (Qc_ ps v)):
  Δ π 224 #[P_ (σ ⟨d.T,0,ν⟩),I_ j_ (j:Int),I_ j_ a] W (YW_ d W (I_ j_ (Q4_ s)) (QR_ ps (f+1) j (min a 40) s)):=by
 obtain⟨b,off,A',c',eD,n,y0,y1,y2,y3,hr,p⟩:=h.at_;obtain⟨_,un,uf,uz⟩:=h.hC.ti hi;have ut:=h.hC.tx.1;rw[eD]at un;have q:j<d.n:=by have:=h.lt;have:=h.hn;omega
 have D:j<=300:=by have:=h.lt;have:=h.hF.few;omega
 have ha:=h.ha;have o:=h.hab;have k:=h.h40 hi;have HK:=h_ h.kids;have HR:=h_ hr;have c:=h_ h;dsimp only at y0 y1 y2 y3;have H:=h_<|h.bt (min a 40) #[I_ j_ 7,T_ t,S_ A' (η l) c',B_ z];have r:t.size<=1048576:=(h.hpn _ (lm_ h.hx)).1;rw[show min a 40=a from oo]at H |-
 have HL:=h_<|qq_ d hi ps f c.o.hps c.o.hfn c.o.hN c.o.light A' (η l) c' l t z s (min (a+4) 40) (W.alloc (C_ #[I_ j_ 7,T_ t,S_ A' (η l) c',B_ z] 96)) (h_ rfl) c.o.few HR.o (h_ (λv g=>⟨(HK.o v g).1,i v g,(HK.o v g).2.1⟩)) ⟨oo,oo⟩ c.o.h79 (c.o.hC.next grow_)<|c.o.weight a;have HE:=h_ (show(VL_ (QR_ ps f) (s,-1) (ZS_ ps t l (inN a))).1=QR_ ps (f+1) j a s from(KX_ c.o.hx a s).symm);rw[show(VL_ (QR_ ps f) (s,-1) (ZS_ ps t l (min (a+4) 40))).1=QR_ ps (f+1) j a s from HE.o]at HL;go_in;go_wp2_with fail
 refine mb_ HL.o ?_;rintro w2 ⟨h2,h3⟩;have H2:=h_ h2;have H3:=h_ h3;go_wp2;go_ret;exact⟨rfl,H2.o,Zc_ H3.o⟩
def Qa7_ (hi:d.imp=τ) (ps:List PN) (m f j:Nat) (t:BA) (z:Bool) (a:Int) (s:Pb) (W:Ω) (l:LI) (h:VIn 224 d ps m f j ⟨8,t,l,z⟩ a s W) (k:∀v∈l,QI_ (Qc_ ps v)) (D:Ψ (η l=3)):
  Δ π 224 #[P_ (σ ⟨d.T,0,ν⟩),I_ j_ (j:Int),I_ j_ a] W (YW_ d W (I_ j_ (Q4_ s)) (QR_ ps (f+1) j (min a 40) s)):=by
 obtain⟨b,off,A',c',eD,o,y0,y1,y2,y3,hr,q⟩:=h.at_;obtain⟨_,un,uf,uz⟩:=h.hC.ti hi;have ut:=h.hC.tx.1;rw[eD]at un;have r:j<d.n:=by have:=h.lt;have:=h.hn;omega
 have g:j<=300:=by have:=h.lt;have:=h.hF.few;omega
 have ha:=h.ha;have p:=h.hab;have n:=h.h40 hi;have HK:=h_ h.kids;have HR:=h_ hr;have c:=h_ h;dsimp only at y0 y1 y2 y3;have H:=h_<|h.bt (min a 40) #[I_ j_ 8,T_ t,S_ A' (η l) c',B_ z];have x:t.size<=1048576:=(h.hpn _ (lm_ h.hx)).1;rw[show min a 40=a from oo]at H |-
 have HL:=h_<|kG_ d hi ps f c.o.hps c.o.hfn c.o.hN c.o.light A' (η l) c' l t z s (min (a+4) 40) (W.alloc (C_ #[I_ j_ 8,T_ t,S_ A' (η l) c',B_ z] 96)) (h_ rfl) (by have:=D.o;omega) HR.o (h_ (λv i=>⟨(HK.o v i).1,k v i,(HK.o v i).2.1⟩)) ⟨oo,oo⟩ c.o.h79 (c.o.hC.next grow_)<|c.o.weight a;have HE:=h_ (show(VL_ (QR_ ps f) (s,-1) (Y4_ ps l (inN a))).1=QR_ ps (f+1) j a s from(KX_ c.o.hx a s).symm);rw[show(VL_ (QR_ ps f) (s,-1) (Y4_ ps l (min (a+4) 40))).1=QR_ ps (f+1) j a s from HE.o]at HL;go_in;go_wp2_with fail
 refine mb_ HL.o ?_;rintro w2 ⟨h2,h3⟩;have H2:=h_ h2;have H3:=h_ h3;go_wp2;go_ret;exact⟨rfl,H2.o,Zc_ H3.o⟩
def Qa4_ (hi:d.imp=τ) (ps:List PN) (m f j:Nat) (t:BA) (z:Bool) (a:Int) (s:Pb) (W:Ω) (q:Nat) (l:LI) (h:VIn 224 d ps m f j ⟨5,t,(q:Int)::l,z⟩ a s W) (B:QI_ (Qc_ ps (q:Int))) (O:∀v∈l,QI_ (Qc_ ps v)):
  Δ π 224 #[P_ (σ ⟨d.T,0,ν⟩),I_ j_ (j:Int),I_ j_ a] W (YW_ d W (I_ j_ (-1)) (QR_ ps (f+1) j (min a 40) s)):=by
 obtain⟨b,off,A',c',eD,P,y0,y1,y2,y3,hr,L⟩:=h.at_;obtain⟨_,un,uf,uz⟩:=h.hC.ti hi;have ut:=h.hC.tx.1;rw[eD]at un;have U:j<d.n:=by have:=h.lt;have:=h.hn;omega
 have M:j<=300:=by have:=h.lt;have:=h.hF.few;omega
 have F:=h.ha;have R:=h.hab;have g:=h.h40 hi;have J:=h_ h.kids;have C:=h_ hr;have k:=h_ h;dsimp only at y0 y1 y2 y3;have H:=h_<|h.bt (min a 40) #[I_ j_ 5,T_ t,S_ A' (η l+1) c',B_ z];have aa:t.size<=1048576:=(h.hpn _ (lm_ h.hx)).1;rw[show min a 40=a from oo]at H |-
 obtain⟨E,c,rfl⟩:=ZC_ C.o sm_;obtain⟨⟨V,X⟩,Y,Z⟩:=J.o (q:Int) sm_;have x:q<f:=oo;replace H:Ψ (Bt 224 d ps f (QR_ ps (f+1) j a s) (W.alloc (C_ #[I_ j_ 5,T_ t,S_ (σ ⟨E,c,ν⟩) (η l+1) c',B_ z] 96)) s (-1) (.kid (q:Int) a::XT_ ⟨#[40]⟩ ⟨#[41]⟩ l a) (W.alloc (C_ #[I_ j_ 5,T_ t,S_ (σ ⟨E,c,ν⟩) (η l+1) c',B_ z] 96))):=H;have cv:=QO_ C.o k.o.hC.old (i:=0) sm_ rfl;rw[Nat.add_zero]at cv;have S:=ZU_ C.o k.o.hC.old sm_;have em:((η l+1:Nat):Int)-1=(η l:Int):=oo;have Q:η l+1<=c':=L;have y:Rd d.w0 1 (σ ⟨E,c+1,ν⟩) (η l) (Qa_ l):=UL_ C.o sm_ sm_;have N:c'=1->l=[]:=λe=>ln_ oo
 by_cases r:c'=1
 ·skip
  obtain rfl:l=[]:=N r;subst r;go_in;go_wp2_with fail;refine Bt.kid H x B F oo oo ?_;intro W1 D k1;rw[hi];have K:=D.o.box;have x2:=K.q2;have xg:=K.lt;have n:=h_ (λA2=>YD_ _ rfl d hi ps f k.o.hN k.o.light A2 0 0 [] ⟨#[40]⟩ ⟨#[41]⟩ (QR_ ps f q a s) a W1 (h_ rfl) oo (Rd.empty_ _ _ _) (h_ (λv A=>(by cases A))) ⟨F,g⟩ D.o.c79 D.o.C D.o.Z);rw[D.o.L]at n;go_wp2_with fail;refine mb_ (n.o _) ?_;rintro w2 ⟨o,p⟩;have G:=h_ o;have I:=h_<|D.o.K.trans p;go_wp2;go_ret;exact⟨rfl,G.o,Zc_ I.o⟩
 skip
 have T:1<c':=oo;go_in;go_wp2_with fail;refine Bt.kid H x B F oo oo ?_;intro W1 D k1;rw[hi];have K:=D.o.box;have x2:=K.q2;have xg:=K.lt;have n:=h_ (λc2=>YD_ _ rfl d hi ps f k.o.hN k.o.light (σ ⟨E,c+1,ν⟩) (η l) c2 l ⟨#[40]⟩ ⟨#[41]⟩ (QR_ ps f q a s) a W1 (h_ rfl) (by have:=k.o.few;simp only[List.length_cons]at this;omega) y (h_ (λv A=>⟨(J.o v (List.mem_cons_of_mem _ A)).1,O v A,(J.o v (List.mem_cons_of_mem _ A)).2.1⟩)) ⟨F,g⟩ D.o.c79 D.o.C D.o.Z);rw[D.o.L]at n;go_wp2_with fail;refine mb_ (n.o _) ?_;rintro w2 ⟨o,p⟩;have G:=h_ o;have I:=h_<|D.o.K.trans p;go_wp2;go_ret;exact⟨rfl,G.o,Zc_ I.o⟩
def Qa5_ (hi:d.imp=τ) (ps:List PN) (m f j:Nat) (t:BA) (z:Bool) (a:Int) (s:Pb) (W:Ω) (q:Nat) (l:LI) (h:VIn 224 d ps m f j ⟨10,t,(q:Int)::l,z⟩ a s W) (ab:QI_ (Qc_ ps (q:Int))) (ac:∀v∈l,QI_ (Qc_ ps v)) (ak:1<=η l):
  Δ π 224 #[P_ (σ ⟨d.T,0,ν⟩),I_ j_ (j:Int),I_ j_ a] W (YW_ d W (I_ j_ (-1)) (QR_ ps (f+1) j (min a 40) s)):=by
 obtain⟨b,off,A',c',eD,ah,y0,y1,y2,y3,hr,T⟩:=h.at_;obtain⟨_,un,uf,uz⟩:=h.hC.ti hi;have ut:=h.hC.tx.1;rw[eD]at un;have ao:j<d.n:=by have:=h.lt;have:=h.hn;omega
 have V:j<=300:=by have:=h.lt;have:=h.hF.few;omega
 have ha:=h.ha;have al:=h.hab;have ag:=h.h40 hi;have HK:=h_ h.kids;have Q:=h_ hr;have HV:=h_ h;dsimp only at y0 y1 y2 y3;have H:=h_<|h.bt (min a 40) #[I_ j_ 10,T_ t,S_ A' (η l+1) c',B_ z];have ax:t.size<=1048576:=(h.hpn _ (lm_ h.hx)).1;rw[show min a 40=a from oo]at H |-
 obtain⟨C,c,rfl⟩:=ZC_ Q.o sm_;obtain⟨⟨ap,aq⟩,ar,av⟩:=HK.o (q:Int) sm_;have aa:q<f:=oo;replace H:Ψ (Bt 224 d ps f (QR_ ps (f+1) j a s) (W.alloc (C_ #[I_ j_ 10,T_ t,S_ (σ ⟨C,c,ν⟩) (η l+1) c',B_ z] 96)) s (-1) (.rule 2 1::.kid (q:Int) a::Xp_ (λ_ v=>[.split 1 φ (inN a),.put ⟨#[46,46]⟩,.kid v (inN a)]) 0 l) (W.alloc (C_ #[I_ j_ 10,T_ t,S_ (σ ⟨C,c,ν⟩) (η l+1) c',B_ z] 96))):=H;have aj:η l<=11:=by have:=HV.o.few;simp only[List.length_cons]at this;omega
 have ai:η l+1<=c':=T;have am:1<c':=oo;have em:((η l+1:Nat):Int)-1=(η l:Int):=oo;have B:=h_ (λ(Z:Ω) (S:Below d.w0.heap.size d.w0 Z)=>ZU_ Q.o S sm_);have y:=h_ (λ(Z:Ω) (S:Below d.w0.heap.size d.w0 Z) (i:Nat) (v:Int) (hd:((q:Int)::l)[i]? =σ v)=>QO_ Q.o S (by have:=(gs_.1 hd).1;simpa using this) hd);obtain⟨g,U⟩:∃g:Nat->Int->List Bv,g=(λ_ v=>[.split 1 φ (inN a),.put ⟨#[46,46]⟩,.kid v (inN a)]):=⟨_,rfl⟩;rw[<-U]at H;have HG:=h_ U;go_in;go_upto_region 2 with fail
 have P:=h_<|Kb.below (show Λ W (W.alloc (C_ #[I_ j_ 10,T_ t,S_ (σ ⟨C,c,ν⟩) (η l+1) c',B_ z] 96))from grow_);have e:=h_<|Blk.new W 96 #[I_ j_ 10,T_ t,S_ (σ ⟨C,c,ν⟩) (η l+1) c',B_ z];generalize W.alloc (C_ #[I_ j_ 10,T_ t,S_ (σ ⟨C,c,ν⟩) (η l+1) c',B_ z] 96)=Wb at *;have K:=e.o;have x0:=K.q0;have x1:=K.q1;have J:=K.q2;have L:=K.lt;obtain⟨xt,xf,xz⟩:=H.o.C.tx;go_wp2_with fail
 refine Bt.irule hi H ?_;intro W1 k k1;obtain⟨r,F⟩:=ex_ (Q4_ s);rw[F]at k |-
 generalize s.rule 2 1=s2 at k;have K:=k.o.K.2 _ _ e.o;have J:=K.q2;have L:=K.lt;have E:=y.o _ k.o.C.old 0 _ rfl;rw[Nat.add_zero]at E;have o:=B.o _ k.o.C.old;go_wp2_with fail;refine Bt.kid k aa ab ha oo oo ?_;intro W2 O k2;rw[hi];have K:=O.o.K.2 _ _ e.o;have J:=K.q2;have L:=K.lt;go_wp2;go_loopw [134] (λx wr=>∃(i:Nat) (N:Pb),i<=η l/\x=I_ j_ i/\Ψ (Bt 224 d ps f (QR_ ps (f+1) j a s) Wb N r (Xp_ g i (l.drop i)) wr)) (λx _=>η l-(intOf x).toNat)
 ·exact⟨0,_,lz_ _,rfl,by rw[List.drop_zero];exact O⟩
 obtain⟨i,N,an,rfl,n⟩:=hrel;by_cases X:i<η l
 ·obtain⟨v,hd⟩:∃D,l[i]? =σ D:=⟨_,List.getElem?_eq_getElem X⟩;obtain⟨⟨I,ay⟩,az,aA⟩:=HK.o v (List.mem_cons_of_mem _ (lm_ hd));have R:=h_ (ac v (lm_ hd));obtain⟨p,rfl⟩:=eo_ I;have Y:p<f:=oo;have E:=y.o _ n.o.C.old (i+1) (p:Int) hd;rw[show c+(i+1)=c+1+i from oo]at E;have o:=B.o _ n.o.C.old;rw[YL_ hd]at n;have H5:Ψ (Bt 224 d ps f (QR_ ps (f+1) j a s) Wb N r (.split 1 φ (inN a)::.put ⟨#[46,46]⟩::.kid (p:Int) (inN a)::Xp_ g (i+1) (l.drop (i+1))) wr):=by
   have h:=n.o;rw[HG.o]at h;rw[HG.o];exact h_ h
  have A:=h_ (show i+1<=η l from oo);go_wp2_with fail;refine Bt.isplit hi H5 (by unfold inN;omega) ?_;intro W5 M k6;generalize N.split r 1 φ (inN a)=s6 at *;obtain⟨xt,xf,xz⟩:=M.o.C.tx;have G:=M.o.size;simp only[wB,Xj_]at G;go_upto_region 34 with fail
  have H7:=h_ M.o.put;generalize W5.setCell ⟨d.T,6,ν⟩ (T_ (s6.text++⟨#[46,46]⟩))=W6 at *;go_wp2_with fail;refine Bt.kid H7 Y R.o oo oo (by unfold inN;omega) ?_;intro W7 H8 k8;rw[hi];go_wp2;go_roundw
  ·exact⟨i+1,_,A.o,by go_num,H8⟩
  have:=A.o;exact ms_
 obtain rfl:i=η l:=oo;rw[Xu_ (lr_ _)]at n;go_wp2;go_ret;have h2:=n.o.fin_;exact⟨rfl,h2.1,P.o.trans h2.2⟩
def qO_:(i.put a).put b=i.put (a++b):=by
 unfold Pb.put;simp only[ByteArray.append_assoc]
def zx_:Q5_ (l++[a])=if l=[]then a else Q5_ l++⟨#[44,32]⟩++a:=by
 cases l with
 |nil=>rfl
 |cons x r=>
  rw[in_ sm_];show((r++[a]).foldl _ x)=_;rw[List.foldl_append]
  rfl
def Qfs_:(Q5_ l).size<=(Q5_ (l++r)).size:=by
 induction r generalizing l with
 |nil=>rw[List.append_nil];exact lr_ _
 |cons t r ih=>
  have h1:=ih<|l++[t];rw[List.append_assoc]at h1;refine lt_ ?_ h1;rw[zx_];split
  ·rename_i h;subst h;exact lz_ _
  rw[Kr_,Kr_];omega
def Qb2_ (hi:d.imp=φ) (ps:List PN) (m f j:Nat) (t:BA) (z:Bool) (a:Int) (s:Pb) (W:Ω) (q:Nat) (l:LI) (h:VIn 137 d ps m f j ⟨10,t,(q:Int)::l,z⟩ a s W) (n:QI_ (Qc_ ps (q:Int))) (T:∀v∈l,QI_ (Qc_ ps v)):
  Δ π 137 #[P_ (σ ⟨d.T,0,ν⟩),I_ j_ (j:Int),I_ j_ a] W (YW_ d W (U_ #[]) (QR_ ps (f+1) j (min a 40) s)):=by
 obtain⟨b,off,A',c',eD,V,y0,y1,y2,y3,hr,aa⟩:=h.at_;obtain⟨A0,c0,A1,c1,A2,c2,A3,c3,hA⟩:=h.hC;obtain⟨_,_,_,_,un,_,_,uf,uz⟩:=hA.scells hi;rw[eD]at un;have ac:j<d.n:=by have:=h.lt;have:=h.hn;omega
 have P:j<=300:=by have:=h.lt;have:=h.hF.few;omega
 have ha:=h.ha;have Y:=h.hab;have HK:=h_ h.kids;have M:=h_ hr;have HV:=h_ h;dsimp only at y0 y1 y2 y3;have H:=h_<|h.bt (min a 40) #[I_ j_ 10,T_ t,S_ A' (η l+1) c',B_ z];replace H:Ψ (Bt 137 d ps f (QR_ ps (f+1) j (min a 40) s) (W.alloc (C_ #[I_ j_ 10,T_ t,S_ A' (η l+1) c',B_ z] 96)) s (-1) (.rule 2 1::.kid (q:Int) (min a 40)::Xp_ (λ_ v=>[.split 1 φ (inN (min a 40)),.put ⟨#[46,46]⟩,.kid v (inN (min a 40))]) 0 l) (W.alloc (C_ #[I_ j_ 10,T_ t,S_ A' (η l+1) c',B_ z] 96))):=H;obtain⟨b5,c,rfl⟩:=ZC_ M.o sm_;obtain⟨⟨ad,ae⟩,af,ag⟩:=HK.o (q:Int) sm_;have S:q<f:=oo;have X:η l<=11:=by have:=HV.o.few;simp only[List.length_cons]at this;omega
 have E:=h_ (λ(Z:Ω) (F:Below d.w0.heap.size d.w0 Z)=>ZU_ M.o F sm_);have A:=h_ (λ(Z:Ω) (F:Below d.w0.heap.size d.w0 Z) (i:Nat) (v:Int) (hd:((q:Int)::l)[i]? =σ v)=>QO_ M.o F (by have:=(gs_.1 hd).1;simpa using this) hd);obtain⟨g,O⟩:∃g:Nat->Int->List Bv,g=(λ_ v=>[.split 1 φ (inN (min a 40)),.put ⟨#[46,46]⟩,.kid v (inN (min a 40))]):=⟨_,rfl⟩;rw[<-O]at H;have HG:=h_ O;go_in;go_wp2_with fail;refine Bt.srule hi H ?_;intro W1 e k1;obtain⟨r,G⟩:=ex_ (Q4_ s);rw[G]at e |-
 generalize s.rule 2 1=s2 at e;have K:=e.o.box;have I:=K.q2;have J:=K.lt;have L:=A.o _ e.o.C.old 0 _ rfl;rw[Nat.add_zero]at L;have k:=E.o _ e.o.C.old;go_wp2_with fail;refine Bt.kid e S n ha oo rfl ?_;intro W2 H2 k2;rw[hi];go_wp2;go_loopw [10] (λo wr=>∃(i:Nat) (U:Pb),i<=η l/\o=I_ j_ ((i+1:Nat):Int)/\Ψ (Bt 137 d ps f (QR_ ps (f+1) j (min a 40) s) (W.alloc (C_ #[I_ j_ 10,T_ t,S_ (σ ⟨b5,c,ν⟩) (η l+1) c',B_ z] 96)) U r (Xp_ g i (l.drop i)) wr)) (λo _=>η l+1-(intOf o).toNat)
 ·exact⟨0,_,lz_ _,rfl,by rw[List.drop_zero];exact H2⟩
 obtain⟨i,U,ab,rfl,x⟩:=hrel;have K:=x.o.box;have I:=K.q2;have J:=K.lt;by_cases Q:i<η l
 ·obtain⟨v,hd⟩:∃D,l[i]? =σ D:=⟨_,List.getElem?_eq_getElem Q⟩;obtain⟨⟨n,ah⟩,ai,aj⟩:=HK.o v (List.mem_cons_of_mem _ (lm_ hd));have N:=h_ (T v (lm_ hd));obtain⟨p,rfl⟩:=eo_ n;have R:p<f:=oo;have B:=h_ (λ(Z:Ω) (F:Below d.w0.heap.size d.w0 Z)=>A.o Z F (i+1) (p:Int) hd);rw[YL_ hd]at x;have H5:Ψ (Bt 137 d ps f (QR_ ps (f+1) j (min a 40) s) (W.alloc (C_ #[I_ j_ 10,T_ t,S_ (σ ⟨b5,c,ν⟩) (η l+1) c',B_ z] 96)) U r (.split 1 φ (inN (min a 40))::.put ⟨#[46,46]⟩::.kid (p:Int) (inN (min a 40))::Xp_ g (i+1) (l.drop (i+1))) wr):=by
   have h:=x.o;rw[HG.o]at h;rw[HG.o];exact h_ h
  have C:=h_ (show i+1<=η l from oo);go_wp2_with fail;refine Bt.ssplit hi H5 (by unfold inN;omega) ?_;intro W5 H6 k6;go_wp2_with fail;refine Bt.sput hi H6 ?_;intro W6 y k7;have K:=y.o.box;have I:=K.q2;have J:=K.lt;have L:=B.o _ y.o.C.old;have k:=E.o _ y.o.C.old;go_wp2_with fail;refine Bt.kid y R N.o oo oo (by unfold inN;omega) ?_;intro W7 H8 k8;rw[hi];go_wp2;go_roundw
  ·exact⟨i+1,_,C.o,by go_num,H8⟩
  have:=C.o;exact ms_
 obtain rfl:i=η l:=oo;rw[Xu_ (lr_ _)]at x;go_wp2;go_end0;have h2:=x.o.fin_;exact⟨rfl,h2.1,Zc_ h2.2⟩
def QfZ_ (hi:d.imp=φ) (ps:List PN) (m f j:Nat) (t:BA) (z:Bool) (a:Int) (s:Pb) (W:Ω) (l:LI) (q:Nat) (h:VIn 137 d ps m f j ⟨9,t,l++[(q:Int)],z⟩ a s W) (Q:QI_ (Qc_ ps (q:Int))):
  Δ π 137 #[P_ (σ ⟨d.T,0,ν⟩),I_ j_ (j:Int),I_ j_ a] W (YW_ d W (U_ #[]) (QR_ ps (f+1) j (min a 40) s)):=by
 obtain⟨b,off,A',c',B,aR,y0,y1,y2,y3,hr,aH⟩:=h.at_;have ag:(⟨9,t,l++[(q:Int)],z⟩:PN).kids.length=η l+1:=by show(l++[(q:Int)]).length=_;simp
 rw[ag]at y2 hr aH;obtain⟨A0,c0,A1,c1,A2,c2,A3,c3,hA⟩:=h.hC;obtain⟨_,_,_,_,un,_,_,uf,uz⟩:=hA.scells hi;rw[B]at un;have aY:j<d.n:=by have:=h.lt;have:=h.hn;omega
 have aI:j<=300:=by have:=h.lt;have:=h.hF.few;omega
 have ha:=h.ha;have aT:=h.hab;have HK:=h_ h.kids;have HR:=h_ hr;have HV:=h_ h;dsimp only at y0 y1 y2 y3;have H:=h_<|h.bt (min a 40) #[I_ j_ 9,T_ t,S_ A' (η l+1) c',B_ z];obtain⟨T,g,rfl⟩:=ZC_ HR.o oo;obtain⟨⟨aZ,a0⟩,a1,a2⟩:=HK.o (q:Int) sm_;have aK:q<f:=oo;have aS:η l<=11:=by have:=HV.o.few;simp only[lA,List.length_cons,List.length_nil]at this;omega
 have J:=h_ (λ(Z:Ω) (hZ:Below d.w0.heap.size d.w0 Z)=>ZU_ HR.o hZ oo);have F:=h_ (λ(Z:Ω) (hZ:Below d.w0.heap.size d.w0 Z) (i:Nat) (v:Int) (hd:(l++[(q:Int)])[i]? =σ v)=>QO_ HR.o hZ (by have:=(gs_.1 hd).1;simpa using this) hd);have af:fnE ps (l++[(q:Int)]) (inN (min a 40))=[.put (⟨#[40]⟩++Q5_ (l.map (QE_ ps))++⟨#[41,32,61,62]⟩),.rule 2 2,.split 1 τ (inN (min a 40)),.kid (q:Int) (inN (min a 40))]:=by
  have e1:(l++[(q:Int)]).length-1=η l:=by simp
  have e2:(l++[(q:Int)]).take (η l)=l:=by simp
  have e3:(l++[(q:Int)]).getD (η l) 0=(q:Int):=by simp
  unfold fnE;rw[e1,e2,e3]
 replace H:Ψ (Bt 137 d ps f (QR_ ps (f+1) j (min a 40) s) (W.alloc (C_ #[I_ j_ 9,T_ t,S_ (σ ⟨T,g,ν⟩) (η l+1) c',B_ z] 96)) s (-1) ([.put (⟨#[40]⟩++Q5_ (l.map (QE_ ps))++⟨#[41,32,61,62]⟩),.rule 2 2,.split 1 τ (inN (min a 40)),.kid (q:Int) (inN (min a 40))]) (W.alloc (C_ #[I_ j_ 9,T_ t,S_ (σ ⟨T,g,ν⟩) (η l+1) c',B_ z] 96))):=by
  rw[<-af];exact H
 have ay:=h_ H.o.size;have r:=h_ (λ(i:Nat)=>(show s.text.size+(1+(Q5_ ((l.take i).map (QE_ ps))).size)+4<=Xj_ by
  have h1:=ay.o;have h2:=Qfs_ ((l.take i).map (QE_ ps)) ((l.drop i).map (QE_ ps));rw[<-List.map_append,List.take_append_drop]at h2;simp only[wB,Kr_]at h1;have e4:(⟨#[40]⟩:BA).size=1:=rfl;have e5:(⟨#[41,32,61,62]⟩:BA).size=4:=rfl;omega))
 have ac:=h_ (λ(i:Nat) (v:Int) (hd:l[i]? =σ v)=>(show Q5_ ((l.take (i+1)).map (QE_ ps))=if i=0 then QE_ ps v else Q5_ ((l.take i).map (QE_ ps))++⟨#[44,32]⟩++QE_ ps v by
  have P:=(gs_.1 hd).1;rw[List.take_add_one,hd,List.map_append];show Q5_ (_++[QE_ ps v])=_;rw[zx_];by_cases h0:i=0
  ·subst h0;rfl
  rw[in_ (λe=>h0 (by have h7:=congrArg List.length e;rw[List.length_map,List.length_take,List.length_nil]at h7;omega)),in_ h0]))
 go_in;go_wp2_with fail;refine mb_ (Xh_ d hi s ⟨#[40]⟩ _ H.o.C (by have:=r.o 0;show s.text.size+1<=Xj_;omega)) ?_;rintro w1 ⟨h1,k1⟩;have X:=h_ h1;have aa:=h_ k1;have K:=k1.2 _ _<|Blk.new W 96 #[I_ j_ 9,T_ t,S_ (σ ⟨T,g,ν⟩) (η l+1) c',B_ z];have x2:=K.q2;have xg:=K.lt;go_wp2;go_loopw [8] (λx8 wr=>∃i:Nat,i<=η l/\x8=I_ j_ i/\Ψ (BdC d (s.put (⟨#[40]⟩++Q5_ ((l.take i).map (QE_ ps)))) wr)/\Ψ (Kb (W.alloc (C_ #[I_ j_ 9,T_ t,S_ (σ ⟨T,g,ν⟩) (η l+1) c',B_ z] 96)) wr)) (λx8 _=>η l-(intOf x8).toNat)
 ·exact⟨0,lz_ _,rfl,X,aa⟩
 obtain⟨i,aX,rfl,S,o⟩:=hrel;by_cases P:i<η l
 ·obtain⟨v,hd⟩:∃D,l[i]? =σ D:=⟨_,List.getElem?_eq_getElem P⟩;obtain⟨⟨Q,a3⟩,ah,ai⟩:=HK.o v (List.mem_append_left _ (lm_ hd));obtain⟨p,rfl⟩:=eo_ Q;have aU:=HV.o.hfn;have aJ:p<d.n:=oo;obtain⟨y,hy⟩:=HV.o.hps.get aJ;have A:=h_ (show QE_ ps (p:Int)=y.text by unfold QE_;rw[it_,X7_ hy]);have HD:=h_ (show(l++[(q:Int)])[i]? =σ (p:Int)by rw[List.getElem?_append_left P];exact hd);have k:=h_ (ac.o i (p:Int) hd);have L:=h_ (r.o (i+1));have x:=h_ (show i+1<=η l from oo);by_cases aV:0<i
  ·have n:=k.o;rw[in_ (show ¬i=0 from oo)]at n;have k:=h_ n;go_wp2_with fail;refine mb_ (Xh_ d hi _ ⟨#[44,32]⟩ _ S.o (by have h1:=L.o;rw[k.o]at h1;simp only[Kr_]at h1;show(s.text++_:BA).size+2<=Xj_;rw[Kr_,Kr_];have e4:(⟨#[40]⟩:BA).size=1:=rfl;have e5:(⟨#[44,32]⟩:BA).size=2:=rfl;omega)) ?_;rintro w6 ⟨U,k6⟩;have Y:=h_ U;have ab:=h_<|o.o.trans k6;have M:=h_ (λ(_:Nat) (_:Int) (_:(l++[(q:Int)])[i]? =σ (p:Int))=>(show((s.put (⟨#[40]⟩++Q5_ ((l.take i).map (QE_ ps)))).put ⟨#[44,32]⟩).text.size+(QE_ ps (p:Int)).size<=Xj_ by have h1:=L.o;rw[k.o]at h1;simp only[Kr_]at h1;show((s.text++_)++_:BA).size+_<=Xj_;rw[Kr_,Kr_,Kr_];have e4:(⟨#[40]⟩:BA).size=1:=rfl;have e5:(⟨#[44,32]⟩:BA).size=2:=rfl;omega));obtain⟨A0,c0,A1,c1,A2,c2,A3,c3,hA⟩:=Y.o;obtain⟨_,_,_,_,un,_,_,uf,uz⟩:=hA.scells hi;obtain⟨b6,ak,A6,c6,B,c,_,y1,_⟩:=HV.o.hps.at_ (show p<d.n from oo) hy;rw[B]at un;have aQ:=((QW_ hA.old).1 _ _ c).trans y1;have O:b6<w6.heap.size:=ll_ c hA.old.size;have K:=ab.o.2 _ _<|Blk.new W 96 #[I_ j_ 9,T_ t,S_ (σ ⟨T,g,ν⟩) (η l+1) c',B_ z];have x2:=K.q2;have xg:=K.lt;have cv:=F.o _ hA.old i (p:Int) HD.o;have N:=J.o _ hA.old;have E:=h_<|Y.o.next br.drew;have I:=h_<|ab.o.trans<|Kb.below br.drew;have aB:i<η l+1:=oo;have aC:(i:Int)<(η l:Int)+1:=oo;have aD:((i:Nat):Int)<((η l+1:Nat):Int):=oo;have aE:((p:Nat):Int)<((d.n:Nat):Int):=oo;go_upto_region 38 with fail
   go_still_tail 13,nr_;go_wp2_with fail;refine mb_ (Xh_ d hi ((s.put (⟨#[40]⟩++Q5_ ((l.take i).map (QE_ ps)))).put ⟨#[44,32]⟩) y.text _ E.o (by rw[<-A.o];exact M.o 0 0 HD.o)) ?_;rintro w8 ⟨h8,R⟩;have C:=h_ (show BdC d (s.put (⟨#[40]⟩++Q5_ ((l.take (i+1)).map (QE_ ps)))) w8 from by
    rw[k.o];have n:=h8;rw[<-A.o]at n;rw[qO_,qO_]at n;simp only[ByteArray.append_assoc]at n |-; exact n)
   have G:=h_<|I.o.trans R;go_wp2;go_roundw
   ·exact⟨i+1,x.o,by go_num,C,G⟩
   have:=x.o;exact ms_
  obtain rfl:i=0:=oo;have n:=k.o;rw[ip_ rfl]at n;have k:=h_ n;have M:=h_ (λ(_:Nat) (_:Int) (_:(l++[(q:Int)])[0]? =σ (p:Int))=>(show(s.put (⟨#[40]⟩++Q5_ ((l.take 0).map (QE_ ps)))).text.size+(QE_ ps (p:Int)).size<=Xj_ by have h1:=L.o;rw[k.o]at h1;show(s.text++_:BA).size+_<=Xj_;rw[Kr_,Kr_];have e4:(⟨#[40]⟩:BA).size=1:=rfl;have e5:(Q5_ ((l.take 0).map (QE_ ps))).size=0:=rfl;omega));obtain⟨A0,c0,A1,c1,A2,c2,A3,c3,hA⟩:=S.o;obtain⟨_,_,_,_,un,_,_,uf,uz⟩:=hA.scells hi;obtain⟨b6,ak,A6,c6,B,c,_,y1,_⟩:=HV.o.hps.at_ (show p<d.n from oo) hy;rw[B]at un;have aQ:=((QW_ hA.old).1 _ _ c).trans y1;have O:b6<wr.heap.size:=ll_ c hA.old.size;have K:=o.o.2 _ _<|Blk.new W 96 #[I_ j_ 9,T_ t,S_ (σ ⟨T,g,ν⟩) (η l+1) c',B_ z];have x2:=K.q2;have xg:=K.lt;have cv:=F.o _ hA.old 0 (p:Int) HD.o;rw[Nat.add_zero]at cv;have N:=J.o _ hA.old;have E:=h_<|S.o.next br.drew;have I:=h_<|o.o.trans<|Kb.below br.drew;have aB:0<η l+1:=oo;have aC:(0:Int)<(η l:Int)+1:=oo;have aD:((0:Nat):Int)<((η l+1:Nat):Int):=oo;have aE:((p:Nat):Int)<((d.n:Nat):Int):=oo;go_upto_region 38 with fail
  go_still_tail 13,nr_;go_wp2_with fail;refine mb_ (Xh_ d hi (s.put (⟨#[40]⟩++Q5_ ((l.take 0).map (QE_ ps)))) y.text _ E.o (by rw[<-A.o];exact M.o 0 0 HD.o)) ?_;rintro w8 ⟨h8,R⟩;have C:=h_ (show BdC d (s.put (⟨#[40]⟩++Q5_ ((l.take (0+1)).map (QE_ ps)))) w8 from by
   rw[k.o];have n:=h8;rw[<-A.o]at n;rw[qO_]at n;exact n)
  have G:=h_<|I.o.trans R;go_wp2;go_roundw
  ·exact⟨0+1,x.o,by go_num,C,G⟩
  have:=x.o;exact ms_
 obtain rfl:i=η l:=oo;rw[List.take_length]at S;go_wp2_with fail;refine mb_ (Xh_ d hi _ ⟨#[41,32,61,62]⟩ _ S.o (by have h1:=r.o (η l);rw[List.take_length]at h1;show(s.text++_:BA).size+4<=Xj_;rw[Kr_,Kr_];have e4:(⟨#[40]⟩:BA).size=1:=rfl;omega)) ?_;rintro w6 ⟨U,k6⟩;rw[qO_]at U;have H6:=h_<|H.o.jump (e:=.put (⟨#[40]⟩++Q5_ (l.map (QE_ ps))++⟨#[41,32,61,62]⟩)) U<|o.o.trans k6;go_wp2_with fail
 refine Bt.srule hi H6 ?_;intro W7 H7 k7;go_wp2_with fail;refine Bt.ssplit hi H7 (by unfold inN;omega) ?_;intro W8 V R;have K:=V.o.box;have x2:=K.q2;have xg:=K.lt;have cv:=F.o _ V.o.C.old (η l) (q:Int) sm_;have N:=J.o _ V.o.C.old;go_wp2_with fail;refine Bt.kid V aK Q oo oo (by unfold inN;omega) ?_;intro W9 H9 k9;rw[hi];go_wp2;go_end0;have h2:=H9.o.fin_;exact⟨rfl,h2.1,Zc_ h2.2⟩
def j9_ (hi:d.imp=φ) (ps:List PN) (m:Nat) (k:Nps d.w0 d.A d.n ps) (hF:TreeF ps m) (i:PNs ps) (hn:d.n=m+1):∀f,f<=m+1->KidC 137 d ps f:=by
 intro f
 induction f with
 |zero=>intro _ j s a W hj;omega
 |succ f ih=>
  intro n j s a W hj b ha g D e hC hZ;obtain⟨x,hx⟩:∃x,ps[j]? =σ x:=⟨_,gE (by rw[hF.tree.len];omega)⟩;rw[Qr_ hx]at b;have h:VIn 137 d ps m f j x a s W:=⟨k,hF,i,hn,hx,hj,oo,b,ih oo,ha,g,D,e,hC,hZ⟩;rw[show retB d.imp (ownN ps j s)=U_ #[]by rw[hi];rfl];have hV:=h.form;have c:=λ(v:Int) hv=>((h.kids v hv).1.1:(0:Int)<=v)
  obtain⟨kd,t,l,z⟩:=x;simp only at hV c
  cases hV with
  |leaf q hq=>
   rcases hq with rfl|rfl|rfl
   ·exact j6_ d hi ps m f j t z a s W h
   ·exact j7_ d hi ps m f j t z a s W h
   exact j8_ d hi ps m f j t z a s W h
  |list l hl=>exact Qb3_ d hi ps m f j t z a s W l h hl
  |call v l h0 hl=>
   obtain⟨q,rfl⟩:=eo_ (c v sm_);exact Qb1_ d hi ps m f j t z a s W q l h h0 hl
  |dot v h0=>
   obtain⟨q,rfl⟩:=eo_ (c v sm_);exact Qeh_ d hi ps m f j t z a s W q h h0
  |chain l h2 hl=>exact j5_ d hi ps m f j t z a s W l h hl
  |pick a1 b1 c1 hl=>exact Qb4_ d hi ps m f j t z a s W [a1,b1,c1] h hl<|h_ rfl
  |fn l v h0 hnm=>
   obtain⟨q,rfl⟩:=eo_ (c v sm_);exact QfZ_ d hi ps m f j t z a s W l q h h0
  |casc v l h1 h0 hl=>
   obtain⟨q,rfl⟩:=eo_ (c v sm_);exact Qb2_ d hi ps m f j t z a s W q l h h0 hl
  |par v h0=>
   obtain⟨q,rfl⟩:=eo_ (c v sm_);exact Qei_ d hi ps m f j t z a s W q h h0
def kO_ {l:List BA} (h:l≠[]) (x:BA):Q5_ (l++[x])=Q5_ l++⟨#[44,32]⟩++x:=by
 cases l with
 |nil=>exact absurd rfl h
 |cons a r=>show(r++[x]).foldl _ a=_;rw[List.foldl_append];rfl
def Qbf_ {l:List BA} {x:BA} (hx:l[f+1]? =σ x):Q5_ (l.take (f+2))=Q5_ (l.take (f+1))++⟨#[44,32]⟩++x:=by
 rw[List.take_add_one,hx];refine kO_ (λe=>?_) x;have h1:=(gs_.1 hx).1;have h2:(l.take (f+1)).length=0:=by rw[e];rfl
 rw[List.length_take]at h2;omega
def Jj_ {l:List BA} (hs:∀t∈l,t.size<=1048576) (hn:η l<=12) (k:Nat):(Q5_ (l.take k)).size<=20000000:=by
 have h1:=Wc_ (W:=1048576) (l.take k) (λt ht=>hs t (List.mem_of_mem_take ht));have h2:(l.take k).length<=12:=by rw[List.length_take];omega
 have h3:(l.take k).length*(1048576+2)<=12*(1048576+2):=Nat.mul_le_mul_right _ h2;exact lt_ h1<|lt_ h3 dc_
def vT_ (J:n<=12) (f:Rd g 1 e n (Qm_ l)) (hs:∀t∈l,t.size<=1048576) (V:n<=c):
  Δ π 180 #[S_ e n c,T_ ⟨#[44,32]⟩] g (RB_ (T_ (Q5_ l)) g):=by
 have hl:η l=n:=by have:=f.1;rw[xJ_]at this;omega
 match n,J,f,hl,V with
 |0,_,_,hl,_=>
  obtain rfl:l=[]:=ln_ hl;go_in;go_wp2;go_ret;exact⟨rfl,br⟩
 |1,_,f,hl,_=>
  match l,hl with
  |[x],_=>
   obtain⟨b,off,rfl,hb,p⟩:=Ud_ f (k:=0) oo rfl;rw[Nat.add_zero]at p;clear f hs;go_in;go_wp2;go_ret;exact⟨rfl,br⟩
 |k+2,hk,f,hl,V=>
  obtain⟨n,J⟩:∃n,n=k+2:=⟨_,rfl⟩;rw[<-J]at hk f hl V |-
  have S:2<=n:=oo;clear J;have I:=h_ hl;have P:=h_ hs;have HJ:=h_ (Jj_ hs oo);obtain⟨b,off,rfl,hb,_⟩:=f.at_ oo;have O:=h_ f;have h0:((n:Int)==0)=φ:=bn_.2 oo;have h1:((n:Int)==1)=φ:=bn_.2 oo;have ab:¬(9223372036854775807 / ((n:Int)-1)<=2):=by
   have:3<=9223372036854775807 / ((n:Int)-1):=Int.le_ediv_of_mul_le oo oo;omega
  have Z:(n:Int)<=(c:Int):=oo;clear f hl hs;go_in;go_wp2
  go_loop [5,41] (λy x=>∃(i m:Nat),i<=n/\x=I_ j_ i/\y=I_ j_ m/\m<=30+1048576*i) (λ_ x=>n-(intOf x).toNat)
  ·exact⟨0,2*(n-1),lz_ _,rfl,by congr 1;omega,oo⟩
  obtain⟨i,m,ac,rfl,rfl,hm⟩:=hrel;by_cases hi:i<n
  ·obtain⟨x,h⟩:∃x,l[i]? =σ x:=⟨_,gE (by rw[I.o];exact hi)⟩;obtain⟨b',o,d,_,p⟩:=Ud_ O.o hi h;injection d with d;injection d with e1 e2;subst e1;subst e2;have Y:=P.o x (lm_ h);clear h;go_wp2;exact⟨⟨i+1,m+x.size,oo,by go_num,by go_num,oo⟩,ms_⟩
  obtain⟨x0,A⟩:∃x,l[0]? =σ x:=⟨_,gE (by rw[I.o];omega)⟩;have R:=h_ (show Q5_ (l.take (0+1))=x0 by rw[List.take_add_one,A];rfl);have ae:=P.o x0<|lm_ A;have U:=h_ (show Λ g (g.alloc (C_ #[P_ ν,S_ ν 0 0] 122))from Ql_ br);have HX:=h_ A;clear A;go_wp2_with fail
  refine mb_ (Tryz.Builder_Grow_fresh g.heap.size g.heap.size m _ (lr_ _) (heap_alloc_new g _) sm_ oo) ?_;rintro w1 ⟨h1,B⟩;have a:=h_<|U.o.trans B;have v:=h_ (show Bld w1 g.heap.size g.heap.size []from .inr h1);obtain⟨b',o,d,_,p⟩:=Ud_ (O.o.next a.o) (oo:0<n) HX.o;injection d with d;injection d with e1 e2;subst e1;subst e2;rw[Nat.add_zero]at p;have C:b<w1.heap.size:=ll_ hb a.o.size;clear h1 B;go_wp2_with fail
  refine mb_ (vz_ g.heap.size g.heap.size [] x0 w1 v.o so_ a.o.size) ?_;rintro w2 ⟨S,D,_⟩;have r:=h_<|a.o.trans D;have z:Ψ (Bld w2 g.heap.size g.heap.size (Q5_ (l.take (0+1))).data.toList):=h_ (by rw[R.o];exact S);clear S D a v p C;go_wp2;go_loopw [65] (λx wr=>∃j:Nat,j+1<=n/\x=I_ j_ j/\Ψ (Bld wr g.heap.size g.heap.size (Q5_ (l.take (j+1))).data.toList)/\Ψ (Λ g wr)) (λx _=>n-(intOf x).toNat)
  ·exact⟨0,oo,rfl,z,r⟩
  clear z r;obtain⟨j,hj,rfl,HD,H⟩:=hrel;have G:=H.o.size;have af:=HJ.o<|j+1;by_cases X:j+1<n
  ·obtain⟨x,h⟩:∃x,l[j+1]? =σ x:=⟨_,gE (by rw[I.o];omega)⟩;obtain⟨b',o,d,aa,p⟩:=Ud_ (O.o.next H.o) X h;injection d with d;injection d with e1 e2;subst e1;subst e2;have Y:=P.o x (lm_ h);have Q:=h_ (Qbf_ h);rw[show off+(j+1)=off+1+j from oo]at p;have ad:(j:Int)<(n:Int)-1:=oo;clear h;go_wp2_with fail;refine mb_ (vz_ g.heap.size g.heap.size _ ⟨#[44,32]⟩ wr HD.o (by rw[QF_];show _+2<=_;omega) G) ?_;rintro w3 ⟨h3,E,_⟩;have s:=h_<|H.o.trans E;have M:=h_ h3;clear h3 E;go_wp2_with fail
   refine mb_ (vz_ g.heap.size g.heap.size _ x w3 M.o (by rw[lA,QF_];show _+2+_<=_;omega) s.o.size) ?_;rintro w4 ⟨h4,F,_⟩;have K:=h_<|s.o.trans F;have N:Ψ (Bld w4 g.heap.size g.heap.size (Q5_ (l.take (j+1+1))).data.toList):=h_ (by rw[Q.o,XX_,XX_];exact h4);clear h4 F;go_wp2;exact⟨⟨j+1,oo,by go_num,N,K⟩,ms_⟩
  obtain rfl:n=j+1:=oo;have q:=h_ (show l.take (j+1)=l from List.take_of_length_le (by rw[I.o];exact lr_ _));go_wp2_with fail;refine mb_ (Qcx_ g.heap.size g.heap.size _ wr HD.o G) ?_;intro w5 T;have L:=h_<|H.o.trans T;go_wp2;go_ret;exact⟨Xn_ (by rw[q.o]),L.o⟩
end Go.Proofs.YtbiijipkgfpgoaaGreatDoor

/-
  Put together by program.
-/
import Derived.Shelf.SlSortCmp.QuietGrown
import Derived.Test.YtbiijipkgfpgoaaGreatDoorMmD
set_option maxRecDepth 100000
set_option linter.all false
set_option maxHeartbeats 25600000
open Go.Proofs.Tryz
open Go.Value renaming int→I_,slice→S_,string→T_,bool→B_,pointer→P_,agg→A_,tuple→U_
open Go.IntKind renaming i64→j_
open Go.Obj renaming cells→C_
open Go.Ending renaming returned→R_
open List renaming length→η
open Go renaming World→Ω,Calls→Δ,Value→Υ
open Go.Proofs.Tryz renaming prog→π
open Go.RowKit renaming Hid→Ψ
open Bool renaming true→τ,false→φ,and_eq_true→τa,or_true→τo,true_or→τp
open Option renaming none→ν,some→σ
namespace Go.Proofs.YtbiijipkgfpgoaaGreatDoor
open Go.RowKit
variable (e:OA)(n c:Nat)(f:LI)(g:OA)(h d:Nat)(l:LI)(m:Ω)(x:Int)(o:OA)(p q:Nat)(r:LI)(y:Int){a b s:Int}{v:LI}{t:List PN}{i k j u:Nat}{z:OA}{w:Ω}
/-! ### Values, splits, lines -/
def QeK_ (v:LI) (r:Int):Int:=v.getD r.toNat 0
def ZE_ (v:LI) (c:ChunkD):Bool:=decide (c.2.2.1<=QeK_ v c.2.1)
def QK_ (n:Int):BA:=⟨(List.replicate n.toNat 32).toArray⟩
def Kc_:(QK_ x).size=x.toNat:=by show(List.replicate x.toNat (32:UInt8)).toArray.size=_;simp
def Y6_ (m:Int) (v:LI):List ChunkD->BA->List BA
 |[],s=>[s]
 |c::r,s=>if r=[]then [s++c.1]else if ZE_ v c=τ then (s++c.1)::Y6_ m v r (QK_ (m+c.2.2.2.2))else Y6_ m v r (s++c.1++(if c.2.2.2.1=τ then ⟨#[32]⟩else ⟨#[]⟩))
def YI_ (m:Int) (l1:List ChunkD) (v:LI):List BA:=Y6_ m v l1 (QK_ m)
def Uq_ (width:Int) (l:List BA):Int:=(l.map (λs=>max ((s.size:Int)-width) 0)).sum
def Wr_ (m:Int) (v:LI) (width:Int):List ChunkD->Int->Int->Int
 |[],n,o=>o
 |c::r,n,o=>
  let n1:=n+c.1.size
  if r=[]\/ZE_ v c=τ then Wr_ m v width r (m+c.2.2.2.2) (if width<n1 then o+n1-width else o)
  else Wr_ m v width r (if c.2.2.2.1=τ then n1+1 else n1) o
def QfL_ {m:Int} {v:LI} {width:Int}:∀(l:List ChunkD) (s:BA) (o:Int),l≠[]->(∀c∈l,0<=m+c.2.2.2.2)->Wr_ m v width l (s.size:Int) o=o+Uq_ width (Y6_ m v l s):=by
 intro l
 induction l with
 |nil=>intro s o h;exact absurd rfl h
 |cons c r ih=>
  intro s o _ e;have b:((s++c.1).size:Int)=(s.size:Int)+c.1.size:=by rw[bs_];omega
  unfold Wr_ Y6_;dsimp only;by_cases a:r=[]
  ·subst a;rw[ip_ (.inl rfl),ip_ rfl];show(if width<(s.size:Int)+c.1.size then o+((s.size:Int)+c.1.size)-width else o)=o+(max (((s++c.1).size:Int)-width) 0+0);rw[b];split<;>omega
  rw[in_ a];by_cases hs:ZE_ v c=τ
  ·rw[ip_ (.inr hs),ip_ hs];have h1:=ih (QK_ (m+c.2.2.2.2)) (if width<(s.size:Int)+c.1.size then o+((s.size:Int)+c.1.size)-width else o) a (λd hd=>e d (by simp[hd]));rw[Kc_]at h1;have h2:(((m+c.2.2.2.2).toNat:Nat):Int)=m+c.2.2.2.2:=(by have:=e c sm_;omega);rw[h2]at h1;rw[h1];show _=o+(max (((s++c.1).size:Int)-width) 0+Uq_ width _);rw[b];split<;>omega
  rw[in_ (λh=>h.elim a hs),in_ hs];have h1:=ih (s++c.1++(if c.2.2.2.1=τ then ⟨#[32]⟩else ⟨#[]⟩)) o a (λd hd=>e d (by simp[hd]));rw[<-h1];congr 1;split
  ·rw[bs_,bs_];show _=((s.size+c.1.size+1:Nat):Int);omega
  rw[bs_,bs_];show _=((s.size+c.1.size+0:Nat):Int);omega
/-! ### Costs -/
def Vs_:List RuleD->LI->Int
 |(_,c)::r,x::v=>x*c+Vs_ r v
 |_,_=>0
def kB_ (l1:List ChunkD) (v:LI) (i:Nat):Bool:=match l1[i]? with|some c=>decide (c.2.1<(η v:Int))&&ZE_ v c|none=>φ
def hitS (l1:List ChunkD) (v:LI) (d:SpanD):Bool:=(List.range' d.1.toNat (d.2.1+1-d.1).toNat).any (kB_ l1 v)
def Zu_ (l1:List ChunkD) (v:LI) (l2:List SpanD):Int:=(l2.map (λd=>if hitS l1 v d=τ then d.2.2 else 0)).sum
def YX_ (l0:List RuleD) (l1:List ChunkD) (l2:List SpanD) (v:LI):Int:=Vs_ l0 v+Zu_ l1 v l2
def Zj_ (w:Int):Int:=max 0 (min w 100000)
def QgP_ (m:Int) (l0:List RuleD) (l1:List ChunkD) (l2:List SpanD) (width:Int) (v:LI):Int × Int:=(Uq_ (Zj_ width) (YI_ m l1 v),YX_ l0 l1 l2 v)
def KQ_ (a b:Int × Int):Bool:=decide (a.1<b.1)||(decide (a.1=b.1)&&decide (a.2<b.2))
def X0_:LI->LI->Int
 |[],[]=>0
 |[],_::_=> -1
 |_::_,[]=>1
 |a::l,b::r=>if a<b then -1 else if b<a then 1 else X0_ l r
def Ui_ (l0:List RuleD):LI:=l0.map (λd=>d.1-1)
def Uv_ (v:LI) (d:TieD):Bool:=!(decide ((0<=d.1/\d.1<(η v:Int))/\(0<=d.2/\d.2<(η v:Int)))&&(decide (0<QeK_ v d.1)&&decide (QeK_ v d.2=0)))
def K5_ (l3:List TieD) (v:LI):Bool:=l3.all (Uv_ v)
/-! ### Heaps -/
abbrev SSt:=LI × Int
def Xt_ (a b:SSt):Bool:=decide (a.2<b.2)||(decide (a.2=b.2)&&decide (X0_ a.1 b.1<0))
def k8_ (l:List SSt) (i j:Nat):Bool:=match l[i]?,l[j]? with|some x,σ y=>Xt_ x y|_,_=>φ
def xM_ (l:List SSt) (i j:Nat):List SSt:=match l[i]?,l[j]? with|some x,σ y=>(l.set i y).set j x|_,_=>l
def upN (i:Nat):Nat:=(i+1) / 2-1
def YN_:Nat->List SSt->Nat->List SSt
 |0,l,_=>l
 |f+1,l,i=>if 0<i/\k8_ l i (upN i)=τ then YN_ f (xM_ l i (upN i)) (upN i)else l
def Wu_ (l:List SSt) (x:SSt):List SSt:=YN_ (η l+1) (l++[x]) (η l)
def kR_ (l:List SSt) (i:Nat):Nat:=if 2*i+2<η l/\k8_ l (2*i+2) (2*i+1)=τ then 2*i+2 else 2*i+1
def Y7_:Nat->List SSt->Nat->List SSt
 |0,l,_=>l
 |f+1,l,i=>if 2*i+1<η l/\k8_ l (kR_ l i) i=τ then Y7_ f (xM_ l i (kR_ l i)) (kR_ l i)else l
def Vr_ (l:List SSt):List SSt:=Y7_ (η l) ((l.set 0 (l.getD (η l-1) ([],0))).take (η l-1)) 0
def Qey_ (l:List SSt) (i j:Nat):(xM_ l i j).length=η l:=by unfold xM_;split<;>simp
def Qed_:∀(f:Nat) (l:List SSt) (i:Nat),(YN_ f l i).length=η l:=by
 intro f
 induction f with
 |zero=>intro l i;rfl
 |succ f ih=>intro l i;unfold YN_;split;rw[ih,Qey_];rfl
def QdX_ (l:List SSt) (x:SSt):(Wu_ l x).length=η l+1:=by unfold Wu_;rw[Qed_];simp
/-! ### The search -/
structure Hn where
 m:Int
 l0:List RuleD
 l1:List ChunkD
 l2:List SpanD
 l3:List TieD
 width:Int
def Hn.cost (P:Hn) (v:LI):Int × Int:=QgP_ P.m P.l0 P.l1 P.l2 P.width v
def Hn.bound (P:Hn) (v:LI):Int:=YX_ P.l0 P.l1 P.l2 v
def Jq_ (P:Hn) (cost:Int × Int) (x:LI) (h:List SSt) (k:Nat):List SSt:=
 let v:=x++[(k:Int)]
 if K5_ P.l3 v=φ\/(cost.1=0/\cost.2<P.bound v)then h else Wu_ h (v,P.bound v)
def QbJ_ (P:Hn) (cost:Int × Int) (x:LI) (h:List SSt):List SSt:=(List.range ((P.l0[η x]?.map (λd:RuleD=>d.1)).getD 0).toNat).foldl (Jq_ P cost x) h
def Zd_ (a:Int × Int) (v:LI) (b:Int × Int) (u:LI):Bool:=KQ_ a b||(decide (a=b)&&decide (X0_ v u<0))
def KJ_ (P:Hn):Nat->LI->Int × Int->List SSt->LI × Int
 |0,best,_,h=>if h=[]then (best,1)else (best,2)
 |n+1,best,cost,h=>
  match h with
  |[]=>(best,1)
  |x::_=>
   if x.1.length=η P.l0 then
    if Zd_ (P.cost x.1) x.1 cost best=τ then KJ_ P n x.1 (P.cost x.1) (Vr_ h)else KJ_ P n best cost (Vr_ h)
   else KJ_ P n best cost (QbJ_ P cost x.1 (Vr_ h))
def KU_ (P:Hn) (a:Int):LI × Int:=KJ_ P a.toNat (Ui_ P.l0) (P.cost (Ui_ P.l0)) [([],0)]
def QcG_ {x:LI} (h:X0_ v x=X0_ (v.drop i) (x.drop i)) (ha:v[i]? =σ a) (hb:x[i]? =σ b):X0_ v x=if a<b then -1 else if b<a then 1 else X0_ (v.drop (i+1)) (x.drop (i+1)):=by
 obtain⟨h1,h2⟩:=gs_.1 ha;obtain⟨h3,h4⟩:=gs_.1 hb;rw[h,List.drop_eq_getElem_cons h1,h2,List.drop_eq_getElem_cons h3,h4]
 conv=>lhs;unfold X0_
def UA_ {b:LI} (h:X0_ v b=X0_ (v.drop i) (b.drop i)) (he:η v<=i\/η b<=i) (ha:i<=η v) (hb:i<=η b):X0_ v b=if η v<η b then -1 else if η b<η v then 1 else 0:=by
 rw[h];by_cases h1:η v<=i
 ·rw[List.drop_of_length_le h1];by_cases c:η b<=i
  ·rw[List.drop_of_length_le c,in_ oo,in_ oo];rfl
  obtain⟨y,r,e⟩:∃y r,b.drop i=y::r:=by
   cases hd:b.drop i with
   |nil=>have:=congrArg List.length hd;simp at this;omega
   |cons y r=>exact⟨y,r,rfl⟩
  rw[e,ip_ oo];rfl
 have c:η b<=i:=oo;rw[List.drop_of_length_le c];obtain⟨y,r,e⟩:∃y r,v.drop i=y::r:=by
  cases hd:v.drop i with
  |nil=>have:=congrArg List.length hd;simp at this;omega
  |cons y r=>exact⟨y,r,rfl⟩
 rw[e,in_ oo,ip_ oo];rfl
def Dr (w w':Ω):Prop:=∃q,w'=w.drewN q
def Dr.refl:Dr m m:=⟨0,rfl⟩
def Dr.drew {w w':Ω} (h:Dr w w'):Dr w w'.drew:=by obtain⟨q,rfl⟩:=h;exact⟨q+1,rfl⟩
def Dr.below {w w':Ω} (h:Dr w w'):Λ w w':=by obtain⟨q,rfl⟩:=h;exact below_drewN br q
def zb_ (hn:n<=1048576) (hk:h<=1048576) (v:Rd m 1 e n (Qa_ f)) (z:Rd m 1 g h (Qa_ l)):
  Δ π 144 #[S_ e n c,S_ g h d] m λA w'=>A=R_ (I_ j_ (X0_ f l))/\Dr m w':=by
 have HA:=h_ v;have HB:=h_ z;have a:=h_ (show η f=n from K2_ v);have B:=h_ (show η l=h from K2_ z);go_in;go_wp2;go_loopw [5] (λx wr=>∃i:Nat,i<=n/\i<=h/\x=I_ j_ i/\Ψ (X0_ f l=X0_ (f.drop i) (l.drop i))/\Ψ (Dr m wr)) (λx _=>n-(intOf x).toNat)
 ·exact⟨0,lz_ _,lz_ _,rfl,h_ sm_,h_ (Dr.refl _)⟩
 obtain⟨i,o,w,rfl,r,b⟩:=hrel;by_cases h1:i<n
 ·by_cases h2:i<h
  ·obtain⟨x,C⟩:∃x,f[i]? =σ x:=⟨_,gE (by rw[a.o];exact h1)⟩;obtain⟨y,D⟩:∃y,l[i]? =σ y:=⟨_,gE (by rw[B.o];exact h2)⟩;obtain⟨p,off,rfl,hp,cx⟩:=Qu_ (HA.o.next b.o.below) h1 C;obtain⟨q,E,rfl,hq,cy⟩:=Qu_ (HB.o.next b.o.below) h2 D;have s:=h_ (QcG_ r.o C D);by_cases t:x<y
   ·have j:Ψ (X0_ f l= -1):=h_ (by rw[s.o,ip_ t]);go_wp2
    go_region
    go_wp2;go_ret;exact⟨Kx_ j.o.symm,b.o.drew⟩
   by_cases h4:y<x
   ·have j:Ψ (X0_ f l=1):=h_ (by rw[s.o,in_ t,ip_ h4]);go_wp2
    go_region
    go_wp2
    go_region
    go_wp2;go_ret;exact⟨Kx_ j.o.symm,b.o.drew.drew⟩
   have j:=h_ (show X0_ f l=X0_ (f.drop (i+1)) (l.drop (i+1))by rw[s.o,in_ t,in_ h4]);go_wp2
   go_region
   go_wp2
   go_region
   go_wp2;exact⟨⟨i+1,oo,oo,by go_num,j,h_ (b.o.drew.drew)⟩,ms_⟩
  have j:=h_<|UA_ r.o (.inr (by rw[B.o];omega)) (by rw[a.o];exact o) (by rw[B.o];exact w);obtain rfl:i=h:=oo;have k:Ψ (X0_ f l=1):=h_ (by rw[j.o,a.o,B.o,in_ oo,ip_ h1]);go_wp2;go_ret;exact⟨Kx_ k.o.symm,b.o⟩
 have j:=h_<|UA_ r.o (.inl (by rw[a.o];omega)) (by rw[a.o];exact o) (by rw[B.o];exact w);obtain rfl:i=n:=oo;by_cases h5:i<h
 ·have k:Ψ (X0_ f l= -1):=h_ (by rw[j.o,a.o,B.o,ip_ h5]);go_wp2;go_ret;exact⟨Kx_ k.o.symm,b.o⟩
 have k:Ψ (X0_ f l=0):=h_ (by rw[j.o,a.o,B.o,in_ h5,in_ oo]);go_wp2;go_ret;exact⟨Kx_ k.o.symm,b.o⟩
def Vu_ (hn:n<=1048576) (hk:h<=1048576) (ha:Rd m 1 e n (Qa_ f)) (hb:Rd m 1 g h (Qa_ l)):
  Δ π 144 #[S_ e n c,S_ g h d] m (RB_ (I_ j_ (X0_ f l)) m):=
 (zb_ e n c f g h d l m hn hk ha hb).mono λ_ _ A=>⟨A.1,A.2.below⟩
def Qba_ (w:Ω):Δ π 301 #[I_ j_ x] w (RS_ (B_ φ) w):=by
 go_in;exact Θ
def cmpI (x y:Int):Int:=if x<y then -1 else if y<x then 1 else 0
def Qfa_ (w:Ω):Δ π 300 #[I_ j_ x,I_ j_ y] w (RS_ (I_ j_ (cmpI x y)) w):=by
 have a:=h_ (λz W=>Qba_ z W);by_cases h1:x<y
 ·rw[show cmpI x y= -1 from ip_ h1];go_in;go_wp2_with (go_at_call 301;refine mb_ (a.o _ _) ?_;rintro w1 rfl);exact Φ
 by_cases h2:y<x
 ·rw[show cmpI x y=1 by unfold cmpI;rw[in_ h1,ip_ h2]];go_in;go_wp2_with (go_at_call 301;refine mb_ (a.o _ _) ?_;rintro w1 rfl);exact Φ
 rw[show cmpI x y=0 by unfold cmpI;rw[in_ h1,in_ h2]];go_in;go_wp2_with (go_at_call 301;refine mb_ (a.o _ _) ?_;rintro w1 rfl);exact Φ
def qV_ (hn:n<=1048576) (hk:h<=1048576) (C:Rd m 1 e n (Qa_ f)) (D:Rd m 1 g h (Qa_ l)):
  Δ π 296 #[S_ e n c,S_ g h d] m (RS_ (I_ j_ (X0_ f l)) m):=by
 have HA:=h_ C;have HB:=h_ D;have A:=h_ (show η f=n from K2_ C);have a:=h_ (show η l=h from K2_ D);have HC:=h_ (λx y W=>Qfa_ x y W);go_in;go_wp2
 go_loop [11] (λx=>∃i:Nat,i<=n/\i<=h/\x=I_ j_ i/\Ψ (X0_ f l=X0_ (f.drop i) (l.drop i))) (λx=>n-(intOf x).toNat)
 ·exact⟨0,lz_ _,lz_ _,rfl,h_ sm_⟩
 obtain⟨i,r,o,rfl,v⟩:=hrel;by_cases h1:i<n
 ·obtain⟨x,t⟩:∃x,f[i]? =σ x:=⟨_,gE (by rw[A.o];exact h1)⟩;obtain⟨p,off,rfl,hp,cx⟩:=Qu_ HA.o h1 t;by_cases h2:i<h
  ·obtain⟨y,E⟩:∃y,l[i]? =σ y:=⟨_,gE (by rw[a.o];exact h2)⟩;obtain⟨q,F,rfl,hq,cy⟩:=Qu_ HB.o h2 E;have z:=h_ (QcG_ v.o t E);have B:=h_ (HC.o x y m);by_cases b:x<y
   ·have k:Ψ (X0_ f l= -1):=h_ (by rw[z.o,ip_ b]);rw[show cmpI x y= -1 from ip_ b]at B;go_wp2_with fail;refine mb_ B.o ?_;rintro w1 rfl;go_wp2;go_ret;exact⟨Kx_ k.o.symm,rfl⟩
   by_cases s:y<x
   ·have k:Ψ (X0_ f l=1):=h_ (by rw[z.o,in_ b,ip_ s]);rw[show cmpI x y=1 by unfold cmpI;rw[in_ b,ip_ s]]at B;go_wp2_with fail;refine mb_ B.o ?_;rintro w1 rfl;go_wp2;go_ret;exact⟨Kx_ k.o.symm,rfl⟩
   have k:=h_ (show X0_ f l=X0_ (f.drop (i+1)) (l.drop (i+1))by rw[z.o,in_ b,in_ s]);rw[show cmpI x y=0 by unfold cmpI;rw[in_ b,in_ s]]at B;go_wp2_with fail;refine mb_ B.o ?_;rintro w1 rfl;go_wp2;exact⟨⟨i+1,oo,oo,by go_num,k⟩,ms_⟩
  have k:=h_<|UA_ v.o (.inr (by rw[a.o];omega)) (by rw[A.o];exact r) (by rw[a.o];exact o);obtain rfl:i=h:=oo;have j:Ψ (X0_ f l=1):=h_ (by rw[k.o,A.o,a.o,in_ oo,ip_ h1]);go_wp2;go_ret;exact⟨Kx_ j.o.symm,rfl⟩
 have k:=h_<|UA_ v.o (.inl (by rw[A.o];omega)) (by rw[A.o];exact r) (by rw[a.o];exact o);obtain rfl:i=n:=oo;by_cases h5:i<h
 ·have j:Ψ (X0_ f l= -1):=h_ (by rw[k.o,A.o,a.o,ip_ h5]);go_wp2;go_ret;exact⟨Kx_ j.o.symm,rfl⟩
 have j:Ψ (X0_ f l=0):=h_ (by rw[k.o,A.o,a.o,in_ h5,in_ oo]);go_wp2;go_ret;exact⟨Kx_ j.o.symm,rfl⟩
def Vg_ (hn:n<=1048576) (hk:h<=1048576) (ha:Rd m 1 e n (Qa_ f)) (hb:Rd m 1 g h (Qa_ l)):
  Δ π 287 #[S_ e n c,S_ g h d] m (RS_ (I_ j_ (X0_ f l)) m):=by
 have H:=h_<|qV_ e n c f g h d l m hn hk ha hb;go_in;go_wp2_with fail
 refine mb_ H.o ?_;rintro w1 rfl;exact Θ
open Go.RowKit Go.Sort
def Qdk_ {x:LI} (h:a<b):Xt_ (v,a) (x,b)=τ:=by simp[Xt_,h]
def Qdl_ {x:LI} (h:¬a<b) (h2:¬a=b):Xt_ (v,a) (x,b)=φ:=by simp[Xt_,h,h2]
def Qdm_ {b:LI} (h:X0_ v b<0):Xt_ (v,a) (b,a)=τ:=by simp[Xt_,h]
def Qdn_ {b:LI} (h:¬X0_ v b<0):Xt_ (v,a) (b,a)=φ:=by simp[Xt_,h]
def zm_ {y:Int} (h:a<b):KQ_ (a,s) (b,y)=τ:=by simp[KQ_,h]
def zn_ {y:Int} (h:¬a<b) (h2:¬a=b):KQ_ (a,s) (b,y)=φ:=by simp[KQ_,h,h2]
def zo_ (h:b<s):KQ_ (a,b) (a,s)=τ:=by simp[KQ_,h]
def zp_ (h:¬b<s):KQ_ (a,b) (a,s)=φ:=by simp[KQ_,h]
def Qin_ (a b:Obj):(m.alloc a).alloc b=grow m #[a,b]:=by rw[alloc_eq_grow,alloc_eq_grow,grow_grow];rfl
def GrR (v:Υ) (w:Ω) (e:Ending) (w':Ω):Prop:=e=R_ v/\∃q os,w'=grow (w.drewN q) os
def gr2 (v:Υ) (w:Ω) (a b:Obj):GrR v w (R_ v) ((w.alloc a).alloc b):=⟨rfl,0,_,Qin_ w a b⟩
def GrR.below {v:Υ} {w w':Ω} {e:Ending} (h:GrR v w e w'):e=R_ v/\Λ w w':=by
 obtain⟨h1,q,os,rfl⟩:=h;exact⟨h1,Go.Lib.below_grow w.heap.size w (lr_ _) q os⟩
def Z3_ (o o':Obj):Λ m ((m.alloc o).alloc o'):=Gi_ br
def Z2_ (w:Ω) (hn:n<=1048576) (hk:p<=1048576) (ha:Rd w 1 e n (Qa_ f)) (hb:Rd w 1 o p (Qa_ r)):
  Δ π 195 #[A_ #[S_ e n c,I_ j_ x],A_ #[S_ o p q,I_ j_ y]] w λA w'=>A=R_ (B_ (Xt_ (f,x) (r,y)))/\Λ w w':=by
 have HA:=h_ ha;have HB:=h_ hb;have HC:=h_ (λW h1 h2=>Vu_ e n c f o p q r W hn hk h1 h2);by_cases g1:x<y
 ·rw[Qdk_ g1];go_in;go_wp2;go_ret;exact⟨rfl,Z3_ _ _ _⟩
 by_cases g2:x=y
 ·subst g2;by_cases g3:X0_ f r<0
  ·rw[Qdm_ g3];go_in;go_wp2_with (go_at_call 144;refine mb_ (HC.o _ ((HA.o.alloc _).alloc _) ((HB.o.alloc _).alloc _)) ?_;intro w1 h1);go_ret;exact⟨rfl,Gi_ h1⟩
  rw[Qdn_ g3];go_in;go_wp2_with (go_at_call 144;refine mb_ (HC.o _ ((HA.o.alloc _).alloc _) ((HB.o.alloc _).alloc _)) ?_;intro w1 h1);go_ret;exact⟨Qg_ (df_ oo),Gi_ h1⟩
 rw[Qdl_ g1 g2];go_in;go_wp2;go_ret;exact⟨rfl,Z3_ _ _ _⟩
def Uu_ (a x b y:Int) (w:Ω):
  Δ π 143 #[A_ #[I_ j_ a,I_ j_ x],A_ #[I_ j_ b,I_ j_ y]] w (GrR (B_ (KQ_ (a,x) (b,y))) w):=by
 by_cases g1:a<b
 ·rw[zm_ g1];go_in;go_wp2;go_ret;exact gr2 _ _ _ _
 by_cases g2:a=b
 ·subst g2;by_cases g3:x<y
  ·rw[zo_ g3];go_in;go_wp2;go_ret;exact gr2 _ _ _ _
  rw[zp_ g3];go_in;go_wp2;go_ret;exact gr2 _ _ _ _
 rw[zn_ g1 g2];go_in;go_wp2;go_ret;exact gr2 _ _ _ _
def ZZ_ (w:Ω) (hn:n<=1048576) (hk:p<=1048576) (ha:Rd w 1 e n (Qa_ f)) (hb:Rd w 1 o p (Qa_ r)):
  Δ π 285 #[A_ #[S_ e n c,I_ j_ x],A_ #[S_ o p q,I_ j_ y]] w λA w'=>A=R_ (B_ (Xt_ (f,x) (r,y)))/\Λ w w':=by
 have HA:=h_ ha;have HB:=h_ hb;have HC:=h_ (λW h1 h2=>Vg_ e n c f o p q r W hn hk h1 h2);by_cases g1:x<y
 ·rw[Qdk_ g1];go_in;go_wp2;go_ret;exact⟨rfl,Z3_ _ _ _⟩
 by_cases g2:x=y
 ·subst g2;by_cases g3:X0_ f r<0
  ·rw[Qdm_ g3];go_in;go_wp2_with (go_at_call 287;refine mb_ (HC.o _ ((HA.o.alloc _).alloc _) ((HB.o.alloc _).alloc _)) ?_;rintro w1 rfl);go_ret;exact⟨rfl,Z3_ _ _ _⟩
  rw[Qdn_ g3];go_in;go_wp2_with (go_at_call 287;refine mb_ (HC.o _ ((HA.o.alloc _).alloc _) ((HB.o.alloc _).alloc _)) ?_;rintro w1 rfl);go_ret;exact⟨Qg_ (df_ oo),Z3_ _ _ _⟩
 rw[Qdl_ g1 g2];go_in;go_wp2;go_ret;exact⟨rfl,Z3_ _ _ _⟩
def Y0_ (a x b y:Int) (w:Ω):
  Δ π 286 #[A_ #[I_ j_ a,I_ j_ x],A_ #[I_ j_ b,I_ j_ y]] w (GrR (B_ (KQ_ (a,x) (b,y))) w):=by
 by_cases g1:a<b
 ·rw[zm_ g1];go_in;go_wp2;go_ret;exact gr2 _ _ _ _
 by_cases g2:a=b
 ·subst g2;by_cases g3:x<y
  ·rw[zo_ g3];go_in;go_wp2;go_ret;exact gr2 _ _ _ _
  rw[zp_ g3];go_in;go_wp2;go_ret;exact gr2 _ _ _ _
 rw[zn_ g1 g2];go_in;go_wp2;go_ret;exact gr2 _ _ _ _
structure PcM (P:Hn) (A0 A1 A2 A3:OA) (w:Ω):Prop where
 r0:Rd w 2 A0 (η P.l0) (P.l0.flatMap Q0_)
 r1:Rd w 5 A1 (η P.l1) (P.l1.flatMap Qo_)
 r2:Rd w 3 A2 (η P.l2) (P.l2.flatMap QJ_)
 r3:Rd w 2 A3 (η P.l3) (P.l3.flatMap KF_)
def PcM.next {P:Hn} {A0 A1 A2 A3:OA} {w w':Ω} (h:PcM P A0 A1 A2 A3 w) (a:Λ w w'):PcM P A0 A1 A2 A3 w':=⟨h.r0.next a,h.r1.next a,h.r2.next a,h.r3.next a⟩
def PcM.alloc {P:Hn} {A1 A2 A3:OA} (h:PcM P z A1 A2 A3 w) (o:Obj):PcM P z A1 A2 A3 (w.alloc o):=⟨h.r0.alloc o,h.r1.alloc o,h.r2.alloc o,h.r3.alloc o⟩
structure PcOk (P:Hn):Prop where
 n0:η P.l0<=8
 n1:η P.l1<=80
 n2:η P.l2<=40
 n3:η P.l3<=20
 rule:∀d∈P.l0,1<=d.1/\d.1<=256/\0<=d.2/\d.2<=1000
abbrev pcCells (P:Hn) (A0 A1 A2 A3:OA) (c0 c1 c2 c3:Nat):Array Υ:=#[I_ j_ P.m,S_ A0 (η P.l0) c0,S_ A1 (η P.l1) c1,S_ A2 (η P.l2) c2,S_ A3 (η P.l3) c3]
def Uy_ {B:Array Oper} {rest:List Oper} {o:Oper} {b:Act} {Q:Exit->Act->Ω->Prop} (s x:Operand) 
  (l:Ψ (Mine w i 3 1 z k j (Qa_ v))) (hB:i<=w.heap.size) (m:o.guard=ν) (ho:o.op=.call { callee:=.builtin .append,args:=#[s,x],argTypes:=#[83,83] }) (hs:b.eval s=S_ z k j) (hx:b.eval x=S_ (σ ⟨w.heap.size,0,ν⟩) 1 1) (A:k<=100000)
  (h:∀A' c' w',Ψ (Mine w' i 3 1 A' (k+1) c' (Qa_ (v++[a])))->Ψ (w.heap.size<=w'.heap.size/\∀g t cs,Blk w g t cs->t≠3->Blk w' g t cs)->Ψ (∀w0,Below i w0 w->Below i w0 w')->wpList π B Q rest (b.put o.dst (S_ A' (k+1) c')) w'):wpList π B Q (o::rest) b (w.alloc (C_ #[I_ j_ a] 3)):=by
 obtain⟨i0,hi,n,p,q⟩:=info_parts QY_;refine wpList_append_own _ m s x _ ho i 3 i0 (I_ j_ 0) 1 8 underlying83 hi n p q rfl dc_ (S_ z k j) k (Qa_ v) hs (Mine.alloc l.o _) ⟨w.heap.size,0,ν⟩ 1 1 [I_ j_ a] hx rfl (K8_ _ a _) (K9_ _) mx_ oo so_ ?_;intro v' w5 f d y;obtain⟨A5,c5,rfl,m5⟩:=Mine.of f;rw[<-Ke_]at m5;refine h A5 c5 w5 m5 ⟨lt_ sm_ d.size,λg t cs w1 ht=>?_⟩ (λw0 w1=>?_)
 ·refine(w1.alloc _).grown d (λe=>?_);rw[Q3_]at e;obtain⟨r,b'⟩:=Qw_ l.o e.symm;exact Kj_ w1 b' ht rfl
 exact(w1.alloc hB _).grown d so_ (λg d=>by rw[Q3_]at d;exact(Mine.blk l.o d).1)
def allT (P:Hn) (k:Nat):LI:=(P.l0.take k).map (λd=>d.1-1)
def kc_ {P:Hn} (h:P.l0[i]? =σ (a,b)):allT P (i+1)=allT P i++[a-1]:=by
 unfold allT;rw[List.take_add_one,h,List.map_append];rfl
def vs_ (P:Hn):allT P (η P.l0)=Ui_ P.l0:=by unfold allT Ui_;rw[List.take_of_length_le (lr_ _)]
def VC_ (l:List RuleD):(Ui_ l).length=η l:=by unfold Ui_;simp
def Us_ (P:Hn) (A0 A1 A2 A3:OA) (c0 c1 c2 c3:Nat) (w:Ω) (hM:PcM P A0 A1 A2 A3 w) (t:PcOk P):
  Δ π 140 #[A_ (pcCells P A0 A1 A2 A3 c0 c1 c2 c3)] w (QeT_ w (Ui_ P.l0)):=by
 have HM:=h_ hM.r0;have HR:=h_ t.rule;have hn:=t.n0;have l:=h_ (VC_ P.l0);have f:=h_ (vs_ P);have b:=h_ (show Blk ((w.alloc (C_ (pcCells P A0 A1 A2 A3 c0 c1 c2 c3) 149)).alloc (C_ #[] 3)) w.heap.size 149 (pcCells P A0 A1 A2 A3 c0 c1 c2 c3)from(Blk.new _ _ _).alloc _);have e:=h_ (show Mine ((w.alloc (C_ (pcCells P A0 A1 A2 A3 c0 c1 c2 c3) 149)).alloc (C_ #[] 3)) w.heap.size 3 1 (σ ⟨w.heap.size+1,0,ν⟩) 0 0 (Qa_ (allT P 0))from by
  have h:=ZA_ (w.alloc (C_ (pcCells P A0 A1 A2 A3 c0 c1 c2 c3) 149)) 3 1;rw[ws_]at h;exact Mine.more h (oo:w.heap.size<=w.heap.size+1))
 have a:=h_<|Z3_ w (C_ (pcCells P A0 A1 A2 A3 c0 c1 c2 c3) 149)<|C_ #[] 3;unfold QeT_;rw[l.o];obtain⟨N,j⟩:=ex_ (η P.l0);have HN:=h_ j;rw[j]at hn HM f |-
 unfold pcCells at b e a |-
 rw[j]at b e a |-
 go_in;go_wp2;go_loopw [3,4] (λo x wr=>∃(i:Nat) (A:OA) (c:Nat),i<=N/\x=I_ j_ i/\o=S_ A i c/\Ψ (Mine wr w.heap.size 3 1 A i c (Qa_ (allT P i)))/\Ψ (Blk wr w.heap.size 149 #[I_ j_ P.m,S_ A0 N c0,S_ A1 (η P.l1) c1,S_ A2 (η P.l2) c2,S_ A3 (η P.l3) c3])/\Ψ (Λ w wr)) (λ_ x _=>N-(intOf x).toNat)
 ·exact⟨0,σ ⟨w.heap.size+1,0,ν⟩,0,lz_ _,rfl,rfl,e,b,a⟩
 obtain⟨i,A,c,z,rfl,rfl,HO,n,g⟩:=hrel;have v:=g.o.size;have q1:wr.cell? ⟨w.heap.size,1,ν⟩=σ (S_ A0 N c0):=n.o.cell 1;have D:=n.o.lt;by_cases h1:i<N
 ·obtain⟨⟨x0,x1⟩,k⟩:∃d,P.l0[i]? =σ d:=⟨_,gE (by rw[HN.o];exact h1)⟩;obtain⟨p,off,rfl,hp,cx,cy⟩:=Xo_ (HM.o.next g.o) h1 k;have y:=h_ (kc_ k);have hr:=HR.o _ (lm_ k);dsimp only at hr;obtain⟨B,C,_,_⟩:=hr;have s:=HO;go_wp2_with (at_builtin;refine Uy_ (.tmp 13) (.tmp 21) s v rfl rfl rfl rfl oo ?_;intro A5 c5 w5 r q m);go_wp2;go_roundw
  ·exact⟨i+1,A5,c5,oo,by go_num,rfl,by rw[y.o];exact r,h_ (q.o.2 _ _ _ n.o dc_),h_ (m.o _ g.o)⟩
  exact ms_
 obtain rfl:i=N:=oo;go_wp2;go_ret;exact⟨A,c,rfl,by rw[<-f.o];exact HO.o,g.o⟩
def Uk_ (P:Hn) (A0 A1 A2 A3:OA) (c0 c1 c2 c3:Nat) (w:Ω) (hM:PcM P A0 A1 A2 A3 w) (t:PcOk P):
  Δ π 269 #[A_ (pcCells P A0 A1 A2 A3 c0 c1 c2 c3)] w (QeT_ w (Ui_ P.l0)):=by
 have HM:=h_ hM.r0;have HR:=h_ t.rule;have hn:=t.n0;have l:=h_<|VC_ P.l0;have f:=h_<|vs_ P;have b:=h_ (show Blk (w.alloc (C_ (pcCells P A0 A1 A2 A3 c0 c1 c2 c3) 149)) w.heap.size 149 (pcCells P A0 A1 A2 A3 c0 c1 c2 c3)from Blk.new _ _ _);have e:=h_ (show Mine (w.alloc (C_ (pcCells P A0 A1 A2 A3 c0 c1 c2 c3) 149)) w.heap.size 3 1 ν 0 0 (Qa_ (allT P 0))from Mine.mk_nil _ _ _ _);have a:=h_ (show Λ w (w.alloc (C_ (pcCells P A0 A1 A2 A3 c0 c1 c2 c3) 149))from Ql_ br);unfold QeT_;rw[l.o];obtain⟨N,j⟩:=ex_ (η P.l0);have HN:=h_ j;rw[j]at hn HM f |-
 unfold pcCells at b e a |-
 rw[j]at b e a |-
 go_in;go_wp2;go_loopw [3,9] (λo x wr=>∃(i:Nat) (A:OA) (c:Nat),i<=N/\x=I_ j_ i/\o=S_ A i c/\Ψ (Mine wr w.heap.size 3 1 A i c (Qa_ (allT P i)))/\Ψ (Blk wr w.heap.size 149 #[I_ j_ P.m,S_ A0 N c0,S_ A1 (η P.l1) c1,S_ A2 (η P.l2) c2,S_ A3 (η P.l3) c3])/\Ψ (Λ w wr)) (λ_ x _=>N-(intOf x).toNat)
 ·exact⟨0,ν,0,lz_ _,rfl,rfl,e,b,a⟩
 obtain⟨i,A,c,z,rfl,rfl,HO,n,h⟩:=hrel;have v:=h.o.size;have q1:wr.cell? ⟨w.heap.size,1,ν⟩=σ (S_ A0 N c0):=n.o.cell 1;have D:=n.o.lt;by_cases h1:i<N
 ·obtain⟨⟨x0,x1⟩,k⟩:∃d,P.l0[i]? =σ d:=⟨_,gE (by rw[HN.o];exact h1)⟩;obtain⟨p,off,rfl,hp,cx,cy⟩:=Xo_ (HM.o.next h.o) h1 k;have y:=h_ (kc_ k);have hr:=HR.o _ (lm_ k);dsimp only at hr;obtain⟨B,C,_,_⟩:=hr;have s:=h_ (HO.o.alloc (C_ #[I_ j_ x0,I_ j_ x1] 192));have g:w.heap.size<=(wr.alloc (C_ #[I_ j_ x0,I_ j_ x1] 192)).heap.size:=so_;go_wp2_with (at_builtin;refine Uy_ (.tmp 13) (.tmp 17) s g rfl rfl rfl er_ oo ?_;intro A5 c5 w5 r q m);go_wp2;go_roundw
  ·exact⟨i+1,A5,c5,oo,by go_num,rfl,by rw[y.o];exact r,h_ (q.o.2 _ _ _ (n.o.alloc _) dc_),h_ (m.o _ (h.o.alloc v _))⟩
  exact ms_
 obtain rfl:i=N:=oo;go_wp2;go_ret;exact⟨A,c,rfl,by rw[<-f.o];exact HO.o,h.o⟩
def inBT (h:b<=a/\a<=s):inB a b s=τ:=dt_ h
def inBF (h:¬(b<=a/\a<=s)):inB a b s=φ:=df_ h
def xQ_ {l:List TieD} {d:TieD} (h:K5_ l v=K5_ (l.drop i) v) (hd:l[i]? =σ d):K5_ l v=(Uv_ v d&&K5_ (l.drop (i+1)) v):=by
 obtain⟨h1,h2⟩:=gs_.1 hd;rw[h,List.drop_eq_getElem_cons h1,h2]
 rfl
def QeB_ {v:LI} {x0 x1:Int} (h:¬(0<=x0/\x0<=(η v:Int)-1)):Uv_ v (x0,x1)=τ:=by
 unfold Uv_;rw[df_ (λk=>h ⟨k.1.1,by have:=k.1.2;dsimp only at this;omega⟩)]
 rfl
def QeC_ {v:LI} {x0 x1:Int} (h:¬(0<=x1/\x1<=(η v:Int)-1)):Uv_ v (x0,x1)=τ:=by
 unfold Uv_;rw[df_ (λk=>h ⟨k.2.1,by have:=k.2.2;dsimp only at this;omega⟩)]
 rfl
def WR_ (h:v[i]? =σ a):QeK_ v (i:Int)=a:=by
 unfold QeK_;rw[it_,List.getD_eq_getElem?_getD,h];rfl
def QeD_ {x1 y:Int} (h:v[i]? =σ y) (hy:¬0<y):Uv_ v ((i:Int),x1)=τ:=by
 unfold Uv_;rw[WR_ h,df_ hy];simp
def QeE_ {x0 y:Int} (h:v[i]? =σ y) (hy:¬y=0):Uv_ v (x0,(i:Int))=τ:=by
 unfold Uv_;rw[WR_ h,df_ hy];simp
def QeG_ (h:v[i]? =σ a) (hy:0<a) (h2:v[k]? =σ 0):Uv_ v ((i:Int),(k:Int))=φ:=by
 unfold Uv_;have a1:=(gs_.1 h).1;have a2:=(gs_.1 h2).1;rw[WR_ h,WR_ h2,dt_ hy,dt_ (show(0<=((i:Int),(k:Int)).1/\((i:Int),(k:Int)).1<(η v:Int))/\(0<=((i:Int),(k:Int)).2/\((i:Int),(k:Int)).2<(η v:Int))from⟨⟨by dsimp only;omega,by dsimp only;omega⟩,⟨by dsimp only;omega,by dsimp only;omega⟩⟩)]
 rfl
def WO_ (P:Hn) (A0 A1 A2 A3:OA) (c0 c1 c2 c3:Nat) (V:OA) (n cv:Nat) (v:LI) (w:Ω) (hM:PcM P A0 A1 A2 A3 w) (hO:PcOk P) (D:Rd w 1 V n (Qa_ v)) (hn:n<=8):
  Δ π 146 #[A_ (pcCells P A0 A1 A2 A3 c0 c1 c2 c3),S_ V n cv] w (RB_ (B_ (K5_ P.l3 v)) w):=by
 have HM:=h_ hM.r3;have C:=hO.n3;have HV:=h_ D;have k:=h_ (show η v=n from K2_ D);obtain⟨N,B⟩:=ex_ (η P.l3);have HN:=h_ B;unfold pcCells;rw[B]at C HM |-
 have s:=h_<|Blk.new w 149 #[I_ j_ P.m,S_ A0 (η P.l0) c0,S_ A1 (η P.l1) c1,S_ A2 (η P.l2) c2,S_ A3 N c3];have r:=h_ (show Λ w (w.alloc (C_ #[I_ j_ P.m,S_ A0 (η P.l0) c0,S_ A1 (η P.l1) c1,S_ A2 (η P.l2) c2,S_ A3 N c3] 149))from Ql_ br);go_in;go_wp2;go_loopw [6] (λx wr=>∃i:Nat,i<=N/\x=I_ j_ i/\Ψ (K5_ P.l3 v=K5_ (P.l3.drop i) v)/\Ψ (Blk wr w.heap.size 149 #[I_ j_ P.m,S_ A0 (η P.l0) c0,S_ A1 (η P.l1) c1,S_ A2 (η P.l2) c2,S_ A3 N c3])/\Ψ (Λ w wr)) (λx _=>N-(intOf x).toNat)
 ·exact⟨0,lz_ _,rfl,h_ sm_,s,r⟩
 obtain⟨i,L,rfl,HE,m,j⟩:=hrel;have f:=j.o.size;have q4:wr.cell? ⟨w.heap.size,4,ν⟩=σ (S_ A3 N c3):=m.o.cell 4;have M:=m.o.lt;by_cases h1:i<N
 ·obtain⟨⟨x0,x1⟩,E⟩:∃d,P.l3[i]? =σ d:=⟨_,gE (by rw[HN.o];exact h1)⟩;obtain⟨p,off,rfl,hp,cx,cy⟩:=Qax_ (HM.o.next j.o) h1 E;have q:=h_ (xQ_ HE.o E);by_cases t:0<=x0/\x0<=(n:Int)-1
  ·have c:=h_ (inBT t);by_cases o:0<=x1/\x1<=(n:Int)-1
   ·have b:=h_ (inBT o);obtain⟨k0,rfl⟩:=eo_ t.1;obtain⟨z,rfl⟩:=eo_ o.1;have g3:k0<n:=oo;have g4:z<n:=oo;obtain⟨y0,g⟩:∃y,v[k0]? =σ y:=⟨_,gE (by rw[k.o];exact g3)⟩;obtain⟨y1,h⟩:∃y,v[z]? =σ y:=⟨_,gE (by rw[k.o];exact g4)⟩;obtain⟨b5,F,e5,J,H⟩:=Qu_ (HV.o.next j.o) g3 g;obtain⟨b6,G,A,K,I⟩:=Qu_ (HV.o.next j.o) g4 h;subst e5;injection A with A;injection A with e61 e62;subst e61;subst e62;have i3:(k0:Int)<(n:Int):=oo;have i4:(z:Int)<(n:Int):=oo;by_cases g5:0<y0
    ·by_cases g6:y1=0
     ·subst g6;have a:=h_ (show K5_ P.l3 v=φ by rw[q.o,QeG_ g g5 h];rfl);go_wp2_with (go_at_call 34;(first|(with_reducible refine(Ks_ c.o _).mono ?_)|(with_reducible refine(Ks_ b.o _).mono ?_));rintro e w1 ⟨rfl,rfl⟩);go_ret;exact⟨Qg_ a.o.symm,j.o.alloc f _⟩
     have l:=h_<|QeE_ (x0:=(k0:Int)) h g6;have a:=h_ (show K5_ P.l3 v=K5_ (P.l3.drop (i+1)) v by rw[q.o,l.o];rfl);go_wp2_with (go_at_call 34;(first|(with_reducible refine(Ks_ c.o _).mono ?_)|(with_reducible refine(Ks_ b.o _).mono ?_));rintro e w1 ⟨rfl,rfl⟩)
     exact⟨⟨i+1,oo,by go_num,a,h_ (m.o.alloc _),h_ (j.o.alloc f _)⟩,ms_⟩
    have l:=h_<|QeD_ (x1:=(z:Int)) g g5;have a:=h_ (show K5_ P.l3 v=K5_ (P.l3.drop (i+1)) v by rw[q.o,l.o];rfl);go_wp2_with (go_at_call 34;(first|(with_reducible refine(Ks_ c.o _).mono ?_)|(with_reducible refine(Ks_ b.o _).mono ?_));rintro e w1 ⟨rfl,rfl⟩)
    exact⟨⟨i+1,oo,by go_num,a,h_ (m.o.alloc _),h_ (j.o.alloc f _)⟩,ms_⟩
   have b:=h_<|inBF o;have l:=h_<|QeC_ (v:=v) (x0:=x0) (x1:=x1) (by rw[k.o];exact o);have a:=h_ (show K5_ P.l3 v=K5_ (P.l3.drop (i+1)) v by rw[q.o,l.o];rfl);go_wp2_with (go_at_call 34;(first|(with_reducible refine(Ks_ c.o _).mono ?_)|(with_reducible refine(Ks_ b.o _).mono ?_));rintro e w1 ⟨rfl,rfl⟩)
   exact⟨⟨i+1,oo,by go_num,a,h_ (m.o.alloc _),h_ (j.o.alloc f _)⟩,ms_⟩
  have c:=h_<|inBF t;have l:=h_<|QeB_ (v:=v) (x0:=x0) (x1:=x1) (by rw[k.o];exact t);by_cases o:0<=x1/\x1<=(n:Int)-1
  ·have b:=h_ (inBT o);have a:=h_ (show K5_ P.l3 v=K5_ (P.l3.drop (i+1)) v by rw[q.o,l.o];rfl);go_wp2_with (go_at_call 34;(first|(with_reducible refine(Ks_ c.o _).mono ?_)|(with_reducible refine(Ks_ b.o _).mono ?_));rintro e w1 ⟨rfl,rfl⟩);exact⟨⟨i+1,oo,by go_num,a,h_ (m.o.alloc _),h_ (j.o.alloc f _)⟩,ms_⟩
  have b:=h_<|inBF o;have a:=h_ (show K5_ P.l3 v=K5_ (P.l3.drop (i+1)) v by rw[q.o,l.o];rfl);go_wp2_with (go_at_call 34;(first|(with_reducible refine(Ks_ c.o _).mono ?_)|(with_reducible refine(Ks_ b.o _).mono ?_));rintro e w1 ⟨rfl,rfl⟩)
  exact⟨⟨i+1,oo,by go_num,a,h_ (m.o.alloc _),h_ (j.o.alloc f _)⟩,ms_⟩
 obtain rfl:i=N:=oo;have a:=h_ (show K5_ P.l3 v=τ by rw[HE.o,List.drop_of_length_le (by rw[HN.o];exact lr_ _)];rfl);go_wp2;go_ret;exact⟨Qg_ a.o.symm,j.o⟩
def U6_ (P:Hn) (A0 A1 A2 A3:OA) (c0 c1 c2 c3:Nat) (V:OA) (n cv:Nat) (v:LI) (w:Ω) (hM:PcM P A0 A1 A2 A3 w) (hO:PcOk P) (D:Rd w 1 V n (Qa_ v)) (hn:n<=8):
  Δ π 289 #[A_ (pcCells P A0 A1 A2 A3 c0 c1 c2 c3),S_ V n cv] w (RB_ (B_ (K5_ P.l3 v)) w):=by
 have HM:=h_ hM.r3;have C:=hO.n3;have HV:=h_ D;have k:=h_ (show η v=n from K2_ D);obtain⟨N,B⟩:=ex_ (η P.l3);have HN:=h_ B;unfold pcCells;rw[B]at C HM |-
 have s:=h_<|Blk.new w 149 #[I_ j_ P.m,S_ A0 (η P.l0) c0,S_ A1 (η P.l1) c1,S_ A2 (η P.l2) c2,S_ A3 N c3];have r:=h_ (show Λ w (w.alloc (C_ #[I_ j_ P.m,S_ A0 (η P.l0) c0,S_ A1 (η P.l1) c1,S_ A2 (η P.l2) c2,S_ A3 N c3] 149))from Ql_ br);go_in;go_wp2;go_loopw [10] (λx wr=>∃i:Nat,i<=N/\x=I_ j_ i/\Ψ (K5_ P.l3 v=K5_ (P.l3.drop i) v)/\Ψ (Blk wr w.heap.size 149 #[I_ j_ P.m,S_ A0 (η P.l0) c0,S_ A1 (η P.l1) c1,S_ A2 (η P.l2) c2,S_ A3 N c3])/\Ψ (Λ w wr)) (λx _=>N-(intOf x).toNat)
 ·exact⟨0,lz_ _,rfl,h_ sm_,s,r⟩
 obtain⟨i,L,rfl,HE,m,j⟩:=hrel;have f:=j.o.size;have q4:wr.cell? ⟨w.heap.size,4,ν⟩=σ (S_ A3 N c3):=m.o.cell 4;have M:=m.o.lt;by_cases h1:i<N
 ·obtain⟨⟨x0,x1⟩,E⟩:∃d,P.l3[i]? =σ d:=⟨_,gE (by rw[HN.o];exact h1)⟩;obtain⟨p,off,rfl,hp,cx,cy⟩:=Qax_ (HM.o.next j.o) h1 E;have q:=h_ (xQ_ HE.o E);by_cases t:0<=x0/\x0<=(n:Int)-1
  ·have c:=h_ (inBT t);by_cases o:0<=x1/\x1<=(n:Int)-1
   ·have b:=h_ (inBT o);obtain⟨k0,rfl⟩:=eo_ t.1;obtain⟨z,rfl⟩:=eo_ o.1;have g3:k0<n:=oo;have g4:z<n:=oo;obtain⟨y0,g⟩:∃y,v[k0]? =σ y:=⟨_,gE (by rw[k.o];exact g3)⟩;obtain⟨y1,h⟩:∃y,v[z]? =σ y:=⟨_,gE (by rw[k.o];exact g4)⟩;obtain⟨b5,F,e5,J,H⟩:=Qu_ (HV.o.next j.o) g3 g;obtain⟨b6,G,A,K,I⟩:=Qu_ (HV.o.next j.o) g4 h;subst e5;injection A with A;injection A with e61 e62;subst e61;subst e62;have i3:(k0:Int)<(n:Int):=oo;have i4:(z:Int)<(n:Int):=oo;by_cases g5:0<y0
    ·by_cases g6:y1=0
     ·subst g6;have a:=h_ (show K5_ P.l3 v=φ by rw[q.o,QeG_ g g5 h];rfl);go_wp2_with (go_at_call 62;(first|(with_reducible refine(Q2_ c.o _).mono ?_)|(with_reducible refine(Q2_ b.o _).mono ?_));rintro e w1 ⟨rfl,rfl⟩);go_ret;exact⟨Qg_ a.o.symm,j.o.alloc f _⟩
     have l:=h_<|QeE_ (x0:=(k0:Int)) h g6;have a:=h_ (show K5_ P.l3 v=K5_ (P.l3.drop (i+1)) v by rw[q.o,l.o];rfl);go_wp2_with (go_at_call 62;(first|(with_reducible refine(Q2_ c.o _).mono ?_)|(with_reducible refine(Q2_ b.o _).mono ?_));rintro e w1 ⟨rfl,rfl⟩)
     exact⟨⟨i+1,oo,by go_num,a,h_ (m.o.alloc _),h_ (j.o.alloc f _)⟩,ms_⟩
    have l:=h_<|QeD_ (x1:=(z:Int)) g g5;have a:=h_ (show K5_ P.l3 v=K5_ (P.l3.drop (i+1)) v by rw[q.o,l.o];rfl);go_wp2_with (go_at_call 62;(first|(with_reducible refine(Q2_ c.o _).mono ?_)|(with_reducible refine(Q2_ b.o _).mono ?_));rintro e w1 ⟨rfl,rfl⟩)
    exact⟨⟨i+1,oo,by go_num,a,h_ (m.o.alloc _),h_ (j.o.alloc f _)⟩,ms_⟩
   have b:=h_<|inBF o;have l:=h_<|QeC_ (v:=v) (x0:=x0) (x1:=x1) (by rw[k.o];exact o);have a:=h_ (show K5_ P.l3 v=K5_ (P.l3.drop (i+1)) v by rw[q.o,l.o];rfl);go_wp2_with (go_at_call 62;(first|(with_reducible refine(Q2_ c.o _).mono ?_)|(with_reducible refine(Q2_ b.o _).mono ?_));rintro e w1 ⟨rfl,rfl⟩)
   exact⟨⟨i+1,oo,by go_num,a,h_ (m.o.alloc _),h_ (j.o.alloc f _)⟩,ms_⟩
  have c:=h_<|inBF t;have l:=h_<|QeB_ (v:=v) (x0:=x0) (x1:=x1) (by rw[k.o];exact t);by_cases o:0<=x1/\x1<=(n:Int)-1
  ·have b:=h_ (inBT o);have a:=h_ (show K5_ P.l3 v=K5_ (P.l3.drop (i+1)) v by rw[q.o,l.o];rfl);go_wp2_with (go_at_call 62;(first|(with_reducible refine(Q2_ c.o _).mono ?_)|(with_reducible refine(Q2_ b.o _).mono ?_));rintro e w1 ⟨rfl,rfl⟩);exact⟨⟨i+1,oo,by go_num,a,h_ (m.o.alloc _),h_ (j.o.alloc f _)⟩,ms_⟩
  have b:=h_<|inBF o;have a:=h_ (show K5_ P.l3 v=K5_ (P.l3.drop (i+1)) v by rw[q.o,l.o];rfl);go_wp2_with (go_at_call 62;(first|(with_reducible refine(Q2_ c.o _).mono ?_)|(with_reducible refine(Q2_ b.o _).mono ?_));rintro e w1 ⟨rfl,rfl⟩)
  exact⟨⟨i+1,oo,by go_num,a,h_ (m.o.alloc _),h_ (j.o.alloc f _)⟩,ms_⟩
 obtain rfl:i=N:=oo;have a:=h_ (show K5_ P.l3 v=τ by rw[HE.o,List.drop_of_length_le (by rw[HN.o];exact lr_ _)];rfl);go_wp2;go_ret;exact⟨Qg_ a.o.symm,j.o⟩
def GG_ (P:Hn) (A0 A1 A2 A3:OA) (c0 c1 c2 c3:Nat) (V:OA) (n cv:Nat) (v:LI) (q:Nat) (c:ChunkD) (w:Ω) (hM:PcM P A0 A1 A2 A3 w) (hO:PcOk P) (j:Rd w 1 V n (Qa_ v)) (hn:n<=8) (i:P.l1[q]? =σ c) (g:0<=c.2.1/\c.2.1<(n:Int)):
  Δ π 148 #[A_ (pcCells P A0 A1 A2 A3 c0 c1 c2 c3),S_ V n cv,I_ j_ q] w (RB_ (B_ (ZE_ v c)) w):=by
 obtain⟨x0,x1,o,x3,x4⟩:=c;dsimp only at g;have h:=hO.n1;have l:η v=n:=K2_ j;have a:=(gs_.1 i).1;obtain⟨b,off,e1,hb,f,r,s,t,x⟩:=Zk_ hM.r1 a i;subst e1;obtain⟨k,rfl⟩:=eo_ g.1;have hk:k<n:=oo;obtain⟨y,m⟩:∃y,v[k]? =σ y:=⟨_,gE oo⟩;obtain⟨b5,p,e5,A,z⟩:=Qu_ j hk m;subst e5;have HV:=h_ (show ZE_ v (x0,(k:Int),o,x3,x4)=decide (o<=y)from by unfold ZE_;rw[WR_ m]);rw[HV.o];obtain⟨N,hN⟩:=ex_ (η P.l1);unfold pcCells;rw[hN]at h a |-
 have B:(k:Int)<(n:Int):=oo;have C:(q:Int)<(N:Int):=oo;by_cases d:o<=y
 ·rw[dt_ d];go_in;go_wp2
  go_region
  try go_wp2
  exact Ξ
 rw[df_ d];go_in;go_wp2
 go_region
 try go_wp2
 go_ret;exact⟨Qg_ (df_ oo),grow_⟩
def zv_ (P:Hn) (A0 A1 A2 A3:OA) (c0 c1 c2 c3:Nat) (V:OA) (n cv:Nat) (v:LI) (q:Nat) (c:ChunkD) (w:Ω) (hM:PcM P A0 A1 A2 A3 w) (hO:PcOk P) (j:Rd w 1 V n (Qa_ v)) (hn:n<=8) (i:P.l1[q]? =σ c) (g:0<=c.2.1/\c.2.1<(n:Int)):
  Δ π 253 #[A_ (pcCells P A0 A1 A2 A3 c0 c1 c2 c3),S_ V n cv,I_ j_ q] w (RB_ (B_ (ZE_ v c)) w):=by
 obtain⟨x0,x1,o,x3,x4⟩:=c;dsimp only at g;have h:=hO.n1;have l:η v=n:=K2_ j;have a:=(gs_.1 i).1;obtain⟨b,off,e1,hb,f,r,s,t,x⟩:=Zk_ hM.r1 a i;subst e1;obtain⟨k,rfl⟩:=eo_ g.1;have hk:k<n:=oo;obtain⟨y,m⟩:∃y,v[k]? =σ y:=⟨_,gE oo⟩;obtain⟨b5,p,e5,A,z⟩:=Qu_ j hk m;subst e5;have HV:=h_ (show ZE_ v (x0,(k:Int),o,x3,x4)=decide (o<=y)from by unfold ZE_;rw[WR_ m]);rw[HV.o];obtain⟨N,hN⟩:=ex_ (η P.l1);unfold pcCells;rw[hN]at h a |-
 have B:(k:Int)<(n:Int):=oo;have C:(q:Int)<(N:Int):=oo;by_cases d:o<=y
 ·rw[dt_ d];go_in;go_wp2
  go_region
  try go_wp2
  exact Ξ
 rw[df_ d];go_in;go_wp2
 go_region
 try go_wp2
 go_ret;exact⟨Qg_ (df_ oo),grow_⟩
def Qcj_ (h:0<n) (hi:n<=1048576):Δ π 297 #[I_ j_ n] m (RS_ (I_ j_ (upN n:Nat)) m):=by
 have HU:=h_ (show((upN n:Nat):Int)=((n:Int)+1) / 2-1 by unfold upN;omega);go_in;go_wp2;go_ret;exact⟨Kx_ (by rw[HU.o]),rfl⟩
structure PcR (P:Hn):Prop extends PcOk P where
 m:0<=P.m/\P.m<=60
 one:1<=η P.l1
 text:∀c∈P.l1,c.1.size<=Xj_
 split:∀i c,P.l1[i]? =σ c->i+1<η P.l1->0<=c.2.1/\c.2.1<(η P.l0:Int)
 nest:∀c∈P.l1,0<=c.2.2.2.2/\c.2.2.2.2<=40
 span:∀d∈P.l2,(0<=d.1/\d.1<=d.2.1)/\(d.2.1+1<(η P.l1:Int))/\(0<=d.2.2/\d.2.2<=9)
 few:∀d∈P.l0,d.1<=3
def ValR (P:Hn) (v:LI):Prop:=η v<=η P.l0/\∀y∈v,0<=y/\y<=3
/-! ### Is a span split -/
def Xl_ (l1:List ChunkD) (v:LI) (a i:Nat):Bool:=(List.range' a (i-a)).any (kB_ l1 v)
def Gp_ (l1:List ChunkD) (v:LI) (a:Nat):Xl_ l1 v a a=φ:=by unfold Xl_;rw[Nat.sub_self];rfl
def Yj_ (l1:List ChunkD) (v:LI) (h:i<=k):Xl_ l1 v i (k+1)=(Xl_ l1 v i k||kB_ l1 v k):=by
 unfold Xl_;rw[show k+1-i=(k-i)+1 from oo,List.range'_concat,List.any_append,show i+1*(k-i)=k from oo];simp
def U0_ (l1:List ChunkD) (v:LI) {c:Int} (h:i<=k):Xl_ l1 v i (k+1)=hitS l1 v ((i:Int),(k:Int),c):=by
 unfold Xl_ hitS;dsimp only;rw[it_,show((k:Int)+1-(i:Int)).toNat=k+1-i from oo]
def Qa1_ (l1:List ChunkD) (v:LI) (b:k<=j) (h:Xl_ l1 v i k=τ):Xl_ l1 v i j=τ:=by
 obtain⟨d,rfl⟩:=Nat.exists_eq_add_of_le b;clear b
 induction d with
 |zero=>exact h
 |succ d ih=>
  by_cases ha:i<=k+d
  ·rw[<-Nat.add_assoc,Yj_ l1 v ha,ih];rfl
  unfold Xl_ at h;rw[show k-i=0 from oo]at h;cases h
def vM_ {l1:List ChunkD} {v:LI} {c:ChunkD} (h:l1[i]? =σ c) (hr:¬c.2.1<(η v:Int)):kB_ l1 v i=φ:=by
 unfold kB_;rw[h];dsimp only;rw[df_ hr];rfl
def qn_ {l1:List ChunkD} {v:LI} {c:ChunkD} (h:l1[i]? =σ c) (hr:c.2.1<(η v:Int)):kB_ l1 v i=ZE_ v c:=by
 unfold kB_;rw[h];dsimp only;rw[dt_ hr];rfl
/-! ### Sums as one goes -/
def GC_ {l0:List RuleD} (h:l0[i]? =σ (a,b)) (hv:v[i]? =σ s):Vs_ (l0.drop i) (v.drop i)=s*b+Vs_ (l0.drop (i+1)) (v.drop (i+1)):=by
 obtain⟨h1,h2⟩:=gs_.1 h;obtain⟨h3,h4⟩:=gs_.1 hv;rw[List.drop_eq_getElem_cons h1,h2,List.drop_eq_getElem_cons h3,h4]
 rfl
def Js_ {l0:List RuleD} (h:η v<=i):Vs_ (l0.drop i) (v.drop i)=0:=by
 rw[List.drop_of_length_le h]
 cases l0.drop i with
 |nil=>rfl
 |cons a r=>obtain⟨a,b⟩:=a;rfl
def Qb0_ {l1:List ChunkD} {l2:List SpanD}  {d:SpanD} (h:l2[i]? =σ d):Zu_ l1 v (l2.drop i)=(if hitS l1 v d=τ then d.2.2 else 0)+Zu_ l1 v (l2.drop (i+1)):=by
 obtain⟨h1,h2⟩:=gs_.1 h;unfold Zu_;rw[List.drop_eq_getElem_cons h1,h2,List.map_cons,List.sum_cons]
def Jt_ {l1:List ChunkD} {l2:List SpanD}  (h:η l2<=i):Zu_ l1 v (l2.drop i)=0:=by
 rw[List.drop_of_length_le h];rfl
def Wl_ (hy:0<=a/\a<=3) (y:0<=b/\b<=1000):0<=a*b/\a*b<=3000:=by
 have h1:0<=a*b:=Int.mul_nonneg hy.1 y.1;have h2:a*b<=3*1000:=Int.mul_le_mul hy.2 y.2 y.1 oo;omega
def YZ_ (t:BA):Bool:=match t.data.toList.getLast? with|some c=>c==61|none=>φ
def evP (a:BA) (k:Int):List Bv:=(if YZ_ a=τ then [.rule 2 2,.split 1 τ 4]else [])++[.kid k 0]
def J9_ (a:BA):Pb:=⟨[],[],[],[],a⟩
def XZ_ (ps:List PN) (f:Nat) (a:BA) (k:Int):Pb:=(VL_ (QR_ ps f) (J9_ a,-1) (evP a k)).1
def hnOf (s:Pb) (a:BA) (m width:Int):Hn:=⟨m,s.rules,s.chunks++[(s.text++a,0,0,φ,0)],s.spans,s.ties,width⟩
/-! ### All text of a builder -/
def KB_ (l:List ChunkD):Nat:=(l.map (λc=>c.1.size)).sum
def tot (s:Pb):Nat:=KB_ s.chunks+s.text.size
def GP_ (l:List ChunkD) (c:ChunkD):KB_ (l++[c])=KB_ l+c.1.size:=by simp[KB_]
def je_ {l:List ChunkD} {c:ChunkD} (h:c∈l):c.1.size<=KB_ l:=Qbx_ (λc:ChunkD=>c.1.size) h
def Qch_ (W:Nat) (ps:List PN) (f:Nat->Int->Pb->Pb):Prop:=∀k ne s,tot (f k ne s)<=tot s+Kk_ ps k*W
def Qel_ (s:Pb) (r a:Int) (sp:Bool) (ne:Int):tot (s.split r a sp ne)<=tot s+1:=by
 unfold Pb.split tot;split
 ·show KB_ (s.chunks++[_])+0<=_;rw[GP_];show KB_ s.chunks+s.text.size+0<=_;omega
 split
 ·show KB_ s.chunks+(s.text++⟨#[32]⟩).size<=_;rw[bs_];show KB_ s.chunks+(s.text.size+1)<=_;omega
 omega
def Qgb_ (f:Nat->Int->Pb->Pb) (s:Pb) (r j ne:Int) (ti sp:Bool):tot (Jw_ f s r j ne ti sp)=tot (f j.toNat ne s):=by
 unfold tot;rw[xP_,WQ_]
def Qf2_ {f:Nat->Int->Pb->Pb} (hf:Qch_ i t f) (s:Pb × Int) (e:Bv):tot (Jv_ f s e).1<=tot s.1+wB i t e:=by
 cases e with
 |put W=>show KB_ s.1.chunks+(s.1.text++W).size<=_;rw[bs_];show _<=KB_ s.1.chunks+s.1.text.size+W.size;omega
 |rule v c=>show tot (s.1.rule v c)<=_;unfold tot;rw[xs_,Wy_];exact Nat.le_add_right _ _
 |split a sp b=>exact Qel_ _ _ _ _ _
 |kid j b=>exact hf _ _ _
 |tied j b ti sp=>show tot (Jw_ f s.1 s.2 j b ti sp)<=_;rw[Qgb_];exact hf _ _ _
def Qd7_ {W:Nat} {f:Nat->Int->Pb->Pb} (hf:Qch_ W t f):∀(es:List Bv) (s:Pb × Int),tot (VL_ f s es).1<=tot s.1+wS W t es:=by
 intro es
 induction es with
 |nil=>intro s;exact Nat.le_add_right _ _
 |cons e es ih=>
  intro s;rw[XQ_,Ky_];have h1:=ih<|Jv_ f s e;have h2:=Qf2_ hf s e;omega
def QhT_ {W:Nat} (hW:2000000<=W) (hF:TreeF t i) (hp:PNs t):∀f,Qch_ W t (QR_ t f):=by
 intro f
 induction f with
 |zero=>intro k b s;exact Nat.le_add_right _ _
 |succ f ih=>
  intro k b s
  cases a:t[k]? with
  |none=>unfold QR_;rw[a];exact Nat.le_add_right _ _
  |some p=>
   rw[KX_ a];have h1:=Qd7_ ih (evsB t p b) (s,-1);have h2:=Gn_ hW hF hp a b;dsimp only at h1;omega
def zr_ (ps:List PN) (a:BA) (k:Nat):wS n ps (evP a (k:Int))<=1+Kk_ ps k*n:=by
 unfold evP;rw[WU_];have:wS n ps [Bv.kid (k:Int) 0]=Kk_ ps k*n:=by rw[Ky_];show Kk_ ps (k:Int).toNat*n+0=_;rw[it_,Nat.add_zero]
 rw[this];split
 ·show 0+(1+0)+_<=_;omega
 show 0+_<=_;omega
def UO_ (hF:TreeF t i) (hp:PNs t) (f:Nat) (a:BA) (k:Nat):tot (XZ_ t f a (k:Int))<=a.size+1+Kk_ t k*2000000:=by
 have h1:=Qd7_ (QhT_ (W:=2000000) oo hF hp f) (evP a (k:Int)) (J9_ a,-1);have h2:=zr_ 2000000 t a k;have h3:tot (J9_ a)=a.size:=by show 0+a.size=_;omega
 unfold XZ_;dsimp only at h1;omega
def VD_ (hF:TreeF t i) {f:Nat} (c:f<=i+1) {b:BA} (hp:QV_ b=τ) {k:Nat} (hk:k<f) (hv:QI_ (Qc_ t (k:Int))):OkP (XZ_ t f b (k:Int)):=by
 refine Qgv_ (QiK_ hF f c) _ (J9_ b,-1) 2 ⟨?_,?_,?_,?_,?_,?_,?_,?_,hp⟩ (.inl rfl) ?_
 ·intro d hd;cases hd
 ·exact lz_ _
 ·intro d hd;cases hd
 ·exact lz_ _
 ·intro d hd;cases hd
 ·exact lz_ _
 ·intro d hd;cases hd
 ·exact lz_ _
 unfold evP;have a:WW_ t f 2 [.kid (k:Int) 0]:=⟨⟨⟨oo,oo⟩,hv,oo⟩,trivial⟩;split
 ·exact⟨⟨⟨oo,oo⟩,oo,oo⟩,⟨⟨oo,oo⟩,oo⟩,a⟩
 exact a
def Qfn_ {s:Pb} (h:OkP s) {b:BA} {m width:Int} (hm:0<=m/\m<=60) (ht:tot s+b.size<=Xj_):PcR (hnOf s b m width):=by
 have f:(s.chunks++[((s.text++b,0,0,φ,0):ChunkD)]).length=η s.chunks+1:=by simp
 have hc:=h.c79;unfold tot at ht;refine { n0:=h.r8,n1:=by show(s.chunks++[_]).length<=80;rw[f];omega,n2:=h.s40,n3:=h.t20,rule:=?_,m:=hm,one:=by show 1<=(s.chunks++[_]).length;rw[f];omega,text:=?_,split:=?_,nest:=?_,span:=?_,few:=?_ }
 ·intro d hd;have:=h.rules d hd;exact⟨oo,oo,oo,oo⟩
 ·intro c a;rcases List.mem_append.1 a with a|a
  ·have:=je_ a;omega
  obtain rfl:=ms1_.1 a;show(s.text++b).size<=_;rw[bs_];omega
 ·intro i c hi k;have j:i<η s.chunks:=by
   have:i+1<η s.chunks+1:=(by rw[<-f];exact k);omega
  have hi2:s.chunks[i]? =σ c:=by
   have:=hi;rwa[show(hnOf s b m width).l1=s.chunks++[(s.text++b,0,0,φ,0)]from rfl,List.getElem?_append_left j]at this
  have g:=(h.chunks c (lm_ hi2)).2;unfold KW_ at g;simp only[τa]at g;have:=Yl_ g.1.1;exact⟨this.1,by show _<(η s.rules:Int);omega⟩
 ·intro c a;rcases List.mem_append.1 a with a|a
  ·have g:=(h.chunks c a).2;unfold KW_ at g;simp only[τa]at g;exact Yl_ g.1.2
  obtain rfl:=ms1_.1 a;exact⟨by show(0:Int)<=0;omega,by show(0:Int)<=40;omega⟩
 ·intro d hd;have:=h.spans d hd;have e:(hnOf s b m width).l1.length=η s.chunks+1:=f;rw[e];refine⟨⟨this.1,this.2.1⟩,by have:=this.2.2.1;omega,?_⟩;have:=this.2.2.2;omega
 intro d hd;have:=h.rules d hd;omega
/-! ### Statements -/
inductive Wv
 |line (t:BA)
 |val (pre:BA) (k:Int) (post:BA)
 |all (l:LI)
abbrev Ws:=List BA × Int
structure Wp where
 ps:List PN
 m:Nat
 width:Int
 budget:Int
def WX_ (s:Ws) (ls:List BA) (st:Int):Ws:=(s.1++ls,if st=2 then 2 else s.2)
def KZ_ (Q:Wp) (c:BA) (k:Int) (b:BA) (a:Int):Hn:=hnOf (XZ_ Q.ps (Q.m+1) c k) b a Q.width
def valW (Q:Wp) (s:Ws) (c:BA) (k:Int) (b:BA) (a:Int):Ws:=
 let P:=KZ_ Q c k b a
 let r:=KU_ P Q.budget
 WX_ s (YI_ P.m P.l1 r.1) r.2
def X4_ (ps:List PN) (v:Int):Bool:=(ndAt ps v.toNat).blank
def QC_ (ps:List PN) (v:Int):LI:=(ndAt ps v.toNat).kids
def oneW (Q:Wp) (f:Nat->Int->Ws->Ws) (a:Int) (s:Ws) (v:Int):Ws:=f v.toNat a (if X4_ Q.ps v=τ then WX_ s [⟨#[]⟩] 1 else s)
def Wg_ (Q:Wp) (f:Nat->Int->Ws->Ws) (a:Int) (s:Ws) (l:LI):Ws:=l.foldl (oneW Q f a) s
def Qen_ (Q:Wp) (f:Nat->Int->Ws->Ws) (a:Int) (s:Ws):Wv->Ws
 |.line t=>WX_ s [QK_ a++t] 1
 |.val pre k post=>valW Q s pre k post a
 |.all l=>Wg_ Q f (a+2) s l
def runW (Q:Wp) (f:Nat->Int->Ws->Ws) (a:Int) (s:Ws) (es:List Wv):Ws:=es.foldl (Qen_ Q f a) s
def Qd5_ (Q:Wp) (f:Nat->Int->Ws->Ws) (a:Int) (s:Ws) (e:Wv) (es:List Wv):runW Q f a s (e::es)=runW Q f a (Qen_ Q f a s e) es:=rfl
def k_ (l:LI) (i:Nat):Int:=l.getD i 0
def brT:BA:=⟨#[125]⟩
def evsW (ps:List PN) (x:PN):List Wv:=
 if x.kind=19 then [.line x.text]
 else if x.kind=12 then (if x.kids=[]then [.line (⟨#[118,97,114,32]⟩++x.text++⟨#[59]⟩)]else [.val (⟨#[118,97,114,32]⟩++x.text++⟨#[32,61]⟩) (k_ x.kids 0) ⟨#[59]⟩])
 else if x.kind=13 then [.val (x.text++⟨#[32,61]⟩) (k_ x.kids 0) ⟨#[59]⟩]
 else if x.kind=14 then [.val ⟨#[]⟩ (k_ x.kids 0) ⟨#[59]⟩]
 else if x.kind=15 then (if x.kids=[]then [.line ⟨#[114,101,116,117,114,110,59]⟩]else [.val ⟨#[114,101,116,117,114,110,32]⟩ (k_ x.kids 0) ⟨#[59]⟩])
 else if x.kind=16 then [.val ⟨#[105,102,32,40]⟩ (k_ x.kids 0) ⟨#[41,32,123]⟩,.all (QC_ ps (k_ x.kids 1))]++((if η x.kids=3 then [.line ⟨#[125,32,101,108,115,101,32,123]⟩,.all (QC_ ps (k_ x.kids 2))]else [])++[.line brT])
 else if x.kind=17 then [.val ⟨#[119,104,105,108,101,32,40]⟩ (k_ x.kids 0) ⟨#[41,32,123]⟩,.all (QC_ ps (k_ x.kids 1)),.line brT]
 else if x.kind=20 then [.line (x.text++⟨#[40]⟩++Q5_ ((x.kids.take (η x.kids-1)).map (QE_ ps))++⟨#[41,32,123]⟩),.all (QC_ ps (k_ x.kids (η x.kids-1))),.line brT]
 else if x.kind=21 then [.line (⟨#[99,108,97,115,115,32]⟩++x.text++⟨#[32,123]⟩),.all x.kids,.line brT]
 else []
def ZN_ (Q:Wp):Nat->Nat->Int->Ws->Ws
 |0,_,_,s=>s
 |f+1,k,a,s=>match Q.ps[k]? with|none=>s|some x=>runW Q (ZN_ Q f) a s (evsW Q.ps x)
def zK_ {Q:Wp} {x:PN} (h:Q.ps[k]? =σ x) (a:Int) (s:Ws):ZN_ Q (i+1) k a s=runW Q (ZN_ Q i) a s (evsW Q.ps x):=by
 conv=>lhs;unfold ZN_
 rw[h]
def Ja_ (Q:Wp):Ws:=Wg_ Q (ZN_ Q (Q.m+1)) 0 ([],1) (QC_ Q.ps (Q.m:Int))
def Jk_ (l:List BA):List UInt8:=l.flatMap (λs=>s.data.toList++[10])
def v1_ {l:List SSt} {x:SSt} (h:x∈xM_ l i k):x∈l:=by
 unfold xM_ at h;split at h
 ·rename_i a b ha hb;rcases List.mem_or_eq_of_mem_set h with h|rfl
  ·rcases List.mem_or_eq_of_mem_set h with h|rfl
   ·exact h
   exact lm_ hb
  exact lm_ ha
 exact h
def QdE_:∀(f:Nat) {l:List SSt} {i:Nat} {x:SSt},x∈YN_ f l i->x∈l:=by
 intro f
 induction f with
 |zero=>intro l i x h;exact h
 |succ f ih=>
  intro l i x h;unfold YN_ at h;split at h
  ·exact v1_<|ih h
  exact h
def QdD_:∀(f:Nat) {l:List SSt} {i:Nat} {x:SSt},x∈Y7_ f l i->x∈l:=by
 intro f
 induction f with
 |zero=>intro l i x h;exact h
 |succ f ih=>
  intro l i x h;unfold Y7_ at h;split at h
  ·exact v1_<|ih h
  exact h
def QfF_ {l:List SSt} {x y:SSt} (h:x∈Wu_ l y):x∈l\/x=y:=by
 have:=QdE_ _ h;simpa using this
def Qhn_ {l:List SSt} {x:SSt} (h:x∈Vr_ l):x∈l:=by
 have h1:=List.mem_of_mem_take<|QdD_ _ h;rcases List.mem_or_eq_of_mem_set h1 with h2|rfl
 ·exact h2
 cases l with
 |nil=>simp at h1
 |cons a r=>
  rw[List.getD_eq_getElem?_getD,List.getElem?_eq_getElem sm_];exact List.getElem_mem _
def Jr_ (P:Hn) (cost:Int × Int) (x:LI) (h:List SSt) (k:Nat):List SSt:=(List.range k).foldl (Jq_ P cost x) h
def VI_ (P:Hn) (cost:Int × Int) (x:LI) (h:List SSt) (k:Nat):Jr_ P cost x h (k+1)=Jq_ P cost x (Jr_ P cost x h k) k:=by
 unfold Jr_;rw[List.range_succ,List.foldl_append];rfl
def QdN_ {P:Hn} {cost:Int × Int} {h:List SSt}:∀(k:Nat) {y:SSt},y∈Jr_ P cost v h k->y∈h\/∃q:Nat,q<k/\y.1=v++[(q:Int)]:=by
 intro k
 induction k with
 |zero=>intro y a;exact .inl a
 |succ k ih=>
  intro y a;rw[VI_]at a;have hk:∀{y:SSt},y∈Jr_ P cost v h k->y∈h\/∃q:Nat,q<k+1/\y.1=v++[(q:Int)]:=λb=>by
   rcases ih b with h3|⟨q,h3,h4⟩
   ·exact .inl h3
   exact .inr ⟨q,oo,h4⟩
  unfold Jq_ at a;dsimp only at a;split at a
  ·exact hk a
  rcases QfF_ a with b|rfl
  ·exact hk b
  exact .inr ⟨k,oo,rfl⟩
def xl_ {P:Hn} {cost:Int × Int} {x:LI} {h:List SSt}:∀(k:Nat),(Jr_ P cost x h k).length<=η h+k:=by
 intro k
 induction k with
 |zero=>exact lr_ _
 |succ k ih=>
  rw[VI_];unfold Jq_;dsimp only;split
  ·omega
  rw[QdX_];omega
def HeapR (P:Hn) (h:List SSt):Prop:=∀x∈h,ValR P x.1
def ValR.snoc {P:Hn} (hP:PcR P) (h:ValR P v) (hl:η v<η P.l0) {d:RuleD} (hd:P.l0[η v]? =σ d)  (hq:i<d.1.toNat):ValR P (v++[(i:Int)]):=by
 refine⟨by simp;omega,λy a=>?_⟩;rcases List.mem_append.1 a with a|a
 ·exact h.2 y a
 obtain rfl:=ms1_.1 a;have:=hP.few d (lm_ hd);omega
def HeapR.open_ {P:Hn} (hP:PcR P) {h:List SSt} (hh:HeapR P h) (hv:ValR P v) {d:RuleD} (hd:P.l0[η v]? =σ d) {cost:Int × Int}  (hk:i<=d.1.toNat):HeapR P (Jr_ P cost v h i):=λx hx=>by
 have hl:=(gs_.1 hd).1;rcases QdN_ i hx with h1|⟨q,h1,h2⟩
 ·exact hh x h1
 rw[h2];exact hv.snoc hP hl hd oo
def JZ_ {P:Hn} {d:RuleD} (hd:P.l0[η v]? =σ d) (cost:Int × Int) (h:List SSt):QbJ_ P cost v h=Jr_ P cost v h d.1.toNat:=by
 unfold QbJ_;rw[hd];rfl
def HeapR.pop {P:Hn} {h:List SSt} (hh:HeapR P h):HeapR P (Vr_ h):=λx hx=>hh x (Qhn_ hx)
def Gg_ {P:Hn} (hP:PcR P):ValR P (Ui_ P.l0):=⟨Nat.le_of_eq (VC_ _),λy hy=>by
 obtain⟨d,hd,rfl⟩:=List.mem_map.1 hy;have h1:=hP.rule d hd;have h2:=hP.few d hd;omega⟩
def qS_ {P:Hn} (hP:PcR P):∀(n:Nat) (best:LI) (cost:Int × Int) (h:List SSt),ValR P best->η best=η P.l0->HeapR P h->ValR P (KJ_ P n best cost h).1/\(KJ_ P n best cost h).1.length=η P.l0:=by
 intro n
 induction n with
 |zero=>intro best cost h a hl b;unfold KJ_;split<;>exact⟨a,hl⟩
 |succ n e=>
  intro best cost h a hl b;unfold KJ_
  cases h with
  |nil=>exact⟨a,hl⟩
  |cons x r=>
   dsimp only;have d:=b x sm_;split
   ·rename_i he;split
    ·exact e _ _ _ d he b.pop
    exact e _ _ _ a hl b.pop
   rename_i he;have c:x.1.length<η P.l0:=(by have:=d.1;omega);have hd:=List.getElem?_eq_getElem c;rw[JZ_ hd];exact e _ _ _ a hl<|b.pop.open_ hP d hd<|lr_ _
def G5_ {P:Hn} (hP:PcR P) (b:Int):ValR P (KU_ P b).1/\(KU_ P b).1.length=η P.l0:=
 qS_ hP _ _ _ _ (Gg_ hP) (VC_ _) (λx hx=>by obtain rfl:=ms1_.1 hx;exact⟨lz_ _,λy hy=>by cases hy⟩)
def G6_ (P:Hn) (b:Int):(KU_ P b).2=1\/(KU_ P b).2=2:=by
 have:∀(n:Nat) (best:LI) (cost:Int × Int) (h:List SSt),(KJ_ P n best cost h).2=1\/(KJ_ P n best cost h).2=2:=by
  intro n
  induction n with
  |zero=>intro best cost h;unfold KJ_;split<;>simp
  |succ n ih=>
   intro best cost h;unfold KJ_
   cases h with
   |nil=>simp
   |cons x r=>
    dsimp only;split
    ·split<;>exact ih _ _ _
    exact ih _ _ _
 exact this _ _ _ _
/-! ### How much text -/
def szL (l:List BA):Nat:=(l.map (λs=>s.size+1)).sum
def VP_ (s:BA) (l:List BA):szL (s::l)=s.size+1+szL l:=by simp[szL]
def Qez_ (a b:List BA):szL (a++b)=szL a+szL b:=by simp[szL]
def Ya_ (l:List BA):η l<=szL l:=by
 induction l with
 |nil=>exact lz_ _
 |cons s l ih=>rw[VP_,List.length_cons];omega
def QbO_ {v:LI} (hm:0<=a/\a<=60):∀(l:List ChunkD) (s:BA),(∀c∈l,0<=c.2.2.2.2/\c.2.2.2.2<=40)->szL (Y6_ a v l s)<=s.size+1+(KB_ l+η l*102):=by
 intro l
 induction l with
 |nil=>intro s _;show s.size+1+0<=_;omega
 |cons c r ih=>
  intro s hc;have h1:=hc c sm_;have hr:∀d∈r,0<=d.2.2.2.2/\d.2.2.2.2<=40:=λd hd=>hc d (by simp[hd])
  have e:KB_ (c::r)=c.1.size+KB_ r:=by simp[KB_]
  rw[e,List.length_cons,Nat.add_mul];unfold Y6_;split
  ·rw[VP_,bs_];show _+0<=_;omega
  split
  ·rw[VP_,bs_];have h2:=ih (QK_ (a+c.2.2.2.2)) hr;rw[Kc_]at h2;omega
  have h2:=ih (s++c.1++(if c.2.2.2.1=τ then ⟨#[32]⟩else ⟨#[]⟩)) hr;have h3:(s++c.1++(if c.2.2.2.1=τ then (⟨#[32]⟩:BA)else ⟨#[]⟩)).size<=s.size+c.1.size+1:=by
   rw[bs_,bs_];split
   ·exact lr_ _
   exact Nat.le_add_right _ _
  omega
def xq_ {P:Hn} (a:PcR P) (v:LI):szL (YI_ P.m P.l1 v)<=KB_ P.l1+8300:=by
 have h1:=QbO_ (v:=v) a.m P.l1 (QK_ P.m) a.nest;rw[Kc_]at h1;have h2:=a.m;have h3:=a.n1;unfold YI_;omega
def XS_ (k:Int):Prop:=(12<=k/\k<=17)\/k=19\/k=20\/k=21
inductive StF (ps:List PN):Int->LI->Prop
 |note:StF ps 19 []
 |var0:StF ps 12 []
 |var1 (v:Int) (hv:QI_ (Qc_ ps v)):StF ps 12 [v]
 |set_ (v:Int) (hv:QI_ (Qc_ ps v)):StF ps 13 [v]
 |do_ (v:Int) (hv:QI_ (Qc_ ps v)):StF ps 14 [v]
 |ret0:StF ps 15 []
 |ret1 (v:Int) (hv:QI_ (Qc_ ps v)):StF ps 15 [v]
 |if2 (v b:Int) (hv:QI_ (Qc_ ps v)) (hb:Qc_ ps b=18):StF ps 16 [v,b]
 |if3 (v b c:Int) (hv:QI_ (Qc_ ps v)) (hb:Qc_ ps b=18) (hc:Qc_ ps c=18):StF ps 16 [v,b,c]
 |while_ (v b:Int) (hv:QI_ (Qc_ ps v)) (hb:Qc_ ps b=18):StF ps 17 [v,b]
 |meth (l:LI) (b:Int) (hn:∀u∈l,Qc_ ps u=1) (hb:Qc_ ps b=18):StF ps 20 (l++[b])
 |cls (l:LI) (h:∀v∈l,XS_ (Qc_ ps v)):StF ps 21 l
def x5_ {ps:List PN} {l:LI} (h:(Qe_ ps l).all (isK 18)=τ):∀v∈l,Qc_ ps v=18:=λv hv=>by
 have:=List.all_eq_true.1 h _ (List.mem_map.2 ⟨v,hv,rfl⟩);simpa[isK]using this
def zF_ (h:Ka_ a=τ):XS_ a:=by
 unfold Ka_ at h;unfold XS_;simp only[Bool.or_eq_true,beq_iff_eq]at h;omega
def Qf5_ (h:ZR_ a=τ):XS_ a:=by
 unfold ZR_ VW_ at h;unfold XS_;simp only[Bool.or_eq_true,beq_iff_eq]at h;rcases h with h|h
 ·have:=Yl_ h;omega
 omega
def QhS_ (h:xR_ a=τ):XS_ a:=by
 unfold xR_ at h;simp only[Bool.or_eq_true,beq_iff_eq]at h;rcases h with h|h
 ·exact zF_ h
 unfold XS_;omega
def x6_ {p:Int->Bool} (hp:∀k,p k=τ->XS_ k) (h:(Qe_ t v).all p=τ):∀ps∈v,XS_ (Qc_ t ps):=λps hv=>
 hp _ (List.all_eq_true.1 h _ (List.mem_map.2 ⟨ps,hv,rfl⟩))
def Qem_ {ps:List PN} {x:PN} (hb:Za_ ps i=τ) (hx:ps[i]? =σ x) (hv:XS_ x.kind):StF ps x.kind x.kids:=by
 have a:=(K0_ hb hx).2.1;obtain⟨kd,t,l,z⟩:=x;simp only at a hv |-
 have hl:(Qe_ ps l).length=η l:=List.length_map ..;have h2:kd=12\/kd=13\/kd=14\/kd=15\/kd=16\/kd=17\/kd=19\/kd=20\/kd=21:=by unfold XS_ at hv;omega
 rcases h2 with rfl|rfl|rfl|rfl|rfl|rfl|rfl|rfl|rfl<;>simp only[kfB,Int.reduceEq,or_self,or_true,true_or,or_false,false_or,if_true,if_false,hl,τa,decide_eq_true_eq]at a
 ·obtain⟨h1,d⟩:=a;have g:=Z5_ d
  match l,h1 with
  |[],_=>exact .var0
  |[v],_=>exact .var1 v (g v sm_)
 ·obtain⟨h1,d⟩:=a;have g:=Z5_ d
  match l,h1 with
  |[v],_=>exact .set_ v (g v sm_)
 ·obtain⟨h1,d⟩:=a;have g:=Z5_ d
  match l,h1 with
  |[v],_=>exact .do_ v (g v sm_)
 ·obtain⟨h1,d⟩:=a;have g:=Z5_ d
  match l,h1 with
  |[],_=>exact .ret0
  |[v],_=>exact .ret1 v (g v sm_)
 ·obtain⟨⟨h1,d⟩,h⟩:=a
  match l,h1 with
  |[v,b],_=>
   have f:=x5_ (ps:=ps) (l:=[b]) h;exact .if2 v b (Yx_ d) (f b sm_)
  |[v,b,c],_=>
   have f:=x5_ (ps:=ps) (l:=[b,c]) h;exact .if3 v b c (Yx_ d) (f b sm_) (f c sm_)
 ·obtain⟨⟨h1,d⟩,h⟩:=a
  match l,h1 with
  |[v,b],_=>
   have f:=x5_ (ps:=ps) (l:=[b]) h;exact .while_ v b (Yx_ d) (f b sm_)
 ·obtain rfl:l=[]:=ln_ a;exact .note
 ·rcases List.eq_nil_or_concat l with rfl|⟨r,v,rfl⟩
  ·simp[YF_,Qe_]at a
  have d:YF_ (isK 18) (Qe_ ps (r++[v]))=(isK 18 (Qc_ ps v)&&((Qe_ ps (r++[v])).take (η r)).all (isK 1)):=Yo_ (by simp[Qe_]) (by simp[Qe_]);rw[List.concat_eq_append]at a |-
  rw[d,τa]at a;refine .meth r v (λu hu=>?_) (by simpa[isK]using a.1);have e:(Qe_ ps (r++[v])).take (η r)=Qe_ ps r:=(by simp[Qe_]);rw[e]at a;have f:=List.all_eq_true.1 a.2 (Qc_ ps u)<|List.mem_map.2 ⟨u,hu,rfl⟩;simpa[isK]using f
 exact .cls l (x6_ (λi=>zF_) a)
def QaH_ {x:PN} (hb:Za_ t i=τ) (hx:t[i]? =σ x) (a:x.kind=18):∀v∈x.kids,XS_ (Qc_ t v):=by
 have b:=(K0_ hb hx).2.1;rw[a]at b;simp only[kfB,Int.reduceEq,or_self,or_true,true_or,or_false,false_or,if_true,if_false]at b;exact x6_ (λi=>Qf5_) b
def zs_ {x:PN} (hb:Za_ t i=τ) (hx:t[i]? =σ x) (a:x.kind=22):∀v∈x.kids,XS_ (Qc_ t v):=by
 have b:=(K0_ hb hx).2.1;rw[a]at b;simp only[kfB,Int.reduceEq,or_self,or_true,true_or,or_false,false_or,if_true,if_false]at b;exact x6_ (λi=>QhS_) b
/-! ### How deep -/
def zq_ (h:QX_ t i=σ v):∀ps,ps<i->v[ps]? =σ (Kt_ t ps):=by
 induction i generalizing v with
 |zero=>intro ps hi;omega
 |succ i ih=>
  intro ps hi;have hn:=h;unfold QX_ at h
  cases hd:QX_ t i with
  |none=>rw[hd]at h;cases h
  |some l0=>
   rw[hd]at h
   cases hx:t[i]? with
   |none=>rw[hx]at h;cases h
   |some x=>
    rw[hx]at h;simp only at h;split at h
    ·obtain rfl:=oi_ h;have b:=(ZL_ hd).1;by_cases a:ps<i
     ·rw[List.getElem?_append_left oo];exact ih hd ps a
     obtain rfl:ps=i:=oo;have hg:(l0++[mxK l0 x.kids (η x.kids)+1])[ps]? =σ (mxK l0 x.kids (η x.kids)+1):=(by rw[List.getElem?_append_right oo,b];simp);rw[hg,Gk_ hn hg]
    cases h
def kz_ (g:Int->Int):∀(l:LI) (d:Int),d<=l.foldl (λd v=>max d (g v)) d/\∀v∈l,g v<=l.foldl (λd v=>max d (g v)) d:=by
 intro l
 induction l with
 |nil=>intro d;exact⟨Int.le_refl _,λv b=>by cases b⟩
 |cons a l ih=>
  intro d;obtain⟨h1,h2⟩:=ih (max d (g a));rw[List.foldl_cons];refine⟨oo,λv b=>?_⟩;rcases List.mem_cons.1 b with rfl|b
  ·omega
  exact h2 v b
def QgB_ (ps:List PN) (m:Nat):Prop:=∃l,QX_ ps (m+1)=σ l
def qi_ (h:Yb_ t=τ):∃m,TreeF t m/\QgB_ t m:=by
 obtain⟨m,hF⟩:=QiZ_ h;refine⟨m,hF,?_⟩;unfold Yb_ at h;simp only[τa]at h;have a:=h.2.2.1;rw[hF.tree.len,Nat.add_sub_cancel]at a
 cases hd:QX_ t (m+1)with
 |some l=>exact⟨l,hd⟩
 |none=>rw[Gj_ hd (lr_ _)]at a;cases a
def X1_ (hD:QgB_ t i) (hk:k<i+1) {x:PN} (hx:t[k]? =σ x):(1<=Kt_ t k/\Kt_ t k<=14)/\∀v∈x.kids,v.toNat<k->Kt_ t v.toNat+1<=Kt_ t k:=by
 obtain⟨l,hl⟩:=hD;have h1:∃b,QX_ t (k+1)=σ b:=by
  cases hd:QX_ t (k+1)with
  |some b=>exact⟨b,rfl⟩
  |none=>rw[YC_ hd (oo:k+1<=i+1)]at hl;cases hl
 obtain⟨b,hl'⟩:=h1;have c:=zq_ hl' k oo;refine⟨(ZL_ hl').2 _ (lm_ c),λv hv f=>?_⟩;have a:=hl';unfold QX_ at a
 cases hd:QX_ t k with
 |none=>rw[hd]at a;cases a
 |some l0=>
  rw[hd,hx]at a;simp only at a;split at a
  ·obtain rfl:=oi_ a;have e:=(ZL_ hd).1;rw[List.getElem?_append_right oo,e,Nat.sub_self]at c;have d:=oi_ c;have h2:=(kz_ (λv=>l0.getD v.toNat 0) x.kids 0).2 v hv;have h3:=zq_ hd v.toNat f;rw[<-d];unfold mxK;rw[List.take_of_length_le (lr_ _)];rw[List.getD_eq_getElem?_getD,h3]at h2;exact Int.add_le_add_right h2 1
  cases a
/-! ### How much text -/
def wE (W:Nat) (ps:List PN):Wv->Nat
 |.line t=>61+t.size
 |.val pre k post=>10000+pre.size+post.size+Kk_ ps k.toNat*W
 |.all l=>η l+Kv_ (Kk_ ps) l*W
def wW (W:Nat) (ps:List PN) (es:List Wv):Nat:=(es.map (wE W ps)).sum
def vk_ (ps:List PN) (e:Wv) (es:List Wv):wW n ps (e::es)=wE n ps e+wW n ps es:=by simp[wW]
def Va_ (s:Ws) (ls:List BA) (st:Int):szL (WX_ s ls st).1=szL s.1+szL ls:=Qez_ _ _
def ve_ (t:BA):szL [t]=t.size+1:=by rw[VP_];rfl
def Qbm_ {a:Int} (ha:a<=60) (t:BA):szL [QK_ a++t]<=61+t.size:=by
 rw[ve_,bs_,Kc_];omega
structure Wk (Q:Wp):Prop where
 F:TreeF Q.ps Q.m
 P:PNs Q.ps
 D:QgB_ Q.ps Q.m
def UM_ {Q:Wp} (h:Wk Q) (W:Nat) (hW:2100000<=W) (s:Ws) {c b:BA} {k a:Int} (ha:0<=a/\a<=60) (hp:QV_ c=τ) (h1:c.size<=40) (h2:b.size<=40) (hk:0<=k/\k<(Q.m+1:Int)) (hv:QI_ (Qc_ Q.ps k)) (d:Kk_ Q.ps k.toNat<=300):PcR (KZ_ Q c k b a)/\szL (valW Q s c k b a).1<=szL s.1+wE W Q.ps (.val c k b):=by
 obtain⟨q,rfl⟩:=eo_ hk.1;have h3:=UO_ h.F h.P (Q.m+1) c q;have h4:Kk_ Q.ps q<=300:=d;have e:=VD_ h.F (f:=Q.m+1) (lr_ _) hp (k:=q) oo hv;have h5:Kk_ Q.ps q*2000000<=300*2000000:=Nat.mul_le_mul_right _ h4;have hr:PcR (KZ_ Q c (q:Int) b a):=Qfn_ e ha (by unfold Xj_;omega);refine⟨hr,?_⟩;have h6:=xq_ hr (KU_ (KZ_ Q c (q:Int) b a) Q.budget).1;have h7:KB_ (KZ_ Q c (q:Int) b a).l1<=tot (XZ_ Q.ps (Q.m+1) c (q:Int))+b.size:=by
  show KB_ (_++[_])<=_;rw[GP_];unfold tot;show _+(_++b:BA).size<=_;rw[bs_];omega
 have h8:Kk_ Q.ps q*2000000<=Kk_ Q.ps q*W:=Nat.mul_le_mul_left _ oo;unfold valW;dsimp only;rw[Va_];show _<=_+(10000+c.size+b.size+Kk_ Q.ps (q:Int).toNat*W);rw[it_];omega
def Xb_ (ps:TreeF t i) (hb:0<=a/\a<(i+1:Int)):(QC_ t a).length<=12/\Kk_ t a.toNat=1+Kv_ (Kk_ t) (QC_ t a):=by
 obtain⟨x,c⟩:∃x,t[a.toNat]? =σ x:=⟨_,gE (by rw[ps.tree.len];omega)⟩;have e:QC_ t a=x.kids:=by unfold QC_;rw[X7_ c]
 rw[e];exact⟨(ps.tree.good _ _ c).1,Vz_ ps.tree.good c⟩
def UU_ {W:Nat} {Q:Wp} (h:Wk Q) (hW:2100000<=W) {k:Nat} {x:PN} (j:Q.ps[k]? =σ x) (hs:XS_ x.kind):wW W Q.ps (evsW Q.ps x)<=Kk_ Q.ps k*W:=by
 have f:=h.F;have m:=f.tree.good;have o:k<Q.m+1:=by have:=(gs_.1 j).1;rw[f.tree.len]at this;exact this
 have g:=Vz_ m j;have p:=(h.P x (lm_ j)).1;have n:=(m k x j).1;have d:∀v∈x.kids,0<=v/\v<(Q.m+1:Int):=λv h=>by have h1:=(m k x j).2 v h;omega
 have i:∀v∈x.kids,1<=Kk_ Q.ps v.toNat:=λv h=>by
  have h1:=(m k x j).2 v h;have h2:=Vz_ m (k:=v.toNat)<|List.getElem?_eq_getElem (by rw[f.tree.len];omega);omega
 have hV:=Qem_ (f.node k o) j hs;obtain⟨kd,t,l,z⟩:=x;dsimp only at hV g p n i d;rw[g,Nat.add_mul,Nat.one_mul];have e:∀(a b:BA),(a++b).size=a.size+b.size:=λ_ _=>bs_
 cases hV with
 |note=>show 61+t.size+0<=_;omega
 |var0=>show 61+((⟨#[118,97,114,32]⟩++t++⟨#[59]⟩:BA)).size+0<=_;rw[e,e];show 61+(4+t.size+1)+0<=_;omega
 |var1 v g=>show 10000+(⟨#[118,97,114,32]⟩++t++⟨#[32,61]⟩:BA).size+1+Kk_ Q.ps v.toNat*W+0<=_;rw[e,e,KC_,Nat.add_mul];show 10000+(4+t.size+2)+1+Kk_ Q.ps v.toNat*W+0<=_;omega
 |set_ v g=>show 10000+(t++⟨#[32,61]⟩:BA).size+1+Kk_ Q.ps v.toNat*W+0<=_;rw[e,KC_,Nat.add_mul];show 10000+(t.size+2)+1+Kk_ Q.ps v.toNat*W+0<=_;omega
 |do_ v g=>show 10000+0+1+Kk_ Q.ps v.toNat*W+0<=_;rw[KC_,Nat.add_mul];omega
 |ret0=>show 61+7+0<=_;omega
 |ret1 v g=>show 10000+7+1+Kk_ Q.ps v.toNat*W+0<=_;rw[KC_,Nat.add_mul];omega
 |if2 v b g hb=>
  have h1:=Xb_ f<|d b sm_;show 10000+4+3+Kk_ Q.ps v.toNat*W+((QC_ Q.ps b).length+Kv_ (Kk_ Q.ps) (QC_ Q.ps b)*W+(61+1+0))<=_;rw[KC_,KC_,h1.2,Nat.add_mul,Nat.add_mul,Nat.add_mul];omega
 |if3 v b c g hb hc=>
  have h1:=Xb_ f<|d b sm_;have h2:=Xb_ f<|d c sm_;show 10000+4+3+Kk_ Q.ps v.toNat*W+((QC_ Q.ps b).length+Kv_ (Kk_ Q.ps) (QC_ Q.ps b)*W+(61+8+((QC_ Q.ps c).length+Kv_ (Kk_ Q.ps) (QC_ Q.ps c)*W+(61+1+0))))<=_;rw[KC_,KC_,KC_,h1.2,h2.2,Nat.add_mul,Nat.add_mul,Nat.add_mul,Nat.add_mul,Nat.add_mul];omega
 |while_ v b g hb=>
  have h1:=Xb_ f<|d b sm_;show 10000+7+3+Kk_ Q.ps v.toNat*W+((QC_ Q.ps b).length+Kv_ (Kk_ Q.ps) (QC_ Q.ps b)*W+(61+1+0))<=_;rw[KC_,KC_,h1.2,Nat.add_mul,Nat.add_mul,Nat.add_mul];omega
 |meth r b hn hb=>
  have h1:=Xb_ f<|d b sm_;have e1:(r++[b]).length-1=η r:=by simp
  have e2:(r++[b]).take (η r)=r:=by simp
  have e3:k_ (r++[b]) (η r)=b:=by simp[k_]
  have h3:=Wc_ (W:=1048576) (r.map (QE_ Q.ps)) (λt p=>by obtain⟨u,_,rfl⟩:=List.mem_map.1 p;exact Yt_ h.P _);rw[List.length_map]at h3;have h4:=vE_ (ps:=Q.ps) (l:=r) (λu hu=>i u (by simp[hu]));have h5:η r*(1048576+2)<=Kv_ (Kk_ Q.ps) r*W:=Nat.mul_le_mul h4 oo;have e5:Kv_ (Kk_ Q.ps) [b]=Kk_ Q.ps b.toNat:=by simp[Kv_]
  show 61+(t++⟨#[40]⟩++Q5_ (((r++[b]).take ((r++[b]).length-1)).map (QE_ Q.ps))++⟨#[41,32,123]⟩:BA).size+((QC_ Q.ps (k_ (r++[b]) ((r++[b]).length-1))).length+Kv_ (Kk_ Q.ps) (QC_ Q.ps (k_ (r++[b]) ((r++[b]).length-1)))*W+(61+1+0))<=_;rw[e1,e2,e3,e,e,e,UQ_,e5,h1.2,Nat.add_mul,Nat.add_mul];show 61+(t.size+1+(Q5_ (r.map (QE_ Q.ps))).size+3)+_<=_;omega
 |cls l hl=>show 61+(⟨#[99,108,97,115,115,32]⟩++t++⟨#[32,123]⟩:BA).size+(η l+Kv_ (Kk_ Q.ps) l*W+(61+1+0))<=_;rw[e,e];show 61+(6+t.size+2)+_<=_;omega
def okW (Q:Wp) (f:Nat) (a:Int):Wv->Prop
 |.line _=>True
 |.val pre k post=>(QV_ pre=τ/\pre.size<=40)/\(QV_ post=τ/\post.size<=40)/\(0<=k/\k<(f:Int))/\QI_ (Qc_ Q.ps k)
 |.all l=>∀v∈l,(0<=v/\v<(f:Int))/\XS_ (Qc_ Q.ps v)/\a+2+2*Kt_ Q.ps v.toNat<=28
def GX_ (h:0<=a):Qc_ t a=Qc_ t ((a.toNat:Nat):Int):=by rw[Int.toNat_of_nonneg h]
def Qcy_ {Q:Wp} (h:Wk Q) {x:PN} (j:Q.ps[k]? =σ x) (hk:k<i+1) (ha:a+2*Kt_ Q.ps k<=28) {b:Int} (hb:b∈x.kids) (c:Qc_ Q.ps b=18):okW Q i a (.all (QC_ Q.ps b)):=by
 have hg:=h.F.tree.good;have f:k<Q.m+1:=by have:=(gs_.1 j).1;rw[h.F.tree.len]at this;exact this
 have h1:=(hg k x j).2 b hb;obtain⟨y,d⟩:∃y,Q.ps[b.toNat]? =σ y:=⟨_,gE (by rw[h.F.tree.len];omega)⟩;have e:QC_ Q.ps b=y.kids:=by unfold QC_;rw[X7_ d]
 have l:y.kind=18:=by rw[GX_ oo,Qr_ d]at c;exact c
 have m:=(X1_ h.D f j).2 b hb oo;intro v g;rw[e]at g;have h2:=(hg b.toNat y d).2 v g;have n:=(X1_ h.D oo d).2 v g oo;exact⟨oo,QaH_ (h.F.node b.toNat oo) d l v g,oo⟩
def QcK_ {Q:Wp} (h:Wk Q) {x:PN} (o:Q.ps[k]? =σ x) (hs:XS_ x.kind) (hk:k<i+1) (ha:a+2*Kt_ Q.ps k<=28):∀e∈evsW Q.ps x,okW Q i a e:=by
 have hg:=h.F.tree.good;have m:k<Q.m+1:=by have:=(gs_.1 o).1;rw[h.F.tree.len]at this;exact this
 have g:∀v∈x.kids,0<=v/\v<(i:Int):=λv f=>by have h1:=(hg k x o).2 v f;omega
 have p:=λb s j=>Qcy_ h o hk ha (b:=b) s j
 have q:=(X1_ h.D m o).2;have n:=(K0_ (h.F.node k m) o).1;have hV:=Qem_ (h.F.node k m) o hs;obtain⟨kd,t,l,z⟩:=x;dsimp only at hV p n g q;have nm:(kd=12\/kd=13)->QV_ t=τ/\t.size<=30:=λy=>zM_ (by
  unfold Zi_ at n;rwa[ip_ oo]at n)
 cases hV with
 |note=>intro e d;obtain rfl:=ms1_.1 d;trivial
 |var0=>intro e d;obtain rfl:=ms1_.1 d;trivial
 |var1 v f=>
  intro e d;obtain rfl:=ms1_.1 d;obtain⟨h1,h2⟩:=nm (.inl rfl);refine⟨⟨Zh_ (Zh_ rfl h1) rfl,?_⟩,⟨rfl,by show 1<=40;omega⟩,g v sm_,f⟩;rw[bs_,bs_];show 4+t.size+2<=40;omega
 |set_ v f=>
  intro e d;obtain rfl:=ms1_.1 d;obtain⟨h1,h2⟩:=nm (.inr rfl);refine⟨⟨Zh_ h1 rfl,?_⟩,⟨rfl,by show 1<=40;omega⟩,g v sm_,f⟩;rw[bs_];show t.size+2<=40;omega
 |do_ v f=>intro e d;obtain rfl:=ms1_.1 d;exact⟨⟨rfl,by show 0<=40;omega⟩,⟨rfl,by show 1<=40;omega⟩,g v sm_,f⟩
 |ret0=>intro e d;obtain rfl:=ms1_.1 d;trivial
 |ret1 v f=>intro e d;obtain rfl:=ms1_.1 d;exact⟨⟨rfl,by show 7<=40;omega⟩,⟨rfl,by show 1<=40;omega⟩,g v sm_,f⟩
 |if2 v b f j=>
  intro e d;have d:e∈[Wv.val ⟨#[105,102,32,40]⟩ v ⟨#[41,32,123]⟩,.all (QC_ Q.ps b),.line brT]:=d;simp only[List.mem_cons,List.not_mem_nil,or_false]at d;rcases d with rfl|rfl|rfl
  ·exact⟨⟨rfl,by show 4<=40;omega⟩,⟨rfl,by show 3<=40;omega⟩,g v sm_,f⟩
  ·exact p b sm_ j
  trivial
 |if3 v b c f j h19=>
  intro e d;have d:e∈[Wv.val ⟨#[105,102,32,40]⟩ v ⟨#[41,32,123]⟩,.all (QC_ Q.ps b),.line ⟨#[125,32,101,108,115,101,32,123]⟩,.all (QC_ Q.ps c),.line brT]:=d;simp only[List.mem_cons,List.not_mem_nil,or_false]at d;rcases d with rfl|rfl|rfl|rfl|rfl
  ·exact⟨⟨rfl,by show 4<=40;omega⟩,⟨rfl,by show 3<=40;omega⟩,g v sm_,f⟩
  ·exact p b sm_ j
  ·trivial
  ·exact p c sm_ h19
  trivial
 |while_ v b f j=>
  intro e d;have d:e∈[Wv.val ⟨#[119,104,105,108,101,32,40]⟩ v ⟨#[41,32,123]⟩,.all (QC_ Q.ps b),.line brT]:=d;simp only[List.mem_cons,List.not_mem_nil,or_false]at d;rcases d with rfl|rfl|rfl
  ·exact⟨⟨rfl,by show 7<=40;omega⟩,⟨rfl,by show 3<=40;omega⟩,g v sm_,f⟩
  ·exact p b sm_ j
  trivial
 |meth r b hn j=>
  intro e d;have e1:(r++[b]).length-1=η r:=by simp
  have e3:k_ (r++[b]) ((r++[b]).length-1)=b:=by rw[e1];simp[k_]
  have d:e∈[Wv.line (t++⟨#[40]⟩++Q5_ (((r++[b]).take ((r++[b]).length-1)).map (QE_ Q.ps))++⟨#[41,32,123]⟩),.all (QC_ Q.ps (k_ (r++[b]) ((r++[b]).length-1))),.line brT]:=d;rw[e3]at d;simp only[List.mem_cons,List.not_mem_nil,or_false]at d;rcases d with rfl|rfl|rfl
  ·trivial
  ·exact p b sm_ j
  trivial
 |cls l hl=>
  intro e d;have d:e∈[Wv.line (⟨#[99,108,97,115,115,32]⟩++t++⟨#[32,123]⟩),.all l,.line brT]:=d;simp only[List.mem_cons,List.not_mem_nil,or_false]at d;rcases d with rfl|rfl|rfl
  ·trivial
  ·intro v f;have h1:=(hg k _ o).2 v f;have h2:=q v f oo;exact⟨g v f,hl v f,oo⟩
  trivial
def kb_ (Q:Wp) (f:Nat) (go:Nat->Int->Ws->Ws):Prop:=∀(j:Nat) (a:Int) (s:Ws),j<f->XS_ (Qc_ Q.ps (j:Int))->(0<=a/\a+2*Kt_ Q.ps j<=28)->szL s.1+Kk_ Q.ps j*2100000<=632000000->szL (go j a s).1<=szL s.1+Kk_ Q.ps j*2100000
def QfK_ {Q:Wp} {go:Nat->Int->Ws->Ws} (f:kb_ Q i go)  {s:Ws}  (ha:0<=a) (c:(0<=b/\b<(i:Int))/\XS_ (Qc_ Q.ps b)/\a+2*Kt_ Q.ps b.toNat<=28) (hz:szL s.1+1+Kk_ Q.ps b.toNat*2100000<=632000000):szL (oneW Q go a s b).1<=szL s.1+1+Kk_ Q.ps b.toNat*2100000:=by
 have h1:szL (if X4_ Q.ps b=τ then WX_ s [⟨#[]⟩] 1 else s).1<=szL s.1+1:=by
  split
  ·rw[Va_,ve_];exact lr_ _
  omega
 have h2:=f b.toNat a (if X4_ Q.ps b=τ then WX_ s [⟨#[]⟩] 1 else s) oo (by rw[<-GX_ c.1.1];exact c.2.1) ⟨ha,c.2.2⟩ oo;unfold oneW;omega
def xa_ {Q:Wp} {b:Nat->Int->Ws->Ws} (c:kb_ Q i b)  (ha:0<=a):∀(l:LI) (s:Ws),(∀v∈l,(0<=v/\v<(i:Int))/\XS_ (Qc_ Q.ps v)/\a+2*Kt_ Q.ps v.toNat<=28)->szL s.1+(η l+Kv_ (Kk_ Q.ps) l*2100000)<=632000000->szL (Wg_ Q b a s l).1<=szL s.1+(η l+Kv_ (Kk_ Q.ps) l*2100000):=by
 intro l
 induction l with
 |nil=>intro s _ _;exact Nat.le_add_right _ _
 |cons v l ih=>
  intro s hv hz;have e:Kv_ (Kk_ Q.ps) (v::l)=Kk_ Q.ps v.toNat+Kv_ (Kk_ Q.ps) l:=by simp[Kv_]
  rw[e,Nat.add_mul,List.length_cons]at hz;have h1:=QfK_ c (s:=s) ha (hv v sm_) oo;have h2:=ih (oneW Q b a s v) (λu hu=>hv u (List.mem_cons_of_mem _ hu)) oo;rw[e,Nat.add_mul,List.length_cons];show szL (Wg_ Q b a (oneW Q b a s v) l).1<=_;omega
def xH_ {Q:Wp} (h:Wk Q) (hf:i<=Q.m+1) {go:Nat->Int->Ws->Ws} (b:kb_ Q i go) {a:Int} (ha:0<=a/\a<=26) {s:Ws} {e:Wv} (he:okW Q i a e) (hz:szL s.1+wE 2100000 Q.ps e<=632000000):szL (Qen_ Q go a s e).1<=szL s.1+wE 2100000 Q.ps e:=by
 cases e with
 |line t=>
  show szL (WX_ s [QK_ a++t] 1).1<=szL s.1+(61+t.size);rw[Va_];have:=Qbm_ (a:=a) oo t;omega
 |val pre k post=>
  obtain⟨⟨h1,h2⟩,⟨h3,h4⟩,h5,h6⟩:=he;have c:szL s.1+(10000+pre.size+post.size+Kk_ Q.ps k.toNat*2100000)<=632000000:=hz;exact(UM_ h 2100000 (lr_ _) s (a:=a) ⟨oo,oo⟩ h1 h2 h4 oo h6 oo).2
 |all l=>exact xa_ b oo l s (λv hv=>he v hv) hz
def QfT_ {Q:Wp} (h:Wk Q) (hf:i<=Q.m+1) {b:Nat->Int->Ws->Ws} (c:kb_ Q i b) {a:Int} (ha:0<=a/\a<=26):∀(es:List Wv) (s:Ws),(∀e∈es,okW Q i a e)->szL s.1+wW 2100000 Q.ps es<=632000000->szL (runW Q b a s es).1<=szL s.1+wW 2100000 Q.ps es:=by
 intro es
 induction es with
 |nil=>intro s _ _;exact Nat.le_add_right _ _
 |cons e es ih=>
  intro s he hz;rw[vk_]at hz |-
  have h1:=xH_ h hf c ha (he e sm_) (s:=s) oo;rw[Qd5_];have h2:=ih (Qen_ Q b a s e) (λu hu=>he u (List.mem_cons_of_mem _ hu)) oo;omega
def vG_ {Q:Wp} (h:Wk Q) {k:Nat} (hk:k<Q.m+1):1<=Kt_ Q.ps k:=by
 obtain⟨x,hx⟩:∃x,Q.ps[k]? =σ x:=⟨_,gE (by rw[h.F.tree.len];omega)⟩;exact(X1_ h.D hk hx).1.1
def Wq_ {Q:Wp} (h:Wk Q):∀f,f<=Q.m+1->kb_ Q f (ZN_ Q f):=by
 intro f
 induction f with
 |zero=>intro _ j a s hj;omega
 |succ f ih=>
  intro hf j a s hj hs ha hz;obtain⟨x,b⟩:∃x,Q.ps[j]? =σ x:=⟨_,gE (by rw[h.F.tree.len];omega)⟩;have h1:=vG_ h (k:=j) oo;rw[zK_ b];rw[Qr_ b]at hs;have hw:=UU_ h (lr_ 2100000) b hs;have h2:=QfT_ h oo (ih oo) (a:=a) ⟨ha.1,oo⟩ (evsW Q.ps x) s (QcK_ h b hs hj ha.2) oo;omega
abbrev pcC (m:Int) (A0:OA) (n0 c0:Nat) (A1:OA) (n1 c1:Nat) (A2:OA) (n2 c2:Nat) (A3:OA) (n3 c3:Nat):Array Υ:=#[I_ j_ m,S_ A0 n0 c0,S_ A1 n1 c1,S_ A2 n2 c2,S_ A3 n3 c3]
def Vp_ {w:Ω} {g:Nat} {t:TypeId} {m:Int} {A0 A1 A2 A3:OA} {n0 c0 n1 c1 n2 c2 n3 c3:Nat} (h:Blk w g t (pcC m A0 n0 c0 A1 n1 c1 A2 n2 c2 A3 n3 c3)):w.cell? ⟨g,0,ν⟩=σ (I_ j_ m)/\w.cell? ⟨g,1,ν⟩=σ (S_ A0 n0 c0)/\w.cell? ⟨g,2,ν⟩=σ (S_ A1 n1 c1)/\w.cell? ⟨g,3,ν⟩=σ (S_ A2 n2 c2)/\w.cell? ⟨g,4,ν⟩=σ (S_ A3 n3 c3)/\g<w.heap.size:=
 ⟨h.cell 0,h.cell 1,h.cell 2,h.cell 3,h.cell 4,h.lt⟩
def PcR.chunk {P:Hn} (h:PcR P) {i:Nat} (hi:i+1<η P.l1):∃x0 x1 a b d,P.l1[i]? =σ (x0,x1,a,b,d)/\(0<=x1/\x1<(η P.l0:Int)):=by
 obtain⟨⟨x0,x1,a,b,d⟩,hc⟩:∃c,P.l1[i]? =σ c:=⟨_,gE oo⟩;exact⟨x0,x1,a,b,d,hc,h.split i _ hc hi⟩
def qv_ (P:Hn) (A0 A1 A2 A3:OA) (c0 c1 c2 c3:Nat) (V:OA) (n cv:Nat) (v:LI) (a b c:Int) (w:Ω) (hM:PcM P A0 A1 A2 A3 w) (X:PcR P) (hv:Rd w 1 V n (Qa_ v)) (hn:n<=8) (hd:(a,b,c)∈P.l2):
  Δ π 295 #[A_ (pcCells P A0 A1 A2 A3 c0 c1 c2 c3),S_ V n cv,A_ #[I_ j_ a,I_ j_ b,I_ j_ c]] w λe w'=>e=R_ (B_ (hitS P.l1 v (a,b,c)))/\Λ w w':=by
 obtain⟨⟨ha,L⟩,O,_⟩:=X.span _ hd;dsimp only at ha L O;obtain⟨a,rfl⟩:=eo_ ha;obtain⟨b,rfl⟩:=eo_ (show 0<=b from oo);have M:a<=b:=oo;have HM:=h_ hM;have HR:=h_ X;have HV:=h_ hv;have ae:=X.n1;have G:=h_ (show η v=n from K2_ hv);have l:=h_<|U0_ P.l1 v (c:=c) M;have Q:b+1<η P.l1:=oo;clear hd hM X hv ha L O;have r:=h_ (λq c' W h1 h2 H=>zv_ P A0 A1 A2 A3 c0 c1 c2 c3 V n cv v q c' W h1 HR.o.toPcOk h2 hn H);unfold pcCells at r |-
 obtain⟨y,I⟩:=ex_ (η P.l0);obtain⟨o,k⟩:=ex_ (η P.l1);obtain⟨z,J⟩:=ex_ (η P.l2);obtain⟨A,K⟩:=ex_ (η P.l3);have F:=h_ k;rw[I,k,J,K]at r |-
 rw[k]at ae Q;have aa:=h_ (show ∀W,Λ w W->Rd W 5 A1 o (P.l1.flatMap Qo_)from λW h=>by rw[<-F.o];exact(HM.o.next h).r1);clear I k J K;have D:=h_ (show Blk ((w.alloc (C_ (pcC P.m A0 y c0 A1 o c1 A2 z c2 A3 A c3) 149)).alloc (C_ #[I_ j_ a,I_ j_ b,I_ j_ c] 213)) w.heap.size 149 (pcC P.m A0 y c0 A1 o c1 A2 z c2 A3 A c3)from(Blk.new _ _ _).alloc _);have E:=h_ (show Blk ((w.alloc (C_ (pcC P.m A0 y c0 A1 o c1 A2 z c2 A3 A c3) 149)).alloc (C_ #[I_ j_ a,I_ j_ b,I_ j_ c] 213)) (w.heap.size+1) 213 #[I_ j_ a,I_ j_ b,I_ j_ c]from by have:=Blk.new (w.alloc (C_ (pcC P.m A0 y c0 A1 o c1 A2 z c2 A3 A c3) 149)) 213 #[I_ j_ a,I_ j_ b,I_ j_ c];rwa[ws_]at this);have C:=h_<|Z3_ w (C_ (pcC P.m A0 y c0 A1 o c1 A2 z c2 A3 A c3) 149)<|C_ #[I_ j_ a,I_ j_ b,I_ j_ c] 213;go_in;go_wp2;go_loopw [7] (λx wr=>∃i:Nat,a<=i/\i<=b+1/\x=I_ j_ i/\Ψ (Xl_ P.l1 v a i=φ)/\Ψ (Blk wr w.heap.size 149 (pcC P.m A0 y c0 A1 o c1 A2 z c2 A3 A c3))/\Ψ (Blk wr (w.heap.size+1) 213 #[I_ j_ a,I_ j_ b,I_ j_ c])/\Ψ (Λ w wr)) (λx _=>b+1-(intOf x).toNat)
 ·exact⟨a,lr_ _,oo,rfl,h_ (Gp_ _ _ _),D,E,C⟩
 clear D E C;obtain⟨i,ad,ah,rfl,Y,Z,U,m⟩:=hrel;have ag:=m.o.size;obtain⟨q0,q1,q2,q3,q4,ai⟩:=Vp_ Z.o;have s1:wr.cell? ⟨w.heap.size+1,1,ν⟩=σ (I_ j_ b):=U.o.cell 1;have aj:=U.o.lt;by_cases h1:i<=b
 ·have h2:i<o:=oo;obtain⟨x0,x1,x2,x3,x4,B,t⟩:=HR.o.chunk (i:=i) (by rw[F.o];omega);obtain⟨p,off,rfl,hp,y0,y1,y2,y3,y4⟩:=Zk_ (aa.o wr m.o) h2 B;have s:=h_ (Yj_ P.l1 v ad);by_cases H:x1<(n:Int)
  ·have T:=h_ (r.o i _ wr (HM.o.next m.o) (HV.o.next m.o) B ⟨t.1,H⟩);have j:=h_ (qn_ B (v:=v) (by rw[G.o];exact H));obtain⟨R,g⟩:=t;clear B g
   cases f:ZE_ v (x0,x1,x2,x3,x4)with
   |true=>
    have d:Ψ (hitS P.l1 v ((a:Int),(b:Int),c)=τ):=h_ (by rw[<-l.o];exact Qa1_ _ _ (oo:i+1<=b+1) (by rw[s.o,j.o,f,τo]));rw[f]at T;clear f;go_wp2_with (go_at_call 253;refine mb_ T.o ?_;intro w1 S);go_ret;exact⟨Qg_ d.o.symm,Qb_ m.o S⟩
   |false=>
    have d:Ψ (Xl_ P.l1 v a (i+1)=φ):=h_ (by rw[s.o,Y.o,j.o,f];rfl);rw[f]at T;clear f;go_wp2_with (go_at_call 253;refine mb_ T.o ?_;intro w1 S);exact⟨⟨i+1,oo,oo,by go_num,d,h_ (Z.o.next S),h_ (U.o.next S),h_ (Qb_ m.o S)⟩,ms_⟩
  have j:=h_<|vM_ B (v:=v) (by rw[G.o];exact H);obtain⟨R,g⟩:=t;clear B g;have d:Ψ (Xl_ P.l1 v a (i+1)=φ):=h_ (by rw[s.o,Y.o,j.o];rfl);go_wp2;exact⟨⟨i+1,oo,oo,by go_num,d,Z,U,m⟩,ms_⟩
 obtain rfl:i=b+1:=oo;have d:Ψ (hitS P.l1 v ((a:Int),(b:Int),c)=φ):=h_ (by rw[<-l.o];exact Y.o);go_wp2;go_ret;exact⟨Qg_ d.o.symm,m.o⟩
def WI_ {l1:List ChunkD} {l2:List SpanD}   {z:Bool} (h:l2[i]? =σ (a,b,s)) (hz:hitS l1 v (a,b,s)=z):Zu_ l1 v (l2.drop i)=(if z=τ then s else 0)+Zu_ l1 v (l2.drop (i+1)):=by rw[Qb0_ h,hz]
def JK_ (P:Hn) (A0 A1 A2 A3:OA) (c0 c1 c2 c3:Nat) (V:OA) (n cv:Nat) (v:LI) (w:Ω) (hM:PcM P A0 A1 A2 A3 w) (hR:PcR P) (hv:Rd w 1 V n (Qa_ v)) (g:ValR P v):
  Δ π 284 #[A_ (pcCells P A0 A1 A2 A3 c0 c1 c2 c3),S_ V n cv] w (RB_ (I_ j_ (YX_ P.l0 P.l1 P.l2 v)) w):=by
 have Y:η v=n:=K2_ hv;have an:=hR.n0;have hn:n<=8:=by have:=g.1;omega
 have ap:n<=η P.l0:=by have:=g.1;omega
 have HM:=h_ hM;have HR:=h_ hR;have HV:=h_ hv;have ak:=h_ g.2;have ao:=hR.n2;have S:=h_ Y;have C:=h_ (λa b c W h1 h2 h3=>qv_ P A0 A1 A2 A3 c0 c1 c2 c3 V n cv v a b c W h1 HR.o h2 hn h3);obtain⟨T,hT⟩:=ex_ (YX_ P.l0 P.l1 P.l2 v);have HT:=h_ hT;rw[hT];clear hM hR hv g Y hT;unfold pcCells at C |-
 obtain⟨I,o⟩:=ex_ (η P.l0);obtain⟨N1,U⟩:=ex_ (η P.l1);obtain⟨m,q⟩:=ex_ (η P.l2);obtain⟨N3,X⟩:=ex_ (η P.l3);have R:=h_ o;have E:=h_ q;rw[o,U,q,X]at C |-
 rw[o]at ap an;rw[q]at ao;have ag:=h_ (show ∀W,Λ w W->Rd W 2 A0 I (P.l0.flatMap Q0_)from λW h=>by rw[<-R.o];exact(HM.o.next h).r0);have ah:=h_ (show ∀W,Λ w W->Rd W 3 A2 m (P.l2.flatMap QJ_)from λW h=>by rw[<-E.o];exact(HM.o.next h).r2);clear o U q X;have O:=h_<|Blk.new w 149<|pcC P.m A0 I c0 A1 N1 c1 A2 m c2 A3 N3 c3;have K:=h_ (show Λ w (w.alloc (C_ (pcC P.m A0 I c0 A1 N1 c1 A2 m c2 A3 N3 c3) 149))from Ql_ br);go_in;go_wp2;go_loopw [5,12] (λs x wr=>∃(i:Nat) (y:Int),i<=n/\x=I_ j_ i/\s=I_ j_ y/\0<=y/\y<=3000*(i:Int)/\Ψ (y+(Vs_ (P.l0.drop i) (v.drop i)+Zu_ P.l1 v P.l2)=T)/\Ψ (Blk wr w.heap.size 149 (pcC P.m A0 I c0 A1 N1 c1 A2 m c2 A3 N3 c3))/\Ψ (Λ w wr)) (λ_ x _=>n-(intOf x).toNat)
 ·exact⟨0,0,lz_ _,rfl,rfl,oo,oo,h_ (by rw[List.drop_zero,List.drop_zero,Int.zero_add];exact HT.o),O,K⟩
 clear O K;obtain⟨i,y,aC,rfl,rfl,G,Z,D,B,f⟩:=hrel;have F:=f.o.size;obtain⟨q0,q1,q2,q3,q4,H⟩:=Vp_ B.o;by_cases h1:i<n
 ·obtain⟨⟨x0,x1⟩,t⟩:∃d,P.l0[i]? =σ d:=⟨_,gE (by rw[R.o];omega)⟩;obtain⟨y5,A⟩:∃d,v[i]? =σ d:=⟨_,gE (by rw[S.o];omega)⟩;have h0:i<I:=oo;obtain⟨p,off,rfl,hp,cx,cy⟩:=Xo_ (ag.o wr f.o) h0 t;obtain⟨b5,az,rfl,aB,aA⟩:=Qu_ (HV.o.next f.o) h1 A;have l:=h_ (GC_ t A);have r:=HR.o.rule _ (lm_ t);dsimp only at r;obtain⟨aE,aF⟩:=Wl_ (ak.o _ (lm_ A)) ⟨r.2.2.1,r.2.2.2⟩;clear t A r;go_wp2;go_roundw
  ·exact⟨i+1,y+y5*x1,oo,by go_num,rfl,oo,oo,h_ (by rw[<-D.o,l.o];omega),B,f⟩
  exact ms_
 obtain rfl:i=n:=oo;have M:Ψ (y+Zu_ P.l1 v (P.l2.drop 0)=T):=h_ (by have:=D.o;rw[Js_ (by rw[S.o];exact lr_ _),Int.zero_add]at this;exact this);clear D;have ar:y<=24000:=oo;clear Z;obtain⟨W0,rfl⟩:∃W0,W0=wr:=⟨_,rfl⟩;go_wp2;go_loopw [5,31] (λs x wr=>∃(j:Nat) (y:Int),j<=m/\x=I_ j_ j/\s=I_ j_ y/\0<=y/\y<=24000+9*(j:Int)/\Ψ (y+Zu_ P.l1 v (P.l2.drop j)=T)/\Ψ (Blk wr w.heap.size 149 (pcC P.m A0 I c0 A1 N1 c1 A2 m c2 A3 N3 c3))/\Ψ (Λ w wr)) (λ_ x _=>m-(intOf x).toNat)
 ·exact⟨0,y,lz_ _,rfl,rfl,G,oo,M,B,f⟩
 clear M B f F q0 q1 q2 q3 q4 H G ar;obtain⟨j,y,aD,rfl,rfl,G,Z,D,B,f⟩:=hrel;have F:=f.o.size;obtain⟨q0,q1,q2,q3,q4,H⟩:=Vp_ B.o;by_cases h2:j<m
 ·obtain⟨⟨x0,x1,J⟩,t⟩:∃d,P.l2[j]? =σ d:=⟨_,gE (by rw[E.o];omega)⟩;obtain⟨p,off,rfl,hp,cx,cy,cz⟩:=WJ_ (ah.o wr f.o) h2 t;have k:=lm_ t;obtain⟨_,_,ax,ay⟩:=HR.o.span _ k;dsimp only at ax ay;obtain⟨z,hz⟩:=ex_ (hitS P.l1 v (x0,x1,J));have l:=h_ (WI_ t hz);have HC:=h_ (C.o x0 x1 J (wr.alloc (C_ #[I_ j_ x0,I_ j_ x1,I_ j_ J] 213)) ((HM.o.next f.o).alloc _) ((HV.o.next f.o).alloc _) k);rw[hz]at HC;have HS:=h_ (Blk.new wr 213 #[I_ j_ x0,I_ j_ x1,I_ j_ J]);clear t hz k;go_wp2_with fail;refine mb_ HC.o ?_;intro w1 k1;have L:=h_<|Q7_ f.o k1;have Q:=h_<|B.o.next1 k1;have s2:w1.cell? ⟨wr.heap.size,2,ν⟩=σ (I_ j_ J):=(HS.o.next k1).cell 2;have aG:=(HS.o.next k1).lt;clear HC k1 q0 q1 q2 q3 q4 H cx cy cz hp f B F
  cases z with
  |true=>
   go_wp2;go_roundw
   ·exact⟨j+1,y+J,oo,by go_num,rfl,oo,oo,h_ (by rw[<-D.o,l.o];simp only[if_true,eq_self];omega),Q,L⟩
   exact ms_
  |false=>
   go_wp2;go_roundw
   ·exact⟨j+1,y,oo,by go_num,rfl,oo,oo,h_ (by rw[<-D.o,l.o];simp only[if_false,Bool.false_eq_true];omega),Q,L⟩
   exact ms_
 obtain rfl:j=m:=oo;have ai:Ψ (T=y):=h_ (by have:=D.o;rw[Jt_ (by rw[E.o];exact lr_ _)]at this;omega);go_wp2;go_ret;exact⟨Kx_ ai.o.symm,f.o⟩
def UE_ {l1:List ChunkD} {v:LI} {z y:Bool} (h:i<=k) (hz:Xl_ l1 v i k=z) (hy:kB_ l1 v k=y):Xl_ l1 v i (k+1)=(z||y):=by rw[Yj_ l1 v h,hz,hy]
def Qek_ {x0:BA} {x3:Bool} (h:v[i]? =σ a):ZE_ v (x0,(i:Int),b,x3,s)=decide (b<=a):=by unfold ZE_;rw[WR_ h]
def qZ_ (P:Hn) (A0 A1 A2 A3:OA) (c0 c1 c2 c3:Nat) (V:OA) (n cv:Nat) (v:LI) (w:Ω) (hM:PcM P A0 A1 A2 A3 w) (hR:PcR P) (hv:Rd w 1 V n (Qa_ v)) (r:ValR P v):
  Δ π 145 #[A_ (pcCells P A0 A1 A2 A3 c0 c1 c2 c3),S_ V n cv] w (RB_ (I_ j_ (YX_ P.l0 P.l1 P.l2 v)) w):=by
 have ai:η v=n:=K2_ hv;have aH:=hR.n0;have hn:n<=8:=by have:=r.1;omega
 have aK:n<=η P.l0:=by have:=r.1;omega
 have HM:=h_ hM;have HR:=h_ hR;have HV:=h_ hv;have av:=h_ r.2;have aI:=hR.n1;have aJ:=hR.n2;have A:=h_ ai;obtain⟨T,hT⟩:=ex_ (YX_ P.l0 P.l1 P.l2 v);have HT:=h_ hT;rw[hT];clear hM hR hv r ai hT;unfold pcCells;obtain⟨O,D⟩:=ex_ (η P.l0);obtain⟨J,E⟩:=ex_ (η P.l1);obtain⟨B,F⟩:=ex_ (η P.l2);obtain⟨N3,ae⟩:=ex_ (η P.l3);have aa:=h_ D;have L:=h_ E;have M:=h_ F;rw[D,E,F,ae];rw[D]at aK aH;rw[E]at aI;rw[F]at aJ;have ap:=h_ (show ∀W,Λ w W->Rd W 2 A0 O (P.l0.flatMap Q0_)from λW h=>by rw[<-aa.o];exact(HM.o.next h).r0);have ao:=h_ (show ∀W,Λ w W->Rd W 5 A1 J (P.l1.flatMap Qo_)from λW h=>by rw[<-L.o];exact(HM.o.next h).r1);have aq:=h_ (show ∀W,Λ w W->Rd W 3 A2 B (P.l2.flatMap QJ_)from λW h=>by rw[<-M.o];exact(HM.o.next h).r2);clear D E F ae;have Z:=h_<|Blk.new w 149<|pcC P.m A0 O c0 A1 J c1 A2 B c2 A3 N3 c3;have U:=h_ (show Λ w (w.alloc (C_ (pcC P.m A0 O c0 A1 J c1 A2 B c2 A3 N3 c3) 149))from Ql_ br);go_in;go_wp2;go_loopw [5,6] (λs x wr=>∃(i:Nat) (y:Int),i<=n/\x=I_ j_ i/\s=I_ j_ y/\0<=y/\y<=3000*(i:Int)/\Ψ (y+(Vs_ (P.l0.drop i) (v.drop i)+Zu_ P.l1 v P.l2)=T)/\Ψ (Blk wr w.heap.size 149 (pcC P.m A0 O c0 A1 J c1 A2 B c2 A3 N3 c3))/\Ψ (Λ w wr)) (λ_ x _=>n-(intOf x).toNat)
 ·exact⟨0,0,lz_ _,rfl,rfl,oo,oo,h_ (by rw[List.drop_zero,List.drop_zero,Int.zero_add];exact HT.o),Z,U⟩
 clear Z U;obtain⟨i,y,aY,rfl,rfl,R,ak,K,o,f⟩:=hrel;have l:=f.o.size;obtain⟨q0,q1,q2,q3,q4,I⟩:=Vp_ o.o;by_cases h1:i<n
 ·obtain⟨⟨x0,x1⟩,q⟩:∃d,P.l0[i]? =σ d:=⟨_,gE (by rw[aa.o];omega)⟩;obtain⟨y5,m⟩:∃d,v[i]? =σ d:=⟨_,gE (by rw[A.o];omega)⟩;have h0:i<O:=oo;obtain⟨p,off,rfl,hp,cx,cy⟩:=Xo_ (ap.o wr f.o) h0 q;obtain⟨b5,al,rfl,aE,ax⟩:=Qu_ (HV.o.next f.o) h1 m;have t:=h_ (GC_ q m);have H:=HR.o.rule _ (lm_ q);dsimp only at H;obtain⟨aF,aG⟩:=Wl_ (av.o _ (lm_ m)) ⟨H.2.2.1,H.2.2.2⟩;rw[Int.mul_comm]at t aF aG;clear q m H;go_wp2
  go_region
  go_wp2;go_roundw
  ·exact⟨i+1,y+x1*y5,oo,by go_num,rfl,oo,oo,h_ (by rw[<-K.o,t.o];omega),o,h_ f.o.drew⟩
  exact ms_
 obtain rfl:n=i:=oo;have X:Ψ (y+Zu_ P.l1 v (P.l2.drop 0)=T):=h_ (by have:=K.o;rw[Js_ (by rw[A.o];exact lr_ _),Int.zero_add]at this;exact this);clear K;have aO:y<=24000:=oo;clear ak;obtain⟨W0,rfl⟩:∃W0,W0=wr:=⟨_,rfl⟩;go_wp2;go_loopw [5,7] (λs x wr=>∃(j:Nat) (y:Int),j<=B/\x=I_ j_ j/\s=I_ j_ y/\0<=y/\y<=24000+9*(j:Int)/\Ψ (y+Zu_ P.l1 v (P.l2.drop j)=T)/\Ψ (Blk wr w.heap.size 149 (pcC P.m A0 O c0 A1 J c1 A2 B c2 A3 N3 c3))/\Ψ (Λ w wr)) (λ_ x _=>B-(intOf x).toNat)
 ·exact⟨0,y,lz_ _,rfl,rfl,R,oo,X,o,f⟩
 clear X o f l q0 q1 q2 q3 q4 I R aO;obtain⟨j,y,aZ,rfl,rfl,R,ak,K,o,f⟩:=hrel;have l:=f.o.size;obtain⟨q0,q1,q2,q3,q4,I⟩:=Vp_ o.o;by_cases h2:j<B
 ·obtain⟨⟨a,b,c⟩,q⟩:∃d,P.l2[j]? =σ d:=⟨_,gE (by rw[M.o];omega)⟩;obtain⟨⟨ha,ag⟩,Q,aQ,aR⟩:=HR.o.span _ (lm_ q);dsimp only at ha ag Q aQ aR;obtain⟨a,rfl⟩:=eo_ ha;obtain⟨b,rfl⟩:=eo_ (show 0<=b from oo);have ah:a<=b:=oo;have aU:b+1<J:=(by rw[L.o]at Q;omega);have ab:=h_ (show ∀W,Λ w W->∃p off,A2=σ ⟨p,off,ν⟩/\p<W.heap.size/\W.cell? ⟨p,off+j*3,ν⟩=σ (I_ j_ a)/\W.cell? ⟨p,off+j*3+1,ν⟩=σ (I_ j_ b)/\W.cell? ⟨p,off+j*3+2,ν⟩=σ (I_ j_ c)from λW h=>WJ_ (aq.o W h) h2 q);obtain⟨z,hz⟩:=ex_ (hitS P.l1 v ((a:Int),(b:Int),c));have t:=h_ (WI_ q hz);have S:=h_ (show Xl_ P.l1 v a (b+1)=z by rw[U0_ P.l1 v (c:=c) ah,hz]);clear q hz ha ag Q;obtain⟨p,off,rfl,hp,cx,cy,cz⟩:=ab.o wr f.o;obtain⟨W0,rfl⟩:∃W0,W0=wr:=⟨_,rfl⟩;go_wp2;go_loopw [8,9] (λs x wr=>∃(k:Nat) (z:Bool),a<=k/\k<=b+1/\x=I_ j_ k/\s=B_ z/\Ψ (Xl_ P.l1 v a k=z)/\Ψ (Blk wr w.heap.size 149 (pcC P.m A0 O c0 A1 J c1 (σ ⟨p,off,ν⟩) B c2 A3 N3 c3))/\Ψ (Λ w wr)) (λ_ x _=>b+1-(intOf x).toNat)
  ·exact⟨a,φ,lr_ _,oo,rfl,rfl,h_ (Gp_ _ _ _),o,f⟩
  clear o f l q0 q1 q2 q3 q4 I cx cy cz hp;obtain⟨k,z5,G,a0,rfl,rfl,Y,o,f⟩:=hrel;have l:=f.o.size;obtain⟨q0,q1,q2,q3,q4,I⟩:=Vp_ o.o;obtain⟨p',aV,e',hp,cx,cy,cz⟩:=ab.o wr f.o;injection e' with e';injection e' with e1 e2;subst e1;subst e2;by_cases h3:k<=b
  ·have h4:k<J:=oo;obtain⟨x0,x1,x2,x3,x4,q,aj,aN⟩:=HR.o.chunk (i:=k) (by rw[L.o];omega);obtain⟨p5,o5,rfl,a1,y0,y1,y2,y3,y4⟩:=Zk_ (ao.o wr f.o) h4 q;have HS:=h_ (Blk.new wr 176 #[I_ j_ x1,I_ j_ x2,B_ x3,I_ j_ x4]);obtain⟨x1,rfl⟩:=eo_ aj;clear aj aN
   cases z5 with
   |true=>
    have g:Ψ (Xl_ P.l1 v a (k+1)=τ):=h_ (by rw[Yj_ P.l1 v G,Y.o];rfl);clear q;go_wp2;go_quiet (fail);go_wp2;exact⟨⟨k+1,τ,oo,oo,by go_num,rfl,g,h_ ((o.o.alloc _).drewN _),h_ (below_drewN (f.o.alloc l _) _)⟩,ms_⟩
   |false=>
    by_cases h5:x1<n
    ·obtain⟨y5,m⟩:∃d,v[x1]? =σ d:=⟨_,gE (by rw[A.o];omega)⟩;obtain⟨b5,al,rfl,aE,ax⟩:=Qu_ (HV.o.next f.o) h5 m;have C:=h_ ((qn_ q (v:=v) (by rw[A.o];dsimp only;omega)).trans (Qek_ m));have aX:(x1:Int)<(n:Int):=oo;clear q m;by_cases h6:x2<=y5
     ·have g:Ψ (Xl_ P.l1 v a (k+1)=τ):=h_ (by rw[UE_ G Y.o C.o,dt_ h6];rfl);go_wp2;go_quiet (fail);go_wp2;exact⟨⟨k+1,τ,oo,oo,by go_num,rfl,g,h_ ((o.o.alloc _).drewN _),h_ (below_drewN (f.o.alloc l _) _)⟩,ms_⟩
     have g:Ψ (Xl_ P.l1 v a (k+1)=φ):=h_ (by rw[UE_ G Y.o C.o,df_ h6];rfl);have h7:decide (x2<=y5)=φ:=df_ h6;go_wp2;go_quiet (fail);go_wp2;exact⟨⟨k+1,φ,oo,oo,by go_num,rfl,g,h_ ((o.o.alloc _).drewN _),h_ (below_drewN (f.o.alloc l _) _)⟩,ms_⟩
    have C:=h_<|vM_ q (v:=v) (by rw[A.o];dsimp only;omega);have g:Ψ (Xl_ P.l1 v a (k+1)=φ):=h_ (by rw[UE_ G Y.o C.o];rfl);have h7:decide ((x1:Int)<(n:Int))=φ:=df_ oo;have h8:decide (x1<n)=φ:=df_ h5;clear q;go_wp2;go_quiet (fail);go_wp2;exact⟨⟨k+1,φ,oo,oo,by go_num,rfl,g,h_ ((o.o.alloc _).drewN _),h_ (below_drewN (f.o.alloc l _) _)⟩,ms_⟩
  obtain rfl:k=b+1:=oo;have HZ:Ψ (z=z5):=h_ (by rw[<-S.o,<-Y.o])
  cases z5 with
  |true=>
   go_wp2;go_roundw
   ·exact⟨j+1,y+c,oo,by go_num,rfl,oo,oo,h_ (by rw[<-K.o,t.o,HZ.o];simp only[if_true,eq_self];omega),o,f⟩
   exact ms_
  |false=>
   go_wp2;go_roundw
   ·exact⟨j+1,y,oo,by go_num,rfl,oo,oo,h_ (by rw[<-K.o,t.o,HZ.o];simp only[if_false,Bool.false_eq_true];omega),o,f⟩
   exact ms_
 obtain rfl:B=j:=oo;have g:Ψ (T=y):=h_ (by have:=K.o;rw[Jt_ (by rw[M.o];exact lr_ _)]at this;omega);go_wp2;go_ret;exact⟨Kx_ g.o.symm,f.o⟩
def j4_ (P:Hn) (A0 A1 A2 A3:OA) (c0 c1 c2 c3:Nat) (V:OA) (n cv:Nat) (v:LI) (w:Ω) (hM:PcM P A0 A1 A2 A3 w) (hR:PcR P) (hv:Rd w 1 V n (Qa_ v)) (l:ValR P v) (t:η v=η P.l0):
  Δ π 194 #[A_ (pcCells P A0 A1 A2 A3 c0 c1 c2 c3),S_ V n cv] w (RB_ (I_ j_ (YX_ P.l0 P.l1 P.l2 v)) w):=by
 have X:η v=n:=K2_ hv;have aH:=hR.n0;have hn:n<=8:=by have:=l.1;omega
 have aK:n<=η P.l0:=by have:=l.1;omega
 have HM:=h_ hM;have HR:=h_ hR;have HV:=h_ hv;have ay:=h_ l.2;have aI:=hR.n1;have aJ:=hR.n2;have R:=h_ X;have ae:=h_ (show η P.l0=n by rw[<-t,X]);have L:=h_ (λq c' W h1 h2 h3 h4=>GG_ P A0 A1 A2 A3 c0 c1 c2 c3 V n cv v q c' W h1 HR.o.toPcOk h2 hn h3 h4);obtain⟨T,hT⟩:=ex_ (YX_ P.l0 P.l1 P.l2 v);have HT:=h_ hT;rw[hT];clear hM hR hv l X hT t;unfold pcCells at L |-
 obtain⟨S,D⟩:=ex_ (η P.l0);obtain⟨K,E⟩:=ex_ (η P.l1);obtain⟨B,F⟩:=ex_ (η P.l2);obtain⟨N3,aj⟩:=ex_ (η P.l3);have C:=h_ D;have O:=h_ E;have Q:=h_ F;rw[D,E,F,aj]at L |-
 rw[D]at aK aH;rw[E]at aI;rw[F]at aJ;have av:=h_ (show ∀W,Λ w W->Rd W 2 A0 S (P.l0.flatMap Q0_)from λW h=>by rw[<-C.o];exact(HM.o.next h).r0);have aV:=h_ (show ∀W,Λ w W->Rd W 5 A1 K (P.l1.flatMap Qo_)from λW h=>by rw[<-O.o];exact(HM.o.next h).r1);have ax:=h_ (show ∀W,Λ w W->Rd W 3 A2 B (P.l2.flatMap QJ_)from λW h=>by rw[<-Q.o];exact(HM.o.next h).r2);clear D E F aj;have af:=h_<|Blk.new w 149<|pcC P.m A0 S c0 A1 K c1 A2 B c2 A3 N3 c3;have ac:=h_ (show Λ w (w.alloc (C_ (pcC P.m A0 S c0 A1 K c1 A2 B c2 A3 N3 c3) 149))from Ql_ br);go_in;go_wp2;go_loopw [5,6] (λs x wr=>∃(i:Nat) (y:Int),i<=n/\x=I_ j_ i/\s=I_ j_ y/\0<=y/\y<=3000*(i:Int)/\Ψ (y+(Vs_ (P.l0.drop i) (v.drop i)+Zu_ P.l1 v P.l2)=T)/\Ψ (Blk wr w.heap.size 149 (pcC P.m A0 S c0 A1 K c1 A2 B c2 A3 N3 c3))/\Ψ (Λ w wr)) (λ_ x _=>n-(intOf x).toNat)
 ·exact⟨0,0,lz_ _,rfl,rfl,oo,oo,h_ (by rw[List.drop_zero,List.drop_zero,Int.zero_add];exact HT.o),af,ac⟩
 clear af ac;obtain⟨i,y,aZ,rfl,rfl,Z,ao,M,g,f⟩:=hrel;have G:=f.o.size;obtain⟨q0,q1,q2,q3,q4,J⟩:=Vp_ g.o;by_cases h1:i<n
 ·obtain⟨⟨x0,x1⟩,m⟩:∃d,P.l0[i]? =σ d:=⟨_,gE (by rw[C.o];omega)⟩;obtain⟨y5,I⟩:∃d,v[i]? =σ d:=⟨_,gE (by rw[R.o];omega)⟩;have h0:i<S:=oo;obtain⟨p,off,rfl,hp,cx,cy⟩:=Xo_ (av.o wr f.o) h0 m;obtain⟨b5,aU,rfl,aY,aX⟩:=Qu_ (HV.o.next f.o) h1 I;have r:=h_ (GC_ m I);have H:=HR.o.rule _ (lm_ m);dsimp only at H;obtain⟨aF,aG⟩:=Wl_ (ay.o _ (lm_ I)) ⟨H.2.2.1,H.2.2.2⟩;rw[Int.mul_comm]at r aF aG;clear m I H;go_wp2
  go_region
  go_wp2;go_roundw
  ·exact⟨i+1,y+x1*y5,oo,by go_num,rfl,oo,oo,h_ (by rw[<-M.o,r.o];omega),g,h_ f.o.drew⟩
  exact ms_
 obtain rfl:n=i:=oo;have ad:Ψ (y+Zu_ P.l1 v (P.l2.drop 0)=T):=h_ (by have:=M.o;rw[Js_ (by rw[R.o];exact lr_ _),Int.zero_add]at this;exact this);clear M;have aN:y<=24000:=oo;clear ao;obtain⟨W0,rfl⟩:∃W0,W0=wr:=⟨_,rfl⟩;go_wp2;go_loopw [5,7] (λs x wr=>∃(j:Nat) (y:Int),j<=B/\x=I_ j_ j/\s=I_ j_ y/\0<=y/\y<=24000+9*(j:Int)/\Ψ (y+Zu_ P.l1 v (P.l2.drop j)=T)/\Ψ (Blk wr w.heap.size 149 (pcC P.m A0 S c0 A1 K c1 A2 B c2 A3 N3 c3))/\Ψ (Λ w wr)) (λ_ x _=>B-(intOf x).toNat)
 ·exact⟨0,y,lz_ _,rfl,rfl,Z,oo,ad,g,f⟩
 clear ad g f G q0 q1 q2 q3 q4 J Z aN;obtain⟨j,y,a0,rfl,rfl,Z,ao,M,g,f⟩:=hrel;have G:=f.o.size;obtain⟨q0,q1,q2,q3,q4,J⟩:=Vp_ g.o;by_cases h2:j<B
 ·obtain⟨⟨a,b,c⟩,m⟩:∃d,P.l2[j]? =σ d:=⟨_,gE (by rw[Q.o];omega)⟩;obtain⟨⟨ha,al⟩,U,aP,aQ⟩:=HR.o.span _ (lm_ m);dsimp only at ha al U aP aQ;obtain⟨a,rfl⟩:=eo_ ha;obtain⟨b,rfl⟩:=eo_ (show 0<=b from oo);have am:a<=b:=oo;have aS:b+1<K:=(by rw[O.o]at U;omega);have ag:=h_ (show ∀W,Λ w W->∃p off,A2=σ ⟨p,off,ν⟩/\p<W.heap.size/\W.cell? ⟨p,off+j*3,ν⟩=σ (I_ j_ a)/\W.cell? ⟨p,off+j*3+1,ν⟩=σ (I_ j_ b)/\W.cell? ⟨p,off+j*3+2,ν⟩=σ (I_ j_ c)from λW h=>WJ_ (ax.o W h) h2 m);obtain⟨z,hz⟩:=ex_ (hitS P.l1 v ((a:Int),(b:Int),c));have r:=h_ (WI_ m hz);have ab:=h_ (show Xl_ P.l1 v a (b+1)=z by rw[U0_ P.l1 v (c:=c) am,hz]);clear m hz ha al U;obtain⟨p,off,rfl,hp,cx,cy,cz⟩:=ag.o wr f.o;obtain⟨W0,rfl⟩:∃W0,W0=wr:=⟨_,rfl⟩;go_wp2;go_loopw [8,9] (λs x wr=>∃(k:Nat) (z:Bool),a<=k/\k<=b+1/\x=I_ j_ k/\s=B_ z/\Ψ (Xl_ P.l1 v a k=z)/\Ψ (Blk wr w.heap.size 149 (pcC P.m A0 S c0 A1 K c1 (σ ⟨p,off,ν⟩) B c2 A3 N3 c3))/\Ψ (Λ w wr)) (λ_ x _=>b+1-(intOf x).toNat)
  ·exact⟨a,φ,lr_ _,oo,rfl,rfl,h_ (Gp_ _ _ _),g,f⟩
  clear g f G q0 q1 q2 q3 q4 J cx cy cz hp;obtain⟨k,z5,an,a1,rfl,rfl,HH,g,f⟩:=hrel;have G:=f.o.size;obtain⟨q0,q1,q2,q3,q4,J⟩:=Vp_ g.o;obtain⟨p',aT,e',hp,cx,cy,cz⟩:=ag.o wr f.o;injection e' with e';injection e' with e1 e2;subst e1;subst e2;by_cases h3:k<=b
  ·have h4:k<K:=oo;obtain⟨x0,x1,x2,x3,x4,m,Y,A⟩:=HR.o.chunk (i:=k) (by rw[O.o];omega)
   cases z5 with
   |true=>
    have o:Ψ (Xl_ P.l1 v a (k+1)=τ):=h_ (by rw[Yj_ P.l1 v an,HH.o];rfl);clear m Y A;go_wp2;exact⟨⟨k+1,τ,oo,oo,by go_num,rfl,o,g,f⟩,ms_⟩
   |false=>
    obtain⟨z6,aa⟩:=ex_ (ZE_ v (x0,x1,x2,x3,x4));have HC:=h_<|L.o k _ wr (HM.o.next f.o) (HV.o.next f.o) m ⟨Y,by rw[C.o]at A;rw[<-ae.o,C.o];exact A⟩;have o:Ψ (Xl_ P.l1 v a (k+1)=z6):=h_ (by rw[UE_ an HH.o ((qn_ m (v:=v) (by rw[R.o,<-ae.o];exact A)).trans aa)];rfl);rw[aa]at HC;clear m Y A aa;go_wp2_with (go_at_call 148;refine mb_ HC.o ?_;intro w1 k1)
    exact⟨⟨k+1,z6,oo,oo,by go_num,rfl,o,h_ (g.o.next k1),h_ (Qb_ f.o k1)⟩,ms_⟩
  obtain rfl:k=b+1:=oo;have HZ:Ψ (z=z5):=h_ (by rw[<-ab.o,<-HH.o])
  cases z5 with
  |true=>
   go_wp2;go_roundw
   ·exact⟨j+1,y+c,oo,by go_num,rfl,oo,oo,h_ (by rw[<-M.o,r.o,HZ.o];simp only[if_true,eq_self];omega),g,f⟩
   exact ms_
  |false=>
   go_wp2;go_roundw
   ·exact⟨j+1,y,oo,by go_num,rfl,oo,oo,h_ (by rw[<-M.o,r.o,HZ.o];simp only[if_false,Bool.false_eq_true];omega),g,f⟩
   exact ms_
 obtain rfl:B=j:=oo;have o:Ψ (T=y):=h_ (by have:=M.o;rw[Jt_ (by rw[Q.o];exact lr_ _)]at this;omega);go_wp2;go_ret;exact⟨Kx_ o.o.symm,f.o⟩
def ki_:QK_ (n:Int)++⟨#[32]⟩=QK_ ((n:Int)+1):=by
 apply VY_;show(QK_ (n:Int)).data.toList++[32]=_;unfold QK_;rw[show((n:Int)+1).toNat=(n:Int).toNat+1 from oo,List.replicate_succ']
def V8_ (w:Ω) (hn:0<=x/\x<=1000):Δ π 112 #[I_ j_ x] w (RS_ (T_ (QK_ x)) w):=by
 obtain⟨k,rfl⟩:=eo_ hn.1;have hk:k<=1000:=oo;clear hn;go_in;go_wp2
 go_loop [3,4] (λs n=>∃i:Nat,i<=k/\n=I_ j_ i/\s=T_ (QK_ (i:Int))) (λ_ n=>k-(intOf n).toNat)
 ·exact⟨0,lz_ _,rfl,rfl⟩
 obtain⟨i,a,rfl,rfl⟩:=hrel;have HZ:=h_<|ki_ i;have hz:¬9223372036854775807<(QK_ (i:Int)).size+1:=by rw[Kc_];omega
 by_cases h1:i<k
 ·go_wp2
  go_round
  ·exact⟨i+1,oo,by go_num,by rw[HZ.o];rfl⟩
  exact ms_
 obtain rfl:i=k:=oo;exact Θ
def XW_ {B:Array Oper} {rest:List Oper} {o:Oper} {a:Act} {Q:Exit->Act->Ω->Prop} (s x:Operand) {ks:List BA} {A:BA}
  (m:Ψ (Mine w i 9 1 z k j (Qm_ ks))) (hB:i<=w.heap.size) (n:o.guard=ν) (ho:o.op=.call { callee:=.builtin .append,args:=#[s,x],argTypes:=#[31,31] }) (hs:a.eval s=S_ z k j) (l:a.eval x=S_ (σ ⟨w.heap.size,0,ν⟩) 1 1) (y:k<=1000000000)
  (h:∀A' c' w',Ψ (Mine w' i 9 1 A' (k+1) c' (Qm_ (ks++[A])))->Ψ (w.heap.size<=w'.heap.size/\∀g t cs,Blk w g t cs->t≠9->Blk w' g t cs)->Ψ (∀w0,Below i w0 w->Below i w0 w')->wpList π B Q rest (a.put o.dst (S_ A' (k+1) c')) w'):wpList π B Q (o::rest) a (w.alloc (C_ #[T_ A] 9)):=by
 obtain⟨i0,hi,p,q,r⟩:=info_parts qy_;refine wpList_append_own _ n s x _ ho i 9 i0 (T_ ⟨#[]⟩) 1 16 underlying31 hi p q r rfl dc_ (S_ z k j) k (Qm_ ks) hs (Mine.alloc m.o _) ⟨w.heap.size,0,ν⟩ 1 1 [T_ A] l rfl (km_ _ _ _) (λx l=>by simp at l;subst l;rfl) mx_ oo so_ ?_;intro v' w5 f d w1;obtain⟨A5,c5,rfl,m5⟩:=Mine.of f;have m6:Mine w5 i 9 1 A5 (k+1) c5 (Qm_ (ks++[A])):=by
  have:Qm_ (ks++[A])=Qm_ ks++[T_ A]:=by simp[Qm_]
  rw[this];exact m5
 refine h A5 c5 w5 m6 ⟨lt_ sm_ d.size,λg t cs b ht=>?_⟩ (λw0 b=>?_)
 ·refine(b.alloc _).grown d (λe=>?_);rw[Q3_]at e;obtain⟨v,b'⟩:=Qw_ m.o e.symm;exact Kj_ b b' ht rfl
 exact(b.alloc hB _).grown d so_ (λg d=>by rw[Q3_]at d;exact(Mine.blk m.o d).1)
def xp_ {l:List ChunkD} {c:ChunkD} (h:l[i]? =σ c) (hi:i+1=η l) (s:BA):Y6_ a v (l.drop i) s=[s++c.1]:=by
 obtain⟨h1,h2⟩:=gs_.1 h;rw[List.drop_eq_getElem_cons h1,h2,List.drop_of_length_le oo];show(if ([]:List ChunkD)=[]then _ else _)=_;rw[ip_ rfl]
def Qd0_ {m:Int} {l:List ChunkD}  {c:ChunkD} (h:l[i]? =σ c) (hi:i+1<η l) (s:BA) {z:Bool} (hz:ZE_ v c=z):Y6_ m v (l.drop i) s=if z=τ then (s++c.1)::Y6_ m v (l.drop (i+1)) (QK_ (m+c.2.2.2.2))else Y6_ m v (l.drop (i+1)) (s++c.1++(if c.2.2.2.1=τ then ⟨#[32]⟩else ⟨#[]⟩)):=by
 obtain⟨h1,h2⟩:=gs_.1 h;rw[List.drop_eq_getElem_cons h1,h2]
 conv=>lhs;unfold Y6_
 rw[in_ (λe=>by have:=congrArg List.length e;simp at this;omega),hz]
def x8_ (h:n<=128):(⟨(List.replicate 128 (32:UInt8)).toArray⟩:BA).extract 0 n=QK_ (n:Int):=by
 apply VY_;rw[Qfe_];show((List.replicate 128 (32:UInt8)).take n).drop 0=List.replicate (n:Int).toNat 32;rw[List.drop_zero,List.take_replicate,it_,Nat.min_eq_left h]
def QbP_ (a:n<=100):Δ π 219 #[T_ ⟨#[32]⟩,I_ j_ (n:Int)] m λe w'=>e=R_ (T_ (QK_ (n:Int)))/\m=w':=by
 match n,a with
 |0,_=>
  go_in;exact Θ
 |1,_=>
  go_in;exact Θ
 |k+2,hk=>
  obtain⟨n,a⟩:∃n,n=k+2:=⟨_,rfl⟩;rw[<-a]at hk |-
  have h2:2<=n:=oo;clear a;have HM:=h_<|Tryz.bits_Mul 1 n oo oo m;rw[show 1*n / 18446744073709551616=0 from oo,show 1*n % 18446744073709551616=n from oo]at HM;have h0:((n:Int)==0)=φ:=bn_.2 oo;have h1:((n:Int)==1)=φ:=bn_.2 oo;have HP:=h_ (show Δ π 154 #[T_ ⟨(List.replicate 128 (32:UInt8)).toArray⟩,T_ ⟨#[32]⟩] m λe w'=>e=R_ (B_ τ)/\w'=m from Tryz.strings_HasPrefix ⟨(List.replicate 128 (32:UInt8)).toArray⟩ ⟨#[32]⟩ m);have HT:=h_<|x8_ n oo;go_in;go_wp2_with fail
  refine mb_ HM.o ?_;rintro w1 rfl;go_wp2_with fail;refine mb_ HP.o ?_;rintro w2 rfl;go_wp2;go_ret;exact⟨Xn_ HT.o,rfl⟩
def V1_ (w:Ω) (hn:0<=x/\x<=100):Δ π 175 #[I_ j_ x] w (RS_ (T_ (QK_ x)) w):=by
 obtain⟨k,rfl⟩:=eo_ hn.1;have HR:=h_<|QbP_ k w oo;go_in;go_wp2_with fail
 refine mb_ HR.o ?_;rintro w1 rfl;exact Θ
def Qaq_ {w':Ω} {L a:List BA} (h:L=a) (hl:η a=k) (m:Mine w' w.heap.size 9 1 z k i (Qm_ a)) (hb:Λ w w'):QgE_ w L (R_ (S_ z k i)) w':=by
 subst h;subst hl;exact⟨z,i,rfl,m,hb⟩
def kd_ (a:BA):a++⟨#[]⟩=a:=VY_ (show a.data.toList++[]=_ by simp)
def V3_ (P:Hn) (A0 A1 A2 A3:OA) (c0 c1 c2 c3:Nat) (V:OA) (n cv:Nat) (v:LI) (w:Ω) (hM:PcM P A0 A1 A2 A3 w) (X:PcR P) (hv:Rd w 1 V n (Qa_ v)) (g:η v=η P.l0):
  Δ π 226 #[A_ (pcCells P A0 A1 A2 A3 c0 c1 c2 c3),S_ V n cv] w (QgE_ w (YI_ P.m P.l1 v)):=by
 have al:η v=n:=K2_ hv;have hn:n<=8:=by have:=X.n0;omega
 have HM:=h_ hM;have HR:=h_ X;have HV:=h_ hv;have aF:=X.n1;obtain⟨aE,aP⟩:=X.m;have D:=X.one;have ay:=h_ (show η P.l0=n by rw[<-g,al]);have G:=h_ (λq c' W h1 h2 h3 h4=>zv_ P A0 A1 A2 A3 c0 c1 c2 c3 V n cv v q c' W h1 HR.o.toPcOk h2 hn h3 h4);have aa:=h_ (λk W (h:0<=k/\k<=100)=>V1_ k W h);obtain⟨L,hL⟩:=ex_ (YI_ P.m P.l1 v);have HL:=h_ (show Y6_ P.m v P.l1 (QK_ P.m)=L from hL);rw[hL];clear hM X hv al hL g;unfold pcCells at G |-
 obtain⟨N0,S⟩:=ex_ (η P.l0);obtain⟨b,y⟩:=ex_ (η P.l1);obtain⟨N2,ai⟩:=ex_ (η P.l2);obtain⟨N3,aj⟩:=ex_ (η P.l3);have aN:=h_ S;have f:=h_ y;rw[S,y,ai,aj]at G |-
 rw[y]at aF D;have az:=h_ (show ∀W,Λ w W->Rd W 5 A1 b (P.l1.flatMap Qo_)from λW h=>by rw[<-f.o];exact(HM.o.next h).r1);clear S y ai aj;have ab:=h_<|Blk.new w 149<|pcC P.m A0 N0 c0 A1 b c1 A2 N2 c2 A3 N3 c3;have Z:=h_ (show Λ w (w.alloc (C_ (pcC P.m A0 N0 c0 A1 b c1 A2 N2 c2 A3 N3 c3) 149))from Ql_ br);have ad:=h_ (show Mine (w.alloc (C_ (pcC P.m A0 N0 c0 A1 b c1 A2 N2 c2 A3 N3 c3) 149)) w.heap.size 9 1 ν 0 0 (Qm_ [])from Mine.mk_nil _ _ _ _);have Y:=h_<|aa.o P.m (w.alloc (C_ (pcC P.m A0 N0 c0 A1 b c1 A2 N2 c2 A3 N3 c3) 149)) ⟨aE,oo⟩;go_in;go_wp2_with (go_at_call 175;refine mb_ Y.o ?_;rintro w1 rfl)
 go_loopw [5,6,15] (λo t x wr=>∃(i:Nat) (a:List BA) (s:BA) (A:OA) (c E:Nat),i<b/\E<=i/\x=I_ j_ i/\o=S_ A E c/\t=T_ s/\s.size<=200+1000000000001*i/\Ψ (η a=E)/\Ψ (a++Y6_ P.m v (P.l1.drop i) s=L)/\Ψ (Mine wr w.heap.size 9 1 A E c (Qm_ a))/\Ψ (Blk wr w.heap.size 149 (pcC P.m A0 N0 c0 A1 b c1 A2 N2 c2 A3 N3 c3))/\Ψ (Λ w wr)) (λ_ _ x _=>b-(intOf x).toNat)
 ·exact⟨0,[],QK_ P.m,ν,0,0,D,lr_ _,rfl,rfl,rfl,by rw[Kc_];omega,h_ rfl,h_ (by rw[List.drop_zero];exact HL.o),ad,ab,Z⟩
 clear ab Z ad Y;obtain⟨i,a,s,A,c,E,aD,aO,rfl,rfl,rfl,aQ,r,HE,HO,HK,U⟩:=hrel;have aC:=U.o.size;obtain⟨q0,q1,q2,q3,q4,an⟩:=Vp_ HK.o;obtain⟨⟨x0,x1,x2,T,F⟩,B⟩:∃d,P.l1[i]? =σ d:=⟨_,gE (by rw[f.o];omega)⟩;obtain⟨p,off,rfl,hp,y0,y1,y2,y3,y4⟩:=Zk_ (az.o wr U.o) aD B;have aR:x0.size<=1000000000000:=HR.o.text _<|lm_ B;have aI:=HR.o.nest _<|lm_ B;dsimp only at aI;have aS:¬9223372036854775807<s.size+x0.size:=oo;have aL:¬9223372036854775807<s.size+x0.size+1:=oo;have HS:=h_<|Blk.new wr 178 #[T_ x0,I_ j_ x1,I_ j_ x2,B_ T,I_ j_ F];have ae:=h_<|HO.o.alloc<|C_ #[T_ x0,I_ j_ x1,I_ j_ x2,B_ T,I_ j_ F] 178;have C:w.heap.size<=(wr.alloc (C_ #[T_ x0,I_ j_ x1,I_ j_ x2,B_ T,I_ j_ F] 178)).heap.size:=by simp;omega
 by_cases h1:i+1=b
 ·have aA:Ψ (L=a++[s++x0]):=h_ (by rw[<-HE.o,xp_ B (by rw[f.o];exact h1)]);have hb:((i:Int)==(b:Int)-1)=τ:=(by rw[beq_iff_eq];omega);clear B h1;go_wp2_with (at_builtin;refine XW_ (.tmp 51) (.tmp 53) ae C rfl rfl rfl er_ oo ?_;intro A5 c5 w5 M J H);go_wp2;go_ret;exact Qaq_ aA.o (by rw[lA,r.o];rfl) M.o<|H.o _<|U.o.alloc aC _
 have j:i+1<b:=oo;have hb:((i:Int)==(b:Int)-1)=φ:=(by rw[bn_];omega);obtain⟨z,hz⟩:=ex_ (ZE_ v (x0,x1,x2,T,F));have hr:=HR.o.split i _ B (by rw[f.o];exact j);have HC:=h_<|G.o i _ (wr.alloc (C_ #[T_ x0,I_ j_ x1,I_ j_ x2,B_ T,I_ j_ F] 178)) ((HM.o.next U.o).alloc _) ((HV.o.next U.o).alloc _) B ⟨hr.1,by rw[<-ay.o];exact hr.2⟩;have O:=h_<|Qd0_ (m:=P.m) B (by rw[f.o];exact j) s hz;rw[hz]at HC;have av:=h_ (λW=>aa.o (P.m+F) W ⟨oo,oo⟩);clear B hr hz;go_wp2_with fail
 refine mb_ HC.o ?_;intro w1 k1;have I:=h_<|HK.o.next1 k1;have K:=h_<|HO.o.next1 k1;have l:=h_<|Q7_ U.o k1;have Q:=h_<|HS.o.next k1;have t3:w1.cell? ⟨wr.heap.size,3,ν⟩=σ (B_ T):=Q.o.cell 3;have aK:=Q.o.lt;clear HC k1 q0 q1 q2 q3 q4 an y0 y1 y2 y3 y4 hp C ae HS;have ak:=l.o.size
 cases z with
 |true=>
  go_upto_region 10 with(at_builtin;refine XW_ (.tmp 34) (.tmp 36) K ak rfl rfl rfl er_ oo ?_;intro A5 c5 w5 M J H)
  have ac:=h_<|J.o.2 _ _ _ I.o dc_;have ar:=h_<|H.o _ l.o;obtain⟨q0,q1,q2,q3,q4,an⟩:=Vp_ ac.o;have R:=J.o.2 _ _ _ Q.o dc_;have t4:w5.cell? ⟨wr.heap.size,4,ν⟩=σ (I_ j_ F):=R.cell 4;have aM:=R.lt;clear R t3 aK;go_wp2_with (go_at_call 175;refine mb_ (av.o _) ?_;rintro w6 rfl)
  go_roundw
  ·exact⟨i+1,a++[s++x0],QK_ (P.m+F),A5,c5,E+1,j,oo,by go_num,rfl,rfl,by rw[Kc_];omega,h_ (by rw[lA,r.o];rfl),h_ (by rw[<-HE.o,O.o,ip_ sm_,List.append_assoc];rfl),M,ac,ar⟩
  exact ms_
 |false=>
  cases T with
  |true=>
   go_wp2;go_roundw
   ·exact⟨i+1,a,s++x0++⟨#[32]⟩,A,c,E,j,oo,by go_num,rfl,rfl,by rw[bs_,bs_];show s.size+x0.size+1<=_;omega,r,h_ (by rw[<-HE.o,O.o,in_ sm_];rfl),K,I,l⟩
   exact ms_
  |false=>
   go_wp2;go_roundw
   ·exact⟨i+1,a,s++x0,A,c,E,j,oo,by go_num,rfl,rfl,by rw[bs_];omega,r,h_ (by rw[<-HE.o,O.o,in_ sm_];show _=a++Y6_ P.m v (P.l1.drop (i+1)) (s++x0++⟨#[]⟩);rw[kd_]),K,I,l⟩
   exact ms_
def ze_ (P:Hn) (A0 A1 A2 A3:OA) (c0 c1 c2 c3:Nat) (V:OA) (n cv:Nat) (v:LI) (w:Ω) (hM:PcM P A0 A1 A2 A3 w) (Y:PcR P) (hv:Rd w 1 V n (Qa_ v)) (l:η v=η P.l0):
  Δ π 116 #[A_ (pcCells P A0 A1 A2 A3 c0 c1 c2 c3),S_ V n cv] w (QgE_ w (YI_ P.m P.l1 v)):=by
 have ao:η v=n:=K2_ hv;have hn:n<=8:=by have:=Y.n0;omega
 have HM:=h_ hM;have HR:=h_ Y;have HV:=h_ hv;have aD:=Y.n1;obtain⟨aC,aT⟩:=Y.m;have F:=Y.one;have az:=h_ (show η P.l0=n by rw[<-l,ao]);have H:=h_ (λq c' W h1 h2 h3 h4=>GG_ P A0 A1 A2 A3 c0 c1 c2 c3 V n cv v q c' W h1 HR.o.toPcOk h2 hn h3 h4);have ac:=h_ (λk W (h:0<=k/\k<=100)=>V8_ k W ⟨h.1,oo⟩);obtain⟨L,hL⟩:=ex_ (YI_ P.m P.l1 v);have HL:=h_ (show Y6_ P.m v P.l1 (QK_ P.m)=L from hL);rw[hL];clear hM Y hv ao hL l;unfold pcCells at H |-
 obtain⟨O,T⟩:=ex_ (η P.l0);obtain⟨f,D⟩:=ex_ (η P.l1);obtain⟨Q,ak⟩:=ex_ (η P.l2);obtain⟨R,al⟩:=ex_ (η P.l3);have aQ:=h_ T;have j:=h_ D;rw[T,D,ak,al]at H |-
 rw[D]at aD F;have ah:=h_ (show ∀W,Λ w W->Rd W 5 A1 f (P.l1.flatMap Qo_)from λW h=>by rw[<-j.o];exact(HM.o.next h).r1);clear T D ak al;have ae:=h_ (show Blk ((w.alloc (C_ (pcC P.m A0 O c0 A1 f c1 A2 Q c2 A3 R c3) 149)).alloc (C_ #[] 9)) w.heap.size 149 (pcC P.m A0 O c0 A1 f c1 A2 Q c2 A3 R c3)from(Blk.new _ _ _).alloc _);have aa:=h_ (Z3_ w (C_ (pcC P.m A0 O c0 A1 f c1 A2 Q c2 A3 R c3) 149) (C_ #[] 9));have ai:=h_ (show Mine ((w.alloc (C_ (pcC P.m A0 O c0 A1 f c1 A2 Q c2 A3 R c3) 149)).alloc (C_ #[] 9)) w.heap.size 9 1 (σ ⟨w.heap.size+1,0,ν⟩) 0 0 (Qm_ [])from by
  have h:=ZA_ (w.alloc (C_ (pcC P.m A0 O c0 A1 f c1 A2 Q c2 A3 R c3) 149)) 9 1;rw[ws_]at h;exact Mine.more h (oo:w.heap.size<=w.heap.size+1))
 have Z:=h_<|ac.o P.m ((w.alloc (C_ (pcC P.m A0 O c0 A1 f c1 A2 Q c2 A3 R c3) 149)).alloc (C_ #[] 9)) ⟨aC,oo⟩;go_in;go_wp2_with (go_at_call 112;refine mb_ Z.o ?_;rintro w1 rfl)
 go_loopw [5,6,7] (λo t x wr=>∃(i:Nat) (b:List BA) (s:BA) (A:OA) (c G:Nat),i<f/\G<=i/\x=I_ j_ i/\o=S_ A G c/\t=T_ s/\s.size<=200+1000000000001*i/\Ψ (η b=G)/\Ψ (b++Y6_ P.m v (P.l1.drop i) s=L)/\Ψ (Mine wr w.heap.size 9 1 A G c (Qm_ b))/\Ψ (Blk wr w.heap.size 149 (pcC P.m A0 O c0 A1 f c1 A2 Q c2 A3 R c3))/\Ψ (Λ w wr)) (λ_ _ x _=>f-(intOf x).toNat)
 ·exact⟨0,[],QK_ P.m,σ ⟨w.heap.size+1,0,ν⟩,0,0,F,lr_ _,rfl,rfl,rfl,by rw[Kc_];omega,h_ rfl,h_ (by rw[List.drop_zero];exact HL.o),ai,ae,aa⟩
 clear ae aa ai Z;obtain⟨i,b,s,A,c,G,an,aS,rfl,rfl,rfl,aU,C,HE,HO,HK,X⟩:=hrel;have aR:=X.o.size;obtain⟨q0,q1,q2,q3,q4,U⟩:=Vp_ HK.o;obtain⟨⟨x0,x1,x2,x3,x4⟩,y⟩:∃d,P.l1[i]? =σ d:=⟨_,gE (by rw[j.o];omega)⟩;obtain⟨p,off,rfl,hp,y0,y1,y2,y3,y4⟩:=Zk_ (ah.o wr X.o) an y;have aV:x0.size<=1000000000000:=HR.o.text _<|lm_ y;have aH:=HR.o.nest _<|lm_ y;dsimp only at aH;have aX:¬9223372036854775807<s.size+x0.size:=oo;have aP:¬9223372036854775807<s.size+x0.size+1:=oo;have aj:=HO;have E:w.heap.size<=wr.heap.size:=oo;by_cases h1:i+1=f
 ·have aA:Ψ (L=b++[s++x0]):=h_ (by rw[<-HE.o,xp_ y (by rw[j.o];exact h1)]);have hb:((i:Int)+1==(f:Int))=τ:=(by rw[beq_iff_eq];omega);clear y h1;go_wp2_with (at_builtin;refine XW_ (.tmp 61) (.tmp 63) aj E rfl rfl rfl er_ oo ?_;intro A5 c5 w5 K af I);go_wp2;go_ret;exact Qaq_ aA.o (by rw[lA,C.o];rfl) K.o<|I.o _ X.o
 have r:i+1<f:=oo;have hb:((i:Int)+1==(f:Int))=φ:=(by rw[bn_];omega);obtain⟨z,hz⟩:=ex_ (ZE_ v (x0,x1,x2,x3,x4));have hr:=HR.o.split i _ y (by rw[j.o];exact r);have HC:=h_<|H.o i _ wr (HM.o.next X.o) (HV.o.next X.o) y ⟨hr.1,by rw[<-az.o];exact hr.2⟩;have M:=h_<|Qd0_ (m:=P.m) y (by rw[j.o];exact r) s hz;rw[hz]at HC;have ax:=h_ (λW=>ac.o (P.m+x4) W ⟨oo,oo⟩);have ad:=h_ (show ∀W,Λ w W->∃b' a,σ (⟨p,off,ν⟩:Addr)=σ ⟨b',a,ν⟩/\b'<W.heap.size/\W.cell? ⟨b',a+i*5,ν⟩=σ (T_ x0)/\W.cell? ⟨b',a+i*5+1,ν⟩=σ (I_ j_ x1)/\W.cell? ⟨b',a+i*5+2,ν⟩=σ (I_ j_ x2)/\W.cell? ⟨b',a+i*5+3,ν⟩=σ (B_ x3)/\W.cell? ⟨b',a+i*5+4,ν⟩=σ (I_ j_ x4)from λW h=>Zk_ (ah.o W h) an y);clear y hr hz;go_wp2_with fail
 refine mb_ HC.o ?_;intro w1 k1;have B:=h_<|HK.o.next k1;have J:=h_<|HO.o.next k1;have g:=h_<|Qb_ X.o k1;clear HC k1 q0 q1 q2 q3 q4 U y0 y1 y2 y3 y4 hp E aj;have am:=g.o.size
 cases z with
 |true=>
  go_upto_region 10 with(at_builtin;refine XW_ (.tmp 37) (.tmp 39) J am rfl rfl rfl er_ oo ?_;intro A5 c5 w5 K af I)
  have ag:=h_<|af.o.2 _ _ _ B.o dc_;have ab:=h_<|I.o _ g.o;obtain⟨q0,q1,q2,q3,q4,U⟩:=Vp_ ag.o;obtain⟨p',a,S,hp,y0,y1,y2,y3,y4⟩:=ad.o w5 ab.o;injection S with S;injection S with e1 e2;subst e1;subst e2;go_quiet ((go_at_call 112;exact Calls.quiet_of_same ((ax.o _).mono λ_ _ h=>⟨h.1,h.2.symm⟩)));go_wp2;go_roundw
  ·exact⟨i+1,b++[s++x0],QK_ (P.m+x4),A5,c5,G+1,r,oo,by go_num,rfl,rfl,by rw[Kc_];omega,h_ (by rw[lA,C.o];rfl),h_ (by rw[<-HE.o,M.o,ip_ sm_,List.append_assoc];rfl),K,ag,h_ (below_drewN ab.o _)⟩
  exact ms_
 |false=>
  obtain⟨p',a,S,hp,y0,y1,y2,y3,y4⟩:=ad.o w1 g.o;injection S with S;injection S with e1 e2;subst e1;subst e2;obtain⟨q0,q1,q2,q3,q4,U⟩:=Vp_ B.o
  cases x3 with
  |true=>
   go_wp2;go_roundw
   ·exact⟨i+1,b,s++x0++⟨#[32]⟩,A,c,G,r,oo,by go_num,rfl,rfl,by rw[bs_,bs_];show s.size+x0.size+1<=_;omega,C,h_ (by rw[<-HE.o,M.o,in_ sm_];rfl),J,B,g⟩
   exact ms_
  |false=>
   go_wp2;go_roundw
   ·exact⟨i+1,b,s++x0,A,c,G,r,oo,by go_num,rfl,rfl,by rw[bs_];omega,C,h_ (by rw[<-HE.o,M.o,in_ sm_];show _=b++Y6_ P.m v (P.l1.drop (i+1)) (s++x0++⟨#[]⟩);rw[kd_]),J,B,g⟩
   exact ms_
def QaM_ {l:List ChunkD} (h:∀c∈l,c.1.size<=i):KB_ l<=η l*i:=by
 induction l with
 |nil=>exact lz_ _
 |cons c l ih=>
  have h1:=h c sm_;have h2:=ih (λd hd=>h d (by simp[hd]));rw[show KB_ (c::l)=c.1.size+KB_ l by simp[KB_],List.length_cons,Nat.add_mul];omega
def PcR.all {P:Hn} (h:PcR P):KB_ P.l1<=80000000000000:=by
 have h1:=QaM_ h.text;have h2:=h.n1;have h3:η P.l1*Xj_<=80*Xj_:=Nat.mul_le_mul_right _ h2;unfold Xj_ at h1 h3;omega
def q3_ (w:Ω):Δ π 193 #[I_ j_ x] w (RS_ (I_ j_ (Zj_ x)) w):=by
 unfold Zj_;by_cases h1:x<0
 ·rw[show max 0 (min x 100000)=0 from oo];go_in;exact Θ
 by_cases h2:100000<x
 ·rw[show max 0 (min x 100000)=100000 from oo];go_in;exact Θ
 rw[show max 0 (min x 100000)=x from oo];go_in;exact Θ
def QdP_ {m:Int} {v:LI} {width:Int} {l:List ChunkD} {c:ChunkD} (h:l[i]? =σ c) (n o:Int) {z:Bool} (hz:(decide (i+1=η l)||ZE_ v c)=z):Wr_ m v width (l.drop i) n o=if z=τ then Wr_ m v width (l.drop (i+1)) (m+c.2.2.2.2) (if width<n+c.1.size then o+(n+c.1.size)-width else o)else Wr_ m v width (l.drop (i+1)) (if c.2.2.2.1=τ then n+c.1.size+1 else n+c.1.size) o:=by
 obtain⟨h1,h2⟩:=gs_.1 h;have hd:l.drop (i+1)=[]↔i+1=η l:=by
  constructor
  ·intro e;have:=congrArg List.length e;simp at this;omega
  intro e;exact List.drop_of_length_le oo
 rw[List.drop_eq_getElem_cons h1,h2]
 conv=>lhs;unfold Wr_
 dsimp only;subst hz;by_cases a:i+1=η l
 ·rw[ip_ (.inl (hd.2 a)),dt_ a,τp,ip_ rfl]
 rw[df_ a,Bool.false_or]
 cases hs:ZE_ v c with
 |true=>rw[ip_ (.inr rfl),ip_ rfl]
 |false=>rw[in_ (λh=>h.elim (λe=>a (hd.1 e)) sm_)];simp only[Bool.false_eq_true,if_false]
def Qhy_ {P:Hn} (a:PcR P) (v:LI):Wr_ P.m v (Zj_ P.width) P.l1 P.m 0=Uq_ (Zj_ P.width) (YI_ P.m P.l1 v):=by
 have h1:=QfL_ (m:=P.m) (v:=v) (width:=Zj_ P.width) P.l1 (QK_ P.m) 0 (λe=>by have:=a.one;rw[e]at this;simp at this) (λc hc=>by have:=a.nest c hc;have:=a.m;omega);rw[Kc_,Int.zero_add]at h1;have h2:((P.m.toNat:Nat):Int)=P.m:=by have:=a.m;omega
 rw[h2]at h1;exact h1
def xC_ (P:Hn) (A0 A1 A2 A3:OA) (c0 c1 c2 c3:Nat) (V:OA) (n cv:Nat) (v:LI) (w:Ω) (hM:PcM P A0 A1 A2 A3 w) (E:PcR P) (hv:Rd w 1 V n (Qa_ v)) (k:η v=η P.l0):
  Δ π 192 #[A_ (pcCells P A0 A1 A2 A3 c0 c1 c2 c3),S_ V n cv,I_ j_ (Zj_ P.width)] w λe w'=>e=R_ (I_ j_ (Uq_ (Zj_ P.width) (YI_ P.m P.l1 v)))/\Λ w w':=by
 have O:η v=n:=K2_ hv;have hn:n<=8:=by have:=E.n0;omega
 have HM:=h_ hM;have Y:=h_ E;have HV:=h_ hv;have al:=E.n1;obtain⟨ak,az⟩:=E.m;have M:=E.one;have ac:=h_ (show η P.l0=n by rw[<-k,O]);have B:=h_ (λq c' W h1 Z h3 h4=>GG_ P A0 A1 A2 A3 c0 c1 c2 c3 V n cv v q c' W h1 Y.o.toPcOk Z hn h3 h4);obtain⟨T,hT⟩:=ex_ (Uq_ (Zj_ P.width) (YI_ P.m P.l1 v));have HT:=h_ (show Wr_ P.m v (Zj_ P.width) P.l1 P.m 0=T from(Qhy_ E v).trans hT);have Q:0<=Zj_ P.width:=by unfold Zj_;omega
 have R:Zj_ P.width<=100000:=by unfold Zj_;omega
 rw[hT];generalize Zj_ P.width=wd at HT Q R |-
 clear hM E hv O hT k;unfold pcCells at B |-
 obtain⟨N0,D⟩:=ex_ (η P.l0);obtain⟨g,r⟩:=ex_ (η P.l1);obtain⟨N2,J⟩:=ex_ (η P.l2);obtain⟨N3,K⟩:=ex_ (η P.l3);have ax:=h_ D;have f:=h_ r;rw[D,r,J,K]at B |-
 rw[r]at al M;have I:=h_ (show ∀W,Λ w W->Rd W 5 A1 g (P.l1.flatMap Qo_)from λW h=>by rw[<-f.o];exact(HM.o.next h).r1);clear D r J K;have H:=h_<|Blk.new w 149<|pcC P.m A0 N0 c0 A1 g c1 A2 N2 c2 A3 N3 c3;have G:=h_ (show Λ w (w.alloc (C_ (pcC P.m A0 N0 c0 A1 g c1 A2 N2 c2 A3 N3 c3) 149))from Ql_ br);go_in;go_wp2;go_loopw [7,8,9] (λo t x wr=>∃(i:Nat) (y s:Int),i<=g/\x=I_ j_ i/\o=I_ j_ y/\t=I_ j_ s/\0<=y/\y<=100000000000000*(i:Int)/\0<=s/\s<=200+1000000000001*(i:Int)/\Ψ (Wr_ P.m v wd (P.l1.drop i) s y=T)/\Ψ (Blk wr w.heap.size 149 (pcC P.m A0 N0 c0 A1 g c1 A2 N2 c2 A3 N3 c3))/\Ψ (Λ w wr)) (λ_ _ x _=>g-(intOf x).toNat)
 ·exact⟨0,0,P.m,lz_ _,rfl,rfl,rfl,oo,oo,ak,oo,h_ (by rw[List.drop_zero];exact HT.o),H,G⟩
 clear H G;obtain⟨i,y,s,ay,rfl,rfl,rfl,aD,aE,aA,aB,C,X,A⟩:=hrel;have L:=A.o.size;obtain⟨q0,q1,q2,q3,q4,U⟩:=Vp_ X.o;by_cases h1:i<g
 ·obtain⟨⟨x0,x1,x2,x3,F⟩,l⟩:∃d,P.l1[i]? =σ d:=⟨_,gE (by rw[f.o];omega)⟩;obtain⟨p,off,rfl,hp,y0,y1,y2,y3,y4⟩:=Zk_ (I.o wr A.o) h1 l;have aC:x0.size<=1000000000000:=Y.o.text _ (lm_ l);have S:=Y.o.nest _ (lm_ l);dsimp only at S;obtain⟨ar,av⟩:=S;by_cases Z:i+1=g
  ·have hb:((i:Int)+1==(g:Int))=τ:=(by rw[beq_iff_eq];omega);have b:=h_ (QdP_ (m:=P.m) (v:=v) (width:=wd) l s y (z:=τ) (by rw[f.o,dt_ Z,τp]));clear l;by_cases h5:wd<s+x0.size
   ·go_wp2
    go_region
    go_wp2;exact⟨⟨i+1,y+(s+x0.size)-wd,P.m+F,oo,by go_num,rfl,rfl,oo,oo,oo,oo,h_ (by rw[<-C.o,b.o,ip_ sm_,ip_ h5]),X,h_ (A.o).drew⟩,ms_⟩
   go_wp2
   go_region
   go_wp2;exact⟨⟨i+1,y,P.m+F,oo,by go_num,rfl,rfl,oo,oo,oo,oo,h_ (by rw[<-C.o,b.o,ip_ sm_,in_ oo]),X,h_ (A.o).drew⟩,ms_⟩
  have hb:((i:Int)+1==(g:Int))=φ:=(by rw[bn_];omega);have aj:i+1<g:=oo;obtain⟨z,hz⟩:=ex_ (ZE_ v (x0,x1,x2,x3,F));have hr:=Y.o.split i _ l (by rw[f.o];exact aj);have HC:=h_<|B.o i _ wr (HM.o.next A.o) (HV.o.next A.o) l ⟨hr.1,by rw[<-ac.o];exact hr.2⟩;have b:=h_<|QdP_ (m:=P.m) (v:=v) (width:=wd) l s y (z:=z) (by rw[f.o,df_ Z,Bool.false_or,hz]);rw[hz]at HC;have ab:=h_ (show ∀W,Λ w W->∃b' a,σ (⟨p,off,ν⟩:Addr)=σ ⟨b',a,ν⟩/\b'<W.heap.size/\W.cell? ⟨b',a+i*5,ν⟩=σ (T_ x0)/\W.cell? ⟨b',a+i*5+1,ν⟩=σ (I_ j_ x1)/\W.cell? ⟨b',a+i*5+2,ν⟩=σ (I_ j_ x2)/\W.cell? ⟨b',a+i*5+3,ν⟩=σ (B_ x3)/\W.cell? ⟨b',a+i*5+4,ν⟩=σ (I_ j_ F)from λW h=>Zk_ (I.o W h) h1 l);clear l hr hz;go_wp2_with fail
  refine mb_ HC.o ?_;intro w1 k1;have j:=h_<|X.o.next k1;have c:=h_<|Qb_ A.o k1;clear HC k1 q0 q1 q2 q3 q4 U y0 y1 y2 y3 y4 hp L;have L:=c.o.size;obtain⟨q0,q1,q2,q3,q4,U⟩:=Vp_ j.o;obtain⟨p',a,e',hp,y0,y1,y2,y3,y4⟩:=ab.o w1 c.o;injection e' with e';injection e' with e1 e2;subst e1;subst e2
  cases z with
  |true=>
   by_cases h5:wd<s+x0.size
   ·go_wp2
    go_region
    go_wp2;exact⟨⟨i+1,y+(s+x0.size)-wd,P.m+F,oo,by go_num,rfl,rfl,oo,oo,oo,oo,h_ (by rw[<-C.o,b.o,ip_ sm_,ip_ h5]),j,h_ (c.o).drew⟩,ms_⟩
   go_wp2
   go_region
   go_wp2;exact⟨⟨i+1,y,P.m+F,oo,by go_num,rfl,rfl,oo,oo,oo,oo,h_ (by rw[<-C.o,b.o,ip_ sm_,in_ oo]),j,h_ (c.o).drew⟩,ms_⟩
  |false=>
   cases x3 with
   |true=>
    go_wp2;go_roundw
    ·exact⟨i+1,y,s+x0.size+1,oo,by go_num,rfl,rfl,oo,oo,oo,oo,h_ (by rw[<-C.o,b.o,in_ sm_];rfl),j,c⟩
    exact ms_
   |false=>
    go_wp2;go_roundw
    ·exact⟨i+1,y,s+x0.size,oo,by go_num,rfl,rfl,oo,oo,oo,oo,h_ (by rw[<-C.o,b.o,in_ sm_];rfl),j,c⟩
    exact ms_
 obtain rfl:i=g:=oo;have b:Ψ (T=y):=h_ (by have:=C.o;rw[List.drop_of_length_le (by rw[f.o];exact lr_ _)]at this;exact this.symm);go_wp2;go_ret;exact⟨Kx_ b.o.symm,A.o⟩
abbrev costC (c:Int × Int):Υ:=A_ #[I_ j_ c.1,I_ j_ c.2]
def pc_s {w:Ω} {g h:Nat} {t:TypeId} {m:Int} {A0 A1 A2 A3:OA} {n0 c0 n1 c1 n2 c2 n3 c3:Nat} (hb:Blk w g t (pcC m A0 n0 c0 A1 n1 c1 A2 n2 c2 A3 n3 c3)) (f:g≠h) (i j:Nat) (u v:Υ):
  ((w.setCell ⟨h,i,ν⟩ u).setCell ⟨h,j,ν⟩ v).cell? ⟨g,0,ν⟩=σ (I_ j_ m)/\((w.setCell ⟨h,i,ν⟩ u).setCell ⟨h,j,ν⟩ v).cell? ⟨g,1,ν⟩=σ (S_ A0 n0 c0)/\((w.setCell ⟨h,i,ν⟩ u).setCell ⟨h,j,ν⟩ v).cell? ⟨g,2,ν⟩=σ (S_ A1 n1 c1)/\((w.setCell ⟨h,i,ν⟩ u).setCell ⟨h,j,ν⟩ v).cell? ⟨g,3,ν⟩=σ (S_ A2 n2 c2)/\((w.setCell ⟨h,i,ν⟩ u).setCell ⟨h,j,ν⟩ v).cell? ⟨g,4,ν⟩=σ (S_ A3 n3 c3):=by
 obtain⟨a,b,c,d,e,_⟩:=Vp_ ((hb.far (p:=⟨h,i,ν⟩) f u).far (p:=⟨h,j,ν⟩) f v);exact⟨a,b,c,d,e⟩
def QfM_ {wd:Int} {l:List BA} {s:BA} (h:l[i]? =σ s):Uq_ wd (l.drop i)=max ((s.size:Int)-wd) 0+Uq_ wd (l.drop (i+1))/\szL (l.drop i)=s.size+1+szL (l.drop (i+1)):=by
 obtain⟨h1,h2⟩:=gs_.1 h;rw[List.drop_eq_getElem_cons h1,h2];exact⟨rfl,VP_ _ _⟩
def jE_ {P:Hn} (hR:PcR P) (v:LI):szL (YI_ P.m P.l1 v)<=90000000000000:=by
 have h1:=xq_ hR v;have h2:=hR.all;omega
def GT_ (P:Hn) (A0 A1 A2 A3:OA) (c0 c1 c2 c3:Nat) (V:OA) (n cv:Nat) (v:LI) (w:Ω) (hM:PcM P A0 A1 A2 A3 w) (U:PcR P) (hv:Rd w 1 V n (Qa_ v)) (l:ValR P v) (k:η v=η P.l0):
  Δ π 270 #[A_ (pcCells P A0 A1 A2 A3 c0 c1 c2 c3),S_ V n cv,I_ j_ P.width] w (RB_ (costC (P.cost v)) w):=by
 have p:=h_<|jE_ U v;have a:=h_ (λW h=>JK_ P A0 A1 A2 A3 c0 c1 c2 c3 V n cv v W (hM.next h) U (hv.next h) l);have b:=h_ (λW h=>V3_ P A0 A1 A2 A3 c0 c1 c2 c3 V n cv v W (hM.next h) U (hv.next h) k);unfold Hn.cost QgP_;generalize hL:YI_ P.m P.l1 v=L at p b |-
 generalize hT:YX_ P.l0 P.l1 P.l2 v=T at a |-
 have R:0<=Zj_ P.width:=by unfold Zj_;omega
 have S:Zj_ P.width<=100000:=by unfold Zj_;omega
 have H:=h_ (show max 0 (min P.width 100000)=Zj_ P.width from rfl);generalize Zj_ P.width=wd at H R S |-
 generalize hO:Uq_ wd L=O;have HO:=h_ hO;clear hM U hv l k hL hT hO;unfold pcCells at a b |-
 generalize (η P.l0)=I at a b |-
 generalize (η P.l1)=J at a b |-
 generalize (η P.l2)=K at a b |-
 generalize (η P.l3)=M at a b |-
 have f:=h_ (show Blk ((w.alloc (C_ (pcC P.m A0 I c0 A1 J c1 A2 K c2 A3 M c3) 149)).alloc (C_ #[I_ j_ 0,I_ j_ 0] 182)) w.heap.size 149 (pcC P.m A0 I c0 A1 J c1 A2 K c2 A3 M c3)from(Blk.new _ _ _).alloc _);have j:=h_ (show Blk ((w.alloc (C_ (pcC P.m A0 I c0 A1 J c1 A2 K c2 A3 M c3) 149)).alloc (C_ #[I_ j_ 0,I_ j_ 0] 182)) (w.heap.size+1) 182 #[I_ j_ 0,I_ j_ 0]from by have:=Blk.new (w.alloc (C_ (pcC P.m A0 I c0 A1 J c1 A2 K c2 A3 M c3) 149)) 182 #[I_ j_ 0,I_ j_ 0];rwa[ws_]at this);have d:=h_<|Z3_ w (C_ (pcC P.m A0 I c0 A1 J c1 A2 K c2 A3 M c3) 149)<|C_ #[I_ j_ 0,I_ j_ 0] 182;go_in;go_wp2_with fail
 refine mb_ (a.o _ d.o) ?_;intro w1 X;replace f:=h_ (f.o.next X);replace j:=h_ (j.o.next X);replace d:=h_ (Qb_ d.o X);clear a X;obtain⟨q0,q1,q2,q3,q4,ak⟩:=Vp_ f.o;have m:=h_<|d.o.alloc d.o.size<|C_ #[I_ j_ 0,I_ j_ T] 182;have aa:=h_<|f.o.alloc<|C_ #[I_ j_ 0,I_ j_ T] 182;have F:=h_<|j.o.alloc<|C_ #[I_ j_ 0,I_ j_ T] 182;have C:=h_<|Blk.new w1 182 #[I_ j_ 0,I_ j_ T];have ag:w.heap.size+1<w1.heap.size:=j.o.lt;go_wp2_with fail
 rw[H.o];refine(b.o _ m.o).mono ?_;rintro e w2 h2;obtain⟨A,c,rfl,hm,Y⟩:=h2;have B:=h_<|Qb_ m.o Y;have G:=h_<|F.o.next Y;have o:=h_<|C.o.next Y;have ae:η L<=90000000000000:=lt_ (Ya_ L) p.o;obtain⟨r,t⟩:=ex_ (η L);rw[t]at ae hm |-
 have D:=h_ t;have q:=h_<|hm.more (by simp:w1.heap.size+1<=_);generalize w1.heap.size=g at o ag q |-
 clear q0 q1 q2 q3 q4 ak f aa j F C d m b Y hm t;go_wp2;go_loopw [21] (λx wr=>∃(i:Nat) (y:Int),i<=r/\x=I_ j_ i/\0<=y/\y+(szL (L.drop i):Nat)<=90000000000000/\Ψ (y+Uq_ wd (L.drop i)=O)/\Ψ (Blk wr g 182 #[I_ j_ y,I_ j_ T])/\Ψ (Blk wr (w.heap.size+1) 182 #[I_ j_ 0,I_ j_ 0])/\Ψ (Mine wr (g+1) 9 1 A r c (Qm_ L))/\Ψ (Λ w wr)) (λx _=>r-(intOf x).toNat)
 ·exact⟨0,0,lz_ _,rfl,oo,by rw[List.drop_zero];have:=p.o;omega,h_ (by rw[List.drop_zero,Int.zero_add];exact HO.o),o,G,q,B⟩
 clear o G q B;obtain⟨i,y,ap,rfl,ar,aj,HE,z,E,HM,Z⟩:=hrel;have ao:=Z.o.size;have d0:wr.cell? ⟨g,0,ν⟩=σ (I_ j_ y):=z.o.cell 0;have d1:wr.cell? ⟨g,1,ν⟩=σ (I_ j_ T):=z.o.cell 1;have df:=z.o.frozen;have dl:=z.o.lt;by_cases h1:i<r
 ·obtain⟨s,hs⟩:∃s,L[i]? =σ s:=⟨_,gE (by rw[D.o];omega)⟩;obtain⟨b5,al,rfl,am,cs⟩:=Ud_ HM.o.rd h1 hs;obtain⟨N,Q⟩:=QfM_ (wd:=wd) hs;have ac:=h_ N;rw[Q]at aj;clear hs N Q;have aq:(s.size:Int)<=90000000000000:=oo;go_wp2;go_roundw
  ·exact⟨i+1,y+max ((s.size:Int)-wd) 0,oo,by go_num,oo,oo,h_ (by rw[<-HE.o,ac.o];omega),h_ (z.o.set_ 0 (I_ j_ (y+max ((s.size:Int)-wd) 0))),h_ (E.o.far (by dsimp only;omega) _),h_ (Qt_ HM.o z.o dc_ _ _),h_ (Z.o.setCell (by dsimp only;omega) _)⟩
  exact ms_
 obtain rfl:i=r:=oo;have ab:Ψ (O=y):=h_ (by have:=HE.o;rw[List.drop_of_length_le (by rw[D.o];exact lr_ _)]at this;have e:Uq_ wd []=0:=rfl;omega);have z0:wr.cell? ⟨w.heap.size+1,0,ν⟩=σ (I_ j_ 0):=E.o.cell 0;have z1:wr.cell? ⟨w.heap.size+1,1,ν⟩=σ (I_ j_ 0):=E.o.cell 1;have zf:=E.o.frozen;have zl:=E.o.lt;have an:=Z.o;go_wp2_with fail;refine bodyPost_ret (by simp[results,Tryz.results270,go_sem,z0,z1];try rfl) rfl ?_;exact⟨by rw[ab.o],grow_⟩
def xx_ (P:Hn) (A0 A1 A2 A3:OA) (c0 c1 c2 c3:Nat) (V:OA) (n A:Nat) (v:LI) (w:Ω) (B:PcM P A0 A1 A2 A3 w) (C:PcR P) (D:Rd w 1 V n (Qa_ v)) (f:ValR P v) (c:η v=η P.l0):
  Δ π 141 #[A_ (pcCells P A0 A1 A2 A3 c0 c1 c2 c3),S_ V n A,I_ j_ P.width] w (RB_ (costC (P.cost v)) w):=by
 have b:=h_ (λW h=>j4_ P A0 A1 A2 A3 c0 c1 c2 c3 V n A v W (B.next h) C (D.next h) f c);have a:=h_ (λW h=>xC_ P A0 A1 A2 A3 c0 c1 c2 c3 V n A v W (B.next h) C (D.next h) c);have q:=h_ (λW=>q3_ P.width W);unfold Hn.cost QgP_;generalize YX_ P.l0 P.l1 P.l2 v=T at b |-
 generalize Uq_ (Zj_ P.width) (YI_ P.m P.l1 v)=O at a |-
 generalize Zj_ P.width=wd at a q |-
 clear B C D f c;unfold pcCells at b a |-
 generalize (η P.l0)=i at b a |-
 generalize (η P.l1)=j at b a |-
 generalize (η P.l2)=k at b a |-
 generalize (η P.l3)=l at b a |-
 have g:=h_ (show Blk ((w.alloc (C_ (pcC P.m A0 i c0 A1 j c1 A2 k c2 A3 l c3) 149)).alloc (C_ #[I_ j_ 0,I_ j_ 0] 182)).drew w.heap.size 149 (pcC P.m A0 i c0 A1 j c1 A2 k c2 A3 l c3)from(Blk.new _ _ _).alloc _);have p:=h_ (show Blk ((w.alloc (C_ (pcC P.m A0 i c0 A1 j c1 A2 k c2 A3 l c3) 149)).alloc (C_ #[I_ j_ 0,I_ j_ 0] 182)).drew (w.heap.size+1) 182 #[I_ j_ 0,I_ j_ 0]from by have:=Blk.new (w.alloc (C_ (pcC P.m A0 i c0 A1 j c1 A2 k c2 A3 l c3) 149)) 182 #[I_ j_ 0,I_ j_ 0];rwa[ws_]at this);have d:=h_ (Z3_ w (C_ (pcC P.m A0 i c0 A1 j c1 A2 k c2 A3 l c3) 149) (C_ #[I_ j_ 0,I_ j_ 0] 182)).drew;obtain⟨q0,q1,q2,q3,q4,H⟩:=Vp_ g.o;go_in;go_wp2_with fail
 go_region_held3 (λw'=>w'.cell? ⟨w.heap.size,0,ν⟩=σ (I_ j_ P.m)/\w'.cell? ⟨w.heap.size,1,ν⟩=σ (S_ A0 i c0)/\w'.cell? ⟨w.heap.size,2,ν⟩=σ (S_ A1 j c1)/\w'.cell? ⟨w.heap.size,3,ν⟩=σ (S_ A2 k c2)/\w'.cell? ⟨w.heap.size,4,ν⟩=σ (S_ A3 l c3))
  (first|exact⟨q0,q1,q2,q3,q4⟩|exact⟨u0,u1,u2,u3,u4⟩|exact⟨v0,v1,v2,v3,v4⟩|exact pc_s y.o oo _ _ _ _|exact pc_s z.o oo _ _ _ _)
  (first
   |(go_at_call 193;refine mb_ (q.o _) ?_;rintro E rfl)
   |(
    go_at_call 192;refine mb_ (a.o _ (by first|exact x.o|exact d.o)) ?_;intro w8 m;have y:=h_ (by first|exact z.o.next m|exact g.o.next m);have r:=h_ (by first|exact s.o.next m|exact p.o.next m);have t:=h_ (by first|exact Qb_ x.o m|exact Qb_ d.o m);obtain⟨u0,u1,u2,u3,u4,I⟩:=Vp_ y.o;have z0:w8.cell? ⟨w.heap.size+1,0,ν⟩=σ (I_ j_ 0):=r.o.cell 0;have z1:w8.cell? ⟨w.heap.size+1,1,ν⟩=σ (I_ j_ 0):=r.o.cell 1;have zf:=r.o.frozen;have zl:=r.o.lt)
   |(
    go_at_call 194;refine mb_ (b.o _ (by first|exact t.o|exact d.o)) ?_;intro E o;have z:=h_ (by first|exact y.o.next o|exact g.o.next o);have s:=h_ (by first|exact r.o.next o|exact p.o.next o);have x:=h_ (by first|exact Qb_ t.o o|exact Qb_ d.o o);obtain⟨v0,v1,v2,v3,v4,J⟩:=Vp_ z.o;have y0:E.cell? ⟨w.heap.size+1,0,ν⟩=σ (I_ j_ 0):=s.o.cell 0;have y1:E.cell? ⟨w.heap.size+1,1,ν⟩=σ (I_ j_ 0):=s.o.cell 1;have yf:=s.o.frozen;have yl:=s.o.lt))
 all_goals (have F:=t.o;have G:=x.o;go_wp2_with fail;first|(refine bodyPost_ret (by simp[results,Tryz.results141,go_sem,z0,z1];try rfl) rfl ?_;exact⟨rfl,grow_⟩)|(refine bodyPost_ret (by simp[results,Tryz.results141,go_sem,y0,y1];try rfl) rfl ?_;exact⟨rfl,grow_⟩))
abbrev HSt:=(OA × Nat × Nat) × SSt
def Zy_ (d:HSt):List Υ:=[S_ d.1.1 d.1.2.1 d.1.2.2,I_ j_ d.2.2]
def Xz_ (d:HSt):(Zy_ d).length=2:=rfl
def HIn (B:Nat) (w:Ω) (d:HSt):Prop:=d.1.2.1<=8/\Mine w B 3 1 d.1.1 d.1.2.1 d.1.2.2 (Qa_ d.2.1)
def HIn.grown {w':Ω} {d:HSt} {row:ON} (h:HIn i w d) (k:w.grownBy w' row) (hr:∀g,row=σ g->∃cs,Blk w g 185 cs):HIn i w' d:=⟨h.1,h.2.grown k (λg e=>.inr (λe2=>by
 obtain⟨cs,b1⟩:=hr g e;obtain⟨a,b2⟩:=Qw_ h.2 e2;exact Kj_ b2 b1 dc_ rfl))⟩
def HIn.next {B:Nat} {w w':Ω} {d:HSt} (h:HIn B w d) (k:Λ w w'):HIn B w' d:=⟨h.1,h.2.next k⟩
def HpD (B:Nat) (A:OA) (n c:Nat) (ds:List HSt) (w:Ω):Prop:=Mine w B 185 2 A n c (ds.flatMap Zy_)/\∀d∈ds,HIn B w d
def HpM (B:Nat) (A:OA) (n c:Nat) (l:List SSt) (w:Ω):Prop:=∃ds:List HSt,ds.map Prod.snd=l/\HpD B A n c ds w
section
variable {B:Nat} {A:OA} {n c:Nat} {ds:List HSt} {l:List SSt} {w w':Ω}
def HpD.len (h:HpD B A n c ds w):η ds=n:=by have:=h.1.len;rw[Xs_ Zy_ Xz_]at this;omega
def HpM.len (h:HpM B A n c l w):η l=n:=by obtain⟨ds,rfl,h⟩:=h;rw[List.length_map];exact h.len
def HpD.next (h:HpD B A n c ds w) (k:Λ w w'):HpD B A n c ds w':=⟨h.1.next k,λd hd=>(h.2 d hd).next k⟩
def HpM.next (h:HpM B A n c l w) (k:Λ w w'):HpM B A n c l w':=by obtain⟨ds,e,h⟩:=h;exact⟨ds,e,h.next k⟩
def HpD.at_ (h:HpD B A n c ds w) {k:Nat} (hk:k<n) {A1:OA} {n1 c1:Nat} {v:LI} {x:Int} (hd:ds[k]? =σ ((A1,n1,c1),(v,x))):
  ∃b off,A=σ ⟨b,off,ν⟩/\b<w.heap.size/\w.cell? ⟨b,off+k*2,ν⟩=σ (S_ A1 n1 c1)/\w.cell? ⟨b,off+k*2+1,ν⟩=σ (I_ j_ x):=by
 obtain⟨b,off,e,hb,hc⟩:=h.1.rd.at_ oo;exact⟨b,off,e,hb,hc _ _ (Kw_ Zy_ Xz_ hd (j:=0) rfl),hc _ _ (Kw_ Zy_ Xz_ hd (j:=1) rfl)⟩
def HpD.blk (h:HpD B A n c ds w) (hn:0<n):∃g,A=σ ⟨g,0,ν⟩/\B<=g/\n<=c/\(∀o,w.frozen? ⟨g,o,ν⟩=φ)/\g<w.heap.size/\∃cs,Blk w g 185 cs:=by
 rcases h.1.own with⟨_,h0,_⟩|⟨g,e,hB,b,_,ho⟩
 ·omega
 obtain⟨rest,a,_⟩:=ho;exact⟨g,e,hB,b,λo=>a.frozen o,a.lt,_,a⟩
end
def QcY_ {ds:List HSt}:∀{i:Nat} {d:HSt},i<η ds->((ds.flatMap Zy_).set (i*2) (S_ d.1.1 d.1.2.1 d.1.2.2)).set (i*2+1) (I_ j_ d.2.2)=(ds.set i d).flatMap Zy_:=by
 induction ds with
 |nil=>intro i d h;simp at h
 |cons a r ih=>
  intro i d h
  cases i with
  |zero=>simp[Zy_]
  |succ i=>
   have h2:=ih (i:=i) (d:=d) (by simpa using h);rw[List.set_cons_succ,List.flatMap_cons,List.flatMap_cons,<-h2];rw[show(i+1)*2=i*2+2 from oo];simp[Zy_]
def Own.setAt {w:Ω} {g:Nat} {t:TypeId} {cap:Nat} {xs:List Υ} (h:Own w g t cap xs) {i:Nat} (hi:i<η xs) (u:Υ):Own (w.setCell ⟨g,i,ν⟩ u) g t cap (xs.set i u):=by
 obtain⟨rest,hb,hs⟩:=h;refine⟨rest,?_,by simpa using hs⟩;have h2:=hb.set_ i u;have e:((xs++rest).toArray).setIfInBounds i u=((xs.set i u)++rest).toArray:=by
  simp[List.set_append,hi]
 rwa[e]at h2
section
variable {B g:Nat} {n c:Nat} {ds:List HSt} {w w':Ω}
def Wv_ (w:Ω) (g i:Nat) (d:HSt):Ω:=(w.setCell ⟨g,i*2,ν⟩ (S_ d.1.1 d.1.2.1 d.1.2.2)).setCell ⟨g,i*2+1,ν⟩ (I_ j_ d.2.2)
def J3_ (w:Ω) (p:Addr) (u:Υ):w.grownBy (w.setCell p u) (σ p.block):=by
 refine⟨rfl,rfl,rfl,by simp[World.setCell],λk hk a=>?_⟩;exact Below.heap_setCell w p u k (λe=>a (by rw[e]))
def XP_ (w:Ω) (g i:Nat) (d:HSt):w.grownBy (Wv_ w g i d) (σ g):=Z6_ (J3_ w ⟨g,i*2,ν⟩ _) (J3_ _ ⟨g,i*2+1,ν⟩ _)
def HpD.put (h:HpD B (σ ⟨g,0,ν⟩) n c ds w) {i:Nat} (hi:i<n) {d:HSt} (hd:HIn B w d):HpD B (σ ⟨g,0,ν⟩) n c (ds.set i d) (Wv_ w g i d):=by
 have hl:=h.len;obtain⟨g',e,hB,f,hf,k,cs,hb⟩:=h.blk oo;injection e with e;injection e with e;subst e;have hk:=XP_ w g i d;have a:∀q,σ g=σ q->∃cs,Blk w q 185 cs:=λq e=>by injection e with e;subst e;exact⟨_,hb⟩
 refine⟨?_,λq j=>?_⟩
 ·rcases h.1.own with⟨h0,_⟩|⟨g',e,_,_,b,ho⟩
  ·cases h0
  injection e with e;injection e with e;subst e;have h1:=(ho.setAt (i:=i*2) (by rw[Xs_ Zy_ Xz_];omega) (S_ d.1.1 d.1.2.1 d.1.2.2)).setAt (i:=i*2+1) (by rw[List.length_set,Xs_ Zy_ Xz_];omega) (I_ j_ d.2.2);rw[QcY_ oo]at h1;exact Mine.mk_own h1 (by rw[Xs_ Zy_ Xz_,List.length_set,hl]) hB f b
 rcases List.mem_or_eq_of_mem_set j with j|rfl
 ·exact(h.2 q j).grown hk a
 exact hd.grown hk a
def grow_put {row:ON} {wr:Ω} (h:w.grownBy wr row) (b:row=σ g\/w.heap.size<=g) (i:Nat) (d:HSt):w.grownBy (Wv_ wr g i d) row:=by
 have k:=XP_ wr g i d;refine⟨k.os.trans h.os,k.tape.trans h.tape,k.output.trans h.output,lt_ h.size k.size,λq hq a=>(k.block q (ll_ hq h.size) (λe=>?_)).trans (h.block q hq a)⟩;injection e with e;subst e;rcases b with b|b
 ·exact a b.symm
 omega
def Qz_ {row:ON} {w1 w2:Ω} (h:w.grownBy w1 row) (k:Λ w1 w2):w.grownBy w2 row:=
 ⟨k.os.trans h.os,k.tape.trans h.tape,k.output.trans h.output,lt_ h.size k.size,λq hq a=>(k.block q (ll_ hq h.size)).trans (h.block q hq a)⟩
def Mine.cut {B:Nat} {e:TypeId} {s:Nat} {A:OA} {n c k:Nat} {xs:List Υ} (h:Mine w B e s A n c xs) (hk:k<=n) (hA:∃a,A=σ a):Mine w B e s A k c (xs.take (k*s)):=by
 have hl:=h.len;have b:k*s<=n*s:=Nat.mul_le_mul_right _ hk;rcases h.own with⟨h0,_⟩|⟨g,rfl,hB,hn,hc,rest,hb,hs⟩
 ·obtain⟨a,e⟩:=hA;rw[h0]at e;cases e
 refine Mine.mk_own ⟨xs.drop (k*s)++rest,?_,?_⟩ (by rw[List.length_take];omega) hB oo hc
 ·rw[<-List.append_assoc,List.take_append_drop];exact hb
 rw[<-List.append_assoc,List.take_append_drop];exact hs
end
def Vx_ (l:List HSt) (i j:Nat):List HSt:=match l[i]?,l[j]? with|some x,σ y=>(l.set i y).set j x|_,_=>l
def xL_ (l:List HSt) (i j:Nat):(Vx_ l i j).map Prod.snd=xM_ (l.map Prod.snd) i j:=by
 unfold Vx_ xM_;rw[List.getElem?_map,List.getElem?_map]
 cases l[i]? <;>cases l[j]? <;>simp[List.map_set]
def Yq_ {l:List HSt} {x y:HSt} (hx:l[i]? =σ x) (hy:l[k]? =σ y):k8_ (l.map Prod.snd) i k=Xt_ x.2 y.2:=by
 unfold k8_;rw[List.getElem?_map,List.getElem?_map,hx,hy];rfl
def Qf9_ {l:List HSt} {x y:HSt} (hx:l[i]? =σ x) (hy:l[k]? =σ y):Vx_ l i k=(l.set i y).set k x:=by unfold Vx_;rw[hx,hy]
def HpD.swap {B g n c:Nat} {ds:List HSt} {w:Ω} (h:HpD B (σ ⟨g,0,ν⟩) n c ds w) {i j:Nat} {x y:HSt} (hi:i<n) (hj:j<n) (hx:ds[i]? =σ x) (hy:ds[j]? =σ y):HpD B (σ ⟨g,0,ν⟩) n c (Vx_ ds i j) (Wv_ (Wv_ w g i y) g j x):=by
 rw[Qf9_ hx hy];have h1:=h.put hi<|h.2 _<|lm_ hy;obtain⟨g',e,_,_,_,_,cs,hb⟩:=h.blk oo;injection e with e;injection e with e;subst e;exact h1.put hj<|(h.2 _ (lm_ hx)).grown (XP_ w g i y) (λq e=>by injection e with e;subst e;exact⟨_,hb⟩)
def Ga_ (l:List HSt) (i j:Nat):(Vx_ l i j).length=η l:=by unfold Vx_;split<;>simp
def Qam_ {l:List HSt} {x y:HSt} (h0:0<k) (hx:l[k]? =σ x) (hy:l[upN k]? =σ y) (hl:Xt_ x.2 y.2=τ):YN_ (i+1) (l.map Prod.snd) k=YN_ i ((Vx_ l k (upN k)).map Prod.snd) (upN k):=by
 conv=>lhs;unfold YN_
 rw[ip_ ⟨h0,by rw[Yq_ hx hy];exact hl⟩,xL_]
def zQ_ {l:List HSt} {x y:HSt} (hx:l[k]? =σ x) (hy:l[upN k]? =σ y) (hl:Xt_ x.2 y.2=φ):YN_ (i+1) (l.map Prod.snd) k=l.map Prod.snd:=by
 conv=>lhs;unfold YN_
 rw[in_ (λh=>by rw[Yq_ hx hy,hl]at h;exact absurd h.2 sm_)]
def zR_ {l:List SSt}:YN_ (i+1) l 0=l:=by
 conv=>lhs;unfold YN_
 rw[in_ (λh=>absurd h.1 oo)]
def Qiq_:(prog.info? 185).map (λi=>(i.zero,i.size,i.bytes))=σ (σ (A_ #[S_ ν 0 0,I_ j_ 0]),2,32):=by kernel_rfl
def QiD_ (w:Ω) (d:HSt) (t:TypeId):∀j u,(Zy_ d)[j]? =σ u->(w.alloc (C_ #[S_ d.1.1 d.1.2.1 d.1.2.2,I_ j_ d.2.2] t)).cell? ((⟨w.heap.size,0,ν⟩:Addr).add j)=σ u:=by
 intro j u a;have hb:=Blk.new w t #[S_ d.1.1 d.1.2.1 d.1.2.2,I_ j_ d.2.2]
 match j,a with
 |0,a=>obtain rfl:=oi_ a;exact hb.cell 0
 |1,a=>obtain rfl:=oi_ a;exact hb.cell 1
 |j+2,a=>simp[Zy_]at a
def QiE_ (d:HSt):∀u∈Zy_ d,u.oneCell'=τ:=by intro u hu;simp[Zy_]at hu;rcases hu with rfl|rfl<;>rfl
def Qgh_ {m:Array Oper} {rest:List Oper} {o:Oper} {a:Act} {Q:Exit->Act->Ω->Prop} (s x:Operand) {ds:List HSt} {d:HSt}
  (n:Ψ (HpD i z k j ds w)) (HD:Ψ (HIn i w d)) (hB:i<=w.heap.size) (r:o.guard=ν) (ho:o.op=.call { callee:=.builtin .append,args:=#[s,x],argTypes:=#[186,186] }) (hs:a.eval s=S_ z k j) (hx:a.eval x=S_ (σ ⟨w.heap.size,0,ν⟩) 1 1) (B:k<=1000000)
  (h:∀g c' w',Ψ (HpD i (σ ⟨g,0,ν⟩) (k+1) c' (ds++[d]) w')->Ψ (w.grownBy w' (z.map (·.block)))->Ψ (z.map (·.block)=σ g\/w.heap.size<=g)->wpList π m Q rest (a.put o.dst (S_ (σ ⟨g,0,ν⟩) (k+1) c')) w'):wpList π m Q (o::rest) a (w.alloc (C_ #[S_ d.1.1 d.1.2.1 d.1.2.2,I_ j_ d.2.2] 185)):=by
 obtain⟨i0,hi,t,v,y⟩:=info_parts Qiq_;refine Qi_ _ r s x _ ho i 185 i0 (A_ #[S_ ν 0 0,I_ j_ 0]) 2 32 underlying186 hi t v y rfl dc_ (S_ z k j) k (ds.flatMap Zy_) hs (Mine.alloc n.o.1 _) ⟨w.heap.size,0,ν⟩ 1 1 (Zy_ d) hx rfl (QiD_ _ _ _) (QiE_ _) mx_ oo so_ ?_;intro v' w5 A hg l;obtain⟨A5,c5,rfl,m5⟩:=Mine.of A;rw[Q3_]at hg;rw[Q3_,Q3_]at l;obtain⟨g,rfl⟩:∃g,A5=σ ⟨g,0,ν⟩:=by
  rcases m5.own with⟨_,h0,_⟩|⟨g,e,_⟩
  ·omega
  exact⟨g,e⟩
 have f:w.grownBy w5 (z.map (·.block)):=Z6_ (World.grownBy_alloc w _ _) hg;have b:∀q,z.map (·.block)=σ q->∃cs,Blk w q 185 cs:=λq e=>Qw_ n.o.1 e
 refine h g c5 w5 ⟨by rw[List.flatMap_append];simpa using m5,λq w1=>?_⟩ f ?_
 ·rcases List.mem_append.1 w1 with w1|w1
  ·exact(n.o.2 q w1).grown f b
  obtain rfl:=ms1_.1 w1;exact HD.o.grown f b
 rcases l with e|e
 ·exact .inl e.symm
 refine .inr ?_;have p:σ g=σ (w.alloc (C_ #[S_ d.1.1 d.1.2.1 d.1.2.2,I_ j_ d.2.2] 185)).heap.size:=e;injection p with p;rw[p,ws_];omega
def HpD.at0 {B g n c:Nat} {ds:List HSt} {w:Ω} (h:HpD B (σ ⟨g,0,ν⟩) n c ds w) {k:Nat} (hk:k<n) {A1:OA} {n1 c1:Nat} {v:LI} {x:Int} (hd:ds[k]? =σ ((A1,n1,c1),(v,x))):
  w.cell? ⟨g,k*2,ν⟩=σ (S_ A1 n1 c1)/\w.cell? ⟨g,k*2+1,ν⟩=σ (I_ j_ x)/\n1<=8/\Rd w 1 A1 n1 (Qa_ v):=by
 obtain⟨b,off,e,hb,h0,h1⟩:=h.at_ hk hd;injection e with e;injection e with e1 e2;subst e1;subst e2;rw[Nat.zero_add]at h0 h1;have a:=h.2 _<|lm_ hd;exact⟨h0,h1,a.1,a.2.rd⟩
def Qh4_ (B n:Nat) (A:OA) (l:List SSt) (w:Ω) (e:Ending) (w':Ω):Prop:=∃g c',e=R_ (S_ (σ ⟨g,0,ν⟩) n c')/\HpM B (σ ⟨g,0,ν⟩) n c' l w'/\w.grownBy w' (A.map (·.block))/\(A.map (·.block)=σ g\/w.heap.size<=g)
def GU_ (ds:List HSt) (a:OA) (na ca:Nat) (v:LI) (x:Int) (w:Ω) (A:HpD n g h d ds w) (hd:HIn n w ((a,na,ca),(v,x))) (hn:h<=1000000) (hB:n<=w.heap.size):
  Δ π 290 #[S_ g h d,A_ #[S_ a na ca,I_ j_ x]] w (Qh4_ n (h+1) g (Wu_ (ds.map Prod.snd) (v,x)) w):=by
 have hl:=A.len;obtain⟨R,hR⟩:=ex_ (Wu_ (ds.map Prod.snd) (v,x));have HR:=h_ (show YN_ (h+1) ((ds++[((a,na,ca),(v,x))]).map Prod.snd) h=R by rw[<-hR];unfold Wu_;rw[List.length_map,hl,List.map_append];rfl);rw[hR];have S:=h_<|A.next<|br.alloc (lr_ _)<|C_ #[S_ a na ca,I_ j_ x] 185;have E:=h_<|hd.next<|br.alloc (lr_ _)<|C_ #[S_ a na ca,I_ j_ x] 185;have X:n<=(w.alloc (C_ #[S_ a na ca,I_ j_ x] 185)).heap.size:=by simp;omega
 have P:=h_<|World.grownBy_alloc w (C_ #[S_ a na ca,I_ j_ x] 185)<|g.map (·.block);have r:=h_ (show(ds++[((a,na,ca),(v,x))]).length=h+1 by simp[hl]);go_in;go_upto_region 2 with(at_builtin;refine Qgh_ (.tmp 6) (.tmp 8) S E X rfl rfl er_ er_ hn ?_;intro B c5 w5 T O V)
 have F:=h_<|Z6_ P.o O.o;have HW:=h_ (show g.map (·.block)=σ B\/w.heap.size<=B from V.o.imp id (λA=>by rw[ws_]at A;omega));have aB:n<=w5.heap.size:=lt_ hB F.o.size;go_wp2;go_loopw [5] (λx wr=>∃(i f:Nat) (ds:List HSt),i<=h/\i<f/\x=I_ j_ i/\Ψ (η ds=h+1)/\Ψ (YN_ f (ds.map Prod.snd) i=R)/\Ψ (HpD n (σ ⟨B,0,ν⟩) (h+1) c5 ds wr)/\Ψ (w.grownBy wr (g.map (·.block)))) (λx _=>(intOf x).toNat)
 ·exact⟨h,h+1,_,lr_ _,oo,rfl,r,HR,T,F⟩
 obtain⟨i,f,ds,aF,aE,rfl,r,HE,D,F⟩:=hrel;obtain⟨f,rfl⟩:∃q,f=q+1:=⟨f-1,oo⟩;obtain⟨g',e,aC,aI,Y,b,_⟩:=D.o.blk oo;injection e with e;injection e with e;subst e;by_cases h0:i=0
 ·subst h0;have y:Ψ (R=ds.map Prod.snd):=h_ (by rw[<-HE.o];exact zR_);go_wp2;go_quiet (fail);go_wp2;go_ret;exact⟨_,_,rfl,⟨ds,y.o.symm,D.o.next (below_drewN br _)⟩,Qz_ F.o (below_drewN br _),HW.o⟩
 have Z:0<i:=oo;obtain⟨u,H⟩:=ex_ (upN i);have aK:u<i:=(by rw[<-H];unfold upN;omega);obtain⟨⟨⟨a1,n1,k1⟩,v1,s1⟩,m⟩:∃c,ds[i]? =σ c:=⟨_,gE (by rw[r.o];omega)⟩;obtain⟨⟨⟨a2,n2,k2⟩,v2,s2⟩,p⟩:∃c,ds[u]? =σ c:=⟨_,gE (by rw[r.o];omega)⟩;obtain⟨y0,y1,aG,I⟩:=D.o.at0 (k:=i) oo m;obtain⟨z0,z1,aH,J⟩:=D.o.at0 (k:=u) oo p;have C:=h_ (λW=>by have A:=Qcj_ i W Z oo;rw[H]at A;exact A);have t:=h_ (λW A=>ZZ_ a1 n1 k1 v1 s1 a2 n2 k2 v2 s2 W oo oo (I.next (w':=W) A) (J.next A));have E:=h_<|D.o.2 _<|lm_ m;have aA:=h_<|D.o.2 _<|lm_ p;have aD:(i:Int)<(h:Int)+1:=oo;have aJ:(u:Int)<(h:Int)+1:=oo
 cases s:Xt_ (v1,s1) (v2,s2)with
 |false=>
  have y:Ψ (R=ds.map Prod.snd):=h_ (by rw[<-HE.o];exact zQ_ m (by rw[H];exact p) s);rw[s]at t;go_wp2
  go_region_held3 (λw'=>w'.cell? ⟨B,i*2,ν⟩=σ (S_ a1 n1 k1)/\w'.cell? ⟨B,i*2+1,ν⟩=σ (I_ j_ s1)/\w'.cell? ⟨B,u*2,ν⟩=σ (S_ a2 n2 k2)/\w'.cell? ⟨B,u*2+1,ν⟩=σ (I_ j_ s2))
   (first|exact⟨y0,y1,z0,z1⟩|exact⟨K,L,M,N⟩)
   (first
    |(go_at_call 297;refine mb_ (C.o _) ?_;rintro w9 rfl)
    |(
     go_at_call 285;refine mb_ (t.o _ (by exact br.drew)) ?_;intro w8 h8;have z:=h_ (show Λ wr w8 from br.drew.trans h8);obtain⟨l,G⟩:=QW_ z.o;have K:=(l _ _ b).trans y0;have L:=(l _ _ b).trans y1;have M:=(l _ _ b).trans z0;have N:=(l _ _ b).trans z1))
  go_wp2;go_ret;exact⟨_,_,rfl,⟨ds,y.o.symm,D.o.next z.o⟩,Qz_ F.o z.o,HW.o⟩
 |true=>
  have y:Ψ (YN_ f ((Vx_ ds i u).map Prod.snd) u=R):=h_ (by rw[<-HE.o,Qam_ Z m (by rw[H];exact p) s,H]);have ap:=h_ (λW (A:HpD n (σ ⟨B,0,ν⟩) (h+1) c5 ds W)=>A.swap (i:=i) (j:=u) oo oo m p);rw[s]at t;go_wp2
  go_region_held3 (λw'=>w'.cell? ⟨B,i*2,ν⟩=σ (S_ a1 n1 k1)/\w'.cell? ⟨B,i*2+1,ν⟩=σ (I_ j_ s1)/\w'.cell? ⟨B,u*2,ν⟩=σ (S_ a2 n2 k2)/\w'.cell? ⟨B,u*2+1,ν⟩=σ (I_ j_ s2))
   (first|exact⟨y0,y1,z0,z1⟩|exact⟨K,L,M,N⟩)
   (first
    |(go_at_call 297;refine mb_ (C.o _) ?_;rintro w9 rfl)
    |(
     go_at_call 285;refine mb_ (t.o _ (by exact br.drew)) ?_;intro w8 h8;have z:=h_ (show Λ wr w8 from br.drew.trans h8);obtain⟨l,G⟩:=QW_ z.o;have K:=(l _ _ b).trans y0;have L:=(l _ _ b).trans y1;have M:=(l _ _ b).trans z0;have N:=(l _ _ b).trans z1))
  have ao:=h_<|D.o.next z.o;have an:=h_<|Qz_ F.o z.o;have az:=ll_ b z.o.size;have ay:∀o,w8.frozen? ⟨B,o,ν⟩=φ:=λo=>(G _ _ b).trans (Y o)
  go_wp2
  go_region_with (go_at_call 297;refine mb_ (C.o _) ?_;rintro w9 rfl)
  all_goals
   have U:=h_<|ap.o _ ao.o;have Q:=h_<|grow_put (grow_put an.o HW.o i ((a2,n2,k2),(v2,s2))) HW.o u ((a1,n1,k1),(v1,s1));unfold Wv_ at U Q;go_wp2_with (go_at_call 297;refine mb_ (C.o _) ?_;rintro w9 rfl)
   go_roundw
   ·exact⟨u,f,Vx_ ds i u,oo,oo,rfl,h_ (by rw[Ga_];exact r.o),y,h_ (U.o.next br.drew),h_ (Qz_ Q.o br.drew)⟩
   exact ms_
def Ua_ (ds:List HSt) (a:OA) (na ca:Nat) (v:LI) (x:Int) (w:Ω) (A:HpD n g h d ds w) (hd:HIn n w ((a,na,ca),(v,x))) (hn:h<=1000000) (hB:n<=w.heap.size):
  Δ π 147 #[S_ g h d,A_ #[S_ a na ca,I_ j_ x]] w (Qh4_ n (h+1) g (Wu_ (ds.map Prod.snd) (v,x)) w):=by
 have hl:=A.len;obtain⟨R,hR⟩:=ex_ (Wu_ (ds.map Prod.snd) (v,x));have HR:=h_ (show YN_ (h+1) ((ds++[((a,na,ca),(v,x))]).map Prod.snd) h=R by rw[<-hR];unfold Wu_;rw[List.length_map,hl,List.map_append];rfl);rw[hR];have T:=h_<|A.next<|br.alloc (lr_ _)<|C_ #[S_ a na ca,I_ j_ x] 185;have E:=h_<|hd.next<|br.alloc (lr_ _)<|C_ #[S_ a na ca,I_ j_ x] 185;have Y:n<=(w.alloc (C_ #[S_ a na ca,I_ j_ x] 185)).heap.size:=by simp;omega
 have Q:=h_<|World.grownBy_alloc w (C_ #[S_ a na ca,I_ j_ x] 185)<|g.map (·.block);have r:=h_ (show(ds++[((a,na,ca),(v,x))]).length=h+1 by simp[hl]);go_in;go_upto_region 2 with(at_builtin;refine Qgh_ (.tmp 8) (.tmp 10) T E Y rfl rfl er_ er_ hn ?_;intro B c5 w5 U P X)
 have F:=h_<|Z6_ Q.o P.o;have HW:=h_ (show g.map (·.block)=σ B\/w.heap.size<=B from X.o.imp id (λA=>by rw[ws_]at A;omega));have az:n<=w5.heap.size:=lt_ hB F.o.size;go_wp2;go_loopw [5] (λx wr=>∃(i f:Nat) (ds:List HSt),i<=h/\i<f/\x=I_ j_ i/\Ψ (η ds=h+1)/\Ψ (YN_ f (ds.map Prod.snd) i=R)/\Ψ (HpD n (σ ⟨B,0,ν⟩) (h+1) c5 ds wr)/\Ψ (w.grownBy wr (g.map (·.block)))) (λx _=>(intOf x).toNat)
 ·exact⟨h,h+1,_,lr_ _,oo,rfl,r,HR,U,F⟩
 obtain⟨i,f,ds,aD,aC,rfl,r,HE,C,F⟩:=hrel;obtain⟨f,rfl⟩:∃q,f=q+1:=⟨f-1,oo⟩;obtain⟨g',e,aA,aG,Z,b,_⟩:=C.o.blk oo;injection e with e;injection e with e;subst e;by_cases h0:i=0
 ·subst h0;have y:Ψ (R=ds.map Prod.snd):=h_ (by rw[<-HE.o];exact zR_);go_wp2;go_quiet (fail);go_wp2;go_ret;exact⟨_,_,rfl,⟨ds,y.o.symm,C.o.next (below_drewN br _)⟩,Qz_ F.o (below_drewN br _),HW.o⟩
 have ap:0<i:=oo;obtain⟨u,D⟩:=ex_ (upN i);have aI:u<i:=(by rw[<-D];unfold upN;omega);obtain⟨⟨⟨N,n1,O⟩,v1,s1⟩,m⟩:∃c,ds[i]? =σ c:=⟨_,gE (by rw[r.o];omega)⟩;obtain⟨⟨⟨a2,n2,k2⟩,v2,s2⟩,p⟩:∃c,ds[u]? =σ c:=⟨_,gE (by rw[r.o];omega)⟩;obtain⟨y0,y1,aE,H⟩:=C.o.at0 (k:=i) oo m;obtain⟨z0,z1,aF,I⟩:=C.o.at0 (k:=u) oo p;have HU:=h_ (show((i:Int)+1) / 2-1=(u:Int)by rw[<-D];unfold upN;omega);have e1:IntKind.i64.wrap ((i:Int)+1)=(i:Int)+1:=(by rw[IntKind.wrap_i64];omega);have e2:IntKind.i64.wrap (((i:Int)+1).tdiv 2)=((i:Int)+1) / 2:=(by rw[IntKind.wrap_i64,Int.tdiv_eq_ediv_of_nonneg oo];omega);have e3:IntKind.i64.wrap (((i:Int)+1) / 2-1)=(u:Int):=(by rw[IntKind.wrap_i64,<-D];unfold upN;omega);have t:=h_ (λW A=>Z2_ N n1 O v1 s1 a2 n2 k2 v2 s2 W oo oo (H.next (w':=W) A) (I.next A));have E:=h_<|C.o.2 _<|lm_ m;have ay:=h_<|C.o.2 _<|lm_ p;have aB:(i:Int)<(h:Int)+1:=oo;have aH:(u:Int)<(h:Int)+1:=oo
 cases s:Xt_ (v1,s1) (v2,s2)with
 |false=>
  have y:Ψ (R=ds.map Prod.snd):=h_ (by rw[<-HE.o];exact zQ_ m (by rw[D];exact p) s);rw[s]at t;go_wp2
  go_region_held3 (λw'=>w'.cell? ⟨B,i*2,ν⟩=σ (S_ N n1 O)/\w'.cell? ⟨B,i*2+1,ν⟩=σ (I_ j_ s1)/\w'.cell? ⟨B,u*2,ν⟩=σ (S_ a2 n2 k2)/\w'.cell? ⟨B,u*2+1,ν⟩=σ (I_ j_ s2))
   (first|exact⟨y0,y1,z0,z1⟩|exact⟨J,K,L,M⟩)
   (first
    |(
     go_at_call 195;refine mb_ (t.o _ (by exact br.drew)) ?_;intro w8 h8;have z:=h_ (show Λ wr w8 from br.drew.trans h8);obtain⟨l,G⟩:=QW_ z.o;have J:=(l _ _ b).trans y0;have K:=(l _ _ b).trans y1;have L:=(l _ _ b).trans z0;have M:=(l _ _ b).trans z1))
  go_wp2;go_ret;exact⟨_,_,rfl,⟨ds,y.o.symm,C.o.next z.o⟩,Qz_ F.o z.o,HW.o⟩
 |true=>
  have y:Ψ (YN_ f ((Vx_ ds i u).map Prod.snd) u=R):=h_ (by rw[<-HE.o,Qam_ ap m (by rw[D];exact p) s,D]);have an:=h_ (λW (A:HpD n (σ ⟨B,0,ν⟩) (h+1) c5 ds W)=>A.swap (i:=i) (j:=u) oo oo m p);rw[s]at t;go_wp2
  go_region_held3 (λw'=>w'.cell? ⟨B,i*2,ν⟩=σ (S_ N n1 O)/\w'.cell? ⟨B,i*2+1,ν⟩=σ (I_ j_ s1)/\w'.cell? ⟨B,u*2,ν⟩=σ (S_ a2 n2 k2)/\w'.cell? ⟨B,u*2+1,ν⟩=σ (I_ j_ s2))
   (first|exact⟨y0,y1,z0,z1⟩|exact⟨J,K,L,M⟩)
   (first
    |(
     go_at_call 195;refine mb_ (t.o _ (by exact br.drew)) ?_;intro w8 h8;have z:=h_ (show Λ wr w8 from br.drew.trans h8);obtain⟨l,G⟩:=QW_ z.o;have J:=(l _ _ b).trans y0;have K:=(l _ _ b).trans y1;have L:=(l _ _ b).trans z0;have M:=(l _ _ b).trans z1))
  have am:=h_<|C.o.next z.o;have al:=h_<|Qz_ F.o z.o;have ax:=ll_ b z.o.size;have av:∀o,w8.frozen? ⟨B,o,ν⟩=φ:=λo=>(G _ _ b).trans (Z o)
  have V:=h_<|(an.o _ am.o).next (br.alloc (lr_ _) (C_ #[S_ N n1 O,I_ j_ s1] 185));have S:=h_<|Qz_ (grow_put (grow_put al.o HW.o i ((a2,n2,k2),(v2,s2))) HW.o u ((N,n1,O),(v1,s1)))<|br.alloc (lr_ _)<|C_ #[S_ N n1 O,I_ j_ s1] 185;unfold Wv_ at V S;have e4:((i:Int)+1) / 2-1=(u:Int):=HU.o;go_wp2;go_roundw
  ·exact⟨u,f,Vx_ ds i u,oo,oo,rfl,h_ (by rw[Ga_];exact r.o),y,V,S⟩
  exact ms_
def HpD.cut {n c k:Nat} {ds:List HSt} (h:HpD i z n c ds w) (hk:k<=n) (hA:∃a,z=σ a):HpD i z k c (ds.take k) w:=by
 refine⟨?_,λd hd=>h.2 d (List.mem_of_mem_take hd)⟩;have h1:=h.1.cut hk hA;have e:∀(l:List HSt) (k:Nat),(l.flatMap Zy_).take (k*2)=(l.take k).flatMap Zy_:=by
  intro l
  induction l with
  |nil=>intro k;simp
  |cons a r ih=>
   intro k
   cases k with
   |zero=>simp
   |succ k=>
    rw[List.take_succ_cons,List.flatMap_cons,List.flatMap_cons,<-ih k,show(k+1)*2=k*2+2 from oo];simp[Zy_]
 rw[e]at h1;exact h1
section
variable {f:Nat} {l:List HSt} {i:Nat} {x y:HSt}
def xv_ (h:¬2*i+1<η l):Y7_ (f+1) (l.map Prod.snd) i=l.map Prod.snd:=by
 conv=>lhs;unfold Y7_
 rw[in_ (λe=>h (by rw[List.length_map]at e;exact e.1))]
def vW_ (h:2*i+2<η l) (hx:l[2*i+2]? =σ x) (hy:l[2*i+1]? =σ y):kR_ (l.map Prod.snd) i=if Xt_ x.2 y.2=τ then 2*i+2 else 2*i+1:=by
 unfold kR_;rw[List.length_map,Yq_ hx hy]
 cases Xt_ x.2 y.2
 ·rw[in_ sm_,in_ sm_]
 rw[ip_ ⟨h,rfl⟩,ip_ rfl]
def vV_ (h:¬2*i+2<η l):kR_ (l.map Prod.snd) i=2*i+1:=by
 unfold kR_;rw[in_ (λe=>h (by rw[List.length_map]at e;exact e.1))]
def Qdf_ (l:List SSt) (i:Nat) (h:2*i+1<η l):i<kR_ l i/\kR_ l i<η l/\kR_ l i<=2*i+2:=by
 unfold kR_;split
 ·rename_i e;omega
 omega
def Qal_ {k:Nat} (h:2*i+1<η l) (hk:kR_ (l.map Prod.snd) i=k) (hx:l[k]? =σ x) (hy:l[i]? =σ y) (hl:Xt_ x.2 y.2=τ):Y7_ (f+1) (l.map Prod.snd) i=Y7_ f ((Vx_ l i k).map Prod.snd) k:=by
 conv=>lhs;unfold Y7_
 rw[hk,ip_ ⟨by rw[List.length_map];exact h,by rw[Yq_ hx hy];exact hl⟩,xL_]
def zP_ {k:Nat} (hk:kR_ (l.map Prod.snd) i=k) (hx:l[k]? =σ x) (hy:l[i]? =σ y) (hl:Xt_ x.2 y.2=φ):Y7_ (f+1) (l.map Prod.snd) i=l.map Prod.snd:=by
 conv=>lhs;unfold Y7_
 rw[hk,in_ (λe=>by rw[Yq_ hx hy,hl]at e;exact absurd e.2 sm_)]
end
def QdT_ {ds:List HSt} (hl:η ds=i+1) {dl:HSt} (h:ds[i]? =σ dl):Vr_ (ds.map Prod.snd)=Y7_ (i+1) (((ds.set 0 dl).take i).map Prod.snd) 0:=by
 unfold Vr_;rw[List.length_map,hl,Nat.add_sub_cancel,List.getD_eq_getElem?_getD,List.getElem?_map,h,List.map_take,List.map_set]
 rfl
def HpD.off {B g n c:Nat} {ds:List HSt} (h:HpD B (σ ⟨g,0,ν⟩) n c ds w)  (hq:g≠i) {cs:Array Υ} (hb:Blk w i 185 cs) (j:Nat) (u:Υ):HpD B (σ ⟨g,0,ν⟩) n c ds (w.setCell ⟨i,j,ν⟩ u):=by
 refine⟨?_,λd hd=>⟨(h.2 d hd).1,Qt_ (h.2 d hd).2 hb dc_ _ _⟩⟩;have hl:=h.1.len;rcases h.1.own with⟨h0,_⟩|⟨g',e,hB,hn,hc,ho⟩
 ·cases h0
 injection e with e;injection e with e;subst e;exact Mine.mk_own (ho.far hq u) hl hB hn hc
def grow_cell {wr:Ω} {row:ON} (h:w.grownBy wr row) (hq:w.heap.size<=i) (j:Nat) (u:Υ):w.grownBy (wr.setCell ⟨i,j,ν⟩ u) row:=
 ⟨h.os,h.tape,h.output,lt_ h.size (by simp[World.setCell]),λk hk a=>(Below.heap_setCell wr ⟨i,j,ν⟩ u k (by dsimp only;omega)).trans (h.block k hk a)⟩
def PopR (B n c g:Nat) (a:HSt) (l:List SSt) (w:Ω) (e:Ending) (w':Ω):Prop:=e=R_ (U_ #[S_ (σ ⟨g,0,ν⟩) n c,A_ #[S_ a.1.1 a.1.2.1 a.1.2.2,I_ j_ a.2.2]])/\HpM B (σ ⟨g,0,ν⟩) n c l w'/\HIn B w' a/\w.grownBy w' (σ g)
def jm_ (ds:List HSt) (E:OA) (n0 k0:Nat) (v0:LI) (O:Int) (w:Ω) (B:HpD n (σ ⟨c,0,ν⟩) (h+1) d ds w) (h0:ds[0]? =σ ((E,n0,k0),(v0,O))) (hn:h<=1000000):
  Δ π 271 #[S_ (σ ⟨c,0,ν⟩) (h+1) d] w (PopR n h d c ((E,n0,k0),(v0,O)) (Vr_ (ds.map Prod.snd)) w):=by
 have hl:=B.len;obtain⟨g',e,bA,bG,bi,a,cs,aT⟩:=B.blk oo;injection e with e;injection e with e;subst e;obtain⟨⟨⟨al,nl,kl⟩,vl,sl⟩,aq⟩:∃g,ds[h]? =σ g:=⟨_,gE oo⟩;obtain⟨P,K,_,_⟩:=B.at0 (k:=0) oo h0;obtain⟨T,U,_,_⟩:=B.at0 (k:=h) oo aq;rw[Nat.zero_mul]at P K;rw[Nat.zero_add]at K;obtain⟨R,hR⟩:=ex_ (Vr_ (ds.map Prod.snd));have HR:=h_ (show Y7_ (h+1) (((ds.set 0 ((al,nl,kl),(vl,sl))).take h).map Prod.snd) 0=R by rw[<-hR];exact(QdT_ hl aq).symm);rw[hR];have aN:=h_<|B.2 _<|lm_ h0;have Y:=B.put (i:=0) oo<|B.2 _<|lm_ aq;have X:=XP_ w c 0 ((al,nl,kl),(vl,sl));unfold Wv_ at Y X;rw[Nat.zero_mul,Nat.zero_add]at Y X;dsimp only at Y X;have m:=h_ (show((ds.set 0 ((al,nl,kl),(vl,sl))).take h).length=h by rw[List.length_take,List.length_set,hl];omega);generalize aI:(w.setCell ⟨c,0,ν⟩ (S_ al nl kl)).setCell ⟨c,1,ν⟩ (I_ j_ sl)=w1 at Y X;have aJ:w1.heap.size=w.heap.size:=by rw[<-aI];simp[World.setCell]
 have aD:=h_<|((Y.cut (k:=h) oo ⟨_,rfl⟩).next (br.alloc (lr_ _) (C_ #[S_ ν 0 0,I_ j_ 0] 185))).next (br.alloc (lr_ _) (C_ #[S_ E n0 k0,I_ j_ O] 185));have aA:=h_<|Qz_ X<|Z3_ w1 (C_ #[S_ ν 0 0,I_ j_ 0] 185)<|C_ #[S_ E n0 k0,I_ j_ O] 185;have aG:=h_ (show Blk ((w1.alloc (C_ #[S_ ν 0 0,I_ j_ 0] 185)).alloc (C_ #[S_ E n0 k0,I_ j_ O] 185)) w.heap.size 185 #[S_ ν 0 0,I_ j_ 0]from by rw[<-aJ];exact(Blk.new w1 _ _).alloc _);have az:=h_ (show Blk ((w1.alloc (C_ #[S_ ν 0 0,I_ j_ 0] 185)).alloc (C_ #[S_ E n0 k0,I_ j_ O] 185)) (w.heap.size+1) 185 #[S_ E n0 k0,I_ j_ O]from by have B:=Blk.new (w1.alloc (C_ #[S_ ν 0 0,I_ j_ 0] 185)) 185 #[S_ E n0 k0,I_ j_ O];rw[ws_,aJ]at B;exact B);rw[<-aI]at aD aA aG az;have bv:(h:Int)<=(d:Int):=oo;have aO:=h_ (show ∀q,σ c=σ q->∃cs,Blk w q 185 cs from λq e=>by injection e with e;subst e;exact⟨_,aT⟩);clear B h0 aq hR Y X aI aJ aT hl;have Q:=h_ a;go_in;go_wp2;clear P K T U a bi;go_loopw [6] (λx wr=>∃(i f:Nat) (ds:List HSt),i<=h/\h+1<=i+f/\x=I_ j_ i/\Ψ (η ds=h)/\Ψ (Y7_ f (ds.map Prod.snd) i=R)/\Ψ (HpD n (σ ⟨c,0,ν⟩) h d ds wr)/\Ψ (w.grownBy wr (σ c))/\Ψ (Blk wr w.heap.size 185 #[S_ ν 0 0,I_ j_ 0])/\Ψ (Blk wr (w.heap.size+1) 185 #[S_ E n0 k0,I_ j_ O])) (λx _=>h-(intOf x).toNat)
 ·exact⟨0,h+1,_,lz_ _,oo,rfl,m,HR,aD,aA,aG,az⟩
 clear HR aD aA aG az m;obtain⟨i,f,ds,bE,bD,rfl,m,HE,HP,HG,HZ,HF⟩:=hrel;obtain⟨f,rfl⟩:∃q,f=q+1:=⟨f-1,oo⟩;have a:c<wr.heap.size:=ll_ Q.o HG.o.size;by_cases h1:2*i+1<h
 ·obtain⟨k,hk⟩:=ex_ (kR_ (ds.map Prod.snd) i);have aX:=Qdf_ (ds.map Prod.snd) i (by rw[List.length_map,m.o];exact h1);rw[hk,List.length_map,m.o]at aX;obtain⟨aU,ar,aV⟩:=aX;have HK:=h_ hk;clear hk;obtain⟨W0,rfl⟩:∃W0,W0=wr:=⟨_,rfl⟩
  go_upto_if 48 with fail
  obtain⟨p,hp⟩:∃p,p=2*i+1:=⟨_,rfl⟩;have bx:=h_ hp;have bz:p<h:=oo;rw[show 2*(i:Int)+1=(p:Int)from oo];obtain⟨z,hz⟩:=ex_ (decide (k=2*i+2));have ae:=h_ hz;clear hz;go_cut [48] (λx wx=>x=B_ z/\Ψ (Λ W0 wx))
  ·
   obtain⟨⟨⟨a2,n2,k2⟩,v2,Z⟩,t⟩:∃g,ds[2*i+1]? =σ g:=⟨_,gE (by rw[m.o];omega)⟩;obtain⟨T,U,bl,F⟩:=HP.o.at0 (k:=2*i+1) oo t;by_cases h2:2*i+2<h
   ·obtain⟨⟨⟨a1,n1,k1⟩,v1,s1⟩,y⟩:∃g,ds[2*i+2]? =σ g:=⟨_,gE (by rw[m.o];omega)⟩;obtain⟨P,K,bk,N⟩:=HP.o.at0 (k:=2*i+2) oo y;have v:=h_ (λW B=>ZZ_ a1 n1 k1 v1 s1 a2 n2 k2 v2 Z W oo oo (N.next (w':=W) B) (F.next B));have M:=h_ (vW_ (by rw[m.o];exact h2) y t);have e2:IntKind.i64.wrap ((p:Int)+1)=(p:Int)+1:=(by rw[IntKind.wrap_i64];omega);have e3:decide ((p:Int)+1<(h:Int))=τ:=dt_ oo;have e4:(0:Int)<=(p:Int)+1:=oo;have e5:(p:Int)<(h:Int):=oo;have e6:((p:Int)+1).toNat=p+1:=oo;have e7:(p:Int)+1<(h:Int):=oo;rw[show 2*i+2=p+1 from oo]at P K;rw[<-hp]at T U
    cases s:Xt_ (v1,s1) (v2,Z)with
    |true=>
     have ac:Ψ (decide (k=2*i+2)=τ):=h_ (by rw[<-HK.o,M.o];dsimp only;rw[s];simp);rw[s]at v;clear s y t N F hp M;go_wp2
     go_region_held3 (λw'=>w'.cell? ⟨c,(p+1)*2,ν⟩=σ (S_ a1 n1 k1)/\w'.cell? ⟨c,(p+1)*2+1,ν⟩=σ (I_ j_ s1)/\w'.cell? ⟨c,p*2,ν⟩=σ (S_ a2 n2 k2)/\w'.cell? ⟨c,p*2+1,ν⟩=σ (I_ j_ Z))
      (first|exact⟨P,K,T,U⟩|exact⟨G,H,I,J⟩)
      ((go_at_call 285;refine mb_ (v.o _ (by exact br.drew)) ?_;intro w8 h8;have C:=h_ (show Λ W0 w8 from br.drew.trans h8);obtain⟨b,af⟩:=QW_ C.o;have G:=(b _ _ a).trans P;have H:=(b _ _ a).trans K;have I:=(b _ _ a).trans T;have J:=(b _ _ a).trans U))
     clear e2 e3 e4 e5 e6 e7;go_wp2;go_meet;exact⟨congrArg _ (ac.o.symm.trans ae.o),C⟩
    |false=>
     have ac:Ψ (decide (k=2*i+2)=φ):=h_ (by rw[<-HK.o,M.o];dsimp only;rw[s];simp);rw[s]at v;clear s y t N F hp M;go_wp2
     go_region_held3 (λw'=>w'.cell? ⟨c,(p+1)*2,ν⟩=σ (S_ a1 n1 k1)/\w'.cell? ⟨c,(p+1)*2+1,ν⟩=σ (I_ j_ s1)/\w'.cell? ⟨c,p*2,ν⟩=σ (S_ a2 n2 k2)/\w'.cell? ⟨c,p*2+1,ν⟩=σ (I_ j_ Z))
      (first|exact⟨P,K,T,U⟩|exact⟨G,H,I,J⟩)
      ((go_at_call 285;refine mb_ (v.o _ (by exact br.drew)) ?_;intro w8 h8;have C:=h_ (show Λ W0 w8 from br.drew.trans h8);obtain⟨b,af⟩:=QW_ C.o;have G:=(b _ _ a).trans P;have H:=(b _ _ a).trans K;have I:=(b _ _ a).trans T;have J:=(b _ _ a).trans U))
     clear e2 e3 e4 e5 e6 e7;go_wp2;go_meet;exact⟨congrArg _ (ac.o.symm.trans ae.o),C⟩
   have M:=h_<|vV_ (l:=ds) (i:=i) (by rw[m.o];exact h2);have ac:Ψ (decide (k=2*i+2)=φ):=h_ (by rw[<-HK.o,M.o];simp);have e2:IntKind.i64.wrap ((p:Int)+1)=(p:Int)+1:=(by rw[IntKind.wrap_i64];omega);have e1:decide ((p:Int)+1<(h:Int))=φ:=df_ oo;clear t F hp M;go_wp2;go_quiet (fail);go_wp2;go_meet;exact⟨congrArg _ (ac.o.symm.trans ae.o),h_ (below_drewN br _)⟩
  obtain⟨rfl,D⟩:=hcut;have ax:k=p\/k=p+1:=(by rw[hp,<-HK.o];unfold kR_;split<;>simp);obtain⟨W1,rfl⟩:∃W1,W1=wc:=⟨_,rfl⟩
  go_upto_if 48 with fail
  go_cut [7] (λx wx=>x=I_ j_ k/\Ψ (Λ W1 wx))
  ·
   cases z with
   |true=>
    have ag:k=p+1:=(by have:=od_ ae.o;omega);have aC:=h_ ag;clear ag aV aU ar ax;go_wp2;go_meet;exact⟨by rw[aC.o];try go_num,h_ br⟩
   |false=>
    have ag:k=p:=(by have:=of_decide_eq_false ae.o;omega);have aC:=h_ ag;clear ag aV aU ar ax;go_wp2;go_meet;exact⟨by rw[aC.o];try go_num,h_ br⟩
  case rest=>
  obtain⟨rfl,av⟩:=hcut;replace D:=h_ (Qb_ D.o av.o);clear av hp;have V:=h_<|HP.o.next D.o;have an:=h_<|Qz_ HG.o D.o;have ao:=h_<|HZ.o.next D.o;have am:=h_<|HF.o.next D.o;have a:=ll_ a D.o.size;clear HP HG HZ HF D;obtain⟨⟨⟨a1,n1,k1⟩,v1,s1⟩,y⟩:∃g,ds[k]? =σ g:=⟨_,gE (by rw[m.o];omega)⟩;obtain⟨⟨⟨a2,n2,k2⟩,v2,Z⟩,t⟩:∃g,ds[i]? =σ g:=⟨_,gE (by rw[m.o];omega)⟩;obtain⟨P,K,bk,N⟩:=V.o.at0 (k:=k) ar y;obtain⟨T,U,bl,F⟩:=V.o.at0 (k:=i) oo t;have v:=h_ (λW B=>ZZ_ a1 n1 k1 v1 s1 a2 n2 k2 v2 Z W oo oo (N.next (w':=W) B) (F.next B));have bF:(k:Int)<(h:Int):=oo;have bC:(i:Int)<(h:Int):=oo
  cases s:Xt_ (v1,s1) (v2,Z)with
  |false=>
   have ad:Ψ (R=ds.map Prod.snd):=h_ (by rw[<-HE.o];exact zP_ HK.o y t s);rw[s]at v;clear s y t N F;go_wp2
   go_region_held3 (λw'=>w'.cell? ⟨c,k*2,ν⟩=σ (S_ a1 n1 k1)/\w'.cell? ⟨c,k*2+1,ν⟩=σ (I_ j_ s1)/\w'.cell? ⟨c,i*2,ν⟩=σ (S_ a2 n2 k2)/\w'.cell? ⟨c,i*2+1,ν⟩=σ (I_ j_ Z))
    (first|exact⟨P,K,T,U⟩|exact⟨G,H,I,J⟩)
    ((go_at_call 285;refine mb_ (v.o _ (by exact br.drew)) ?_;intro w8 h8;have C:=h_ (show Λ wc w8 from br.drew.trans h8);obtain⟨b,af⟩:=QW_ C.o;have G:=(b _ _ a).trans P;have H:=(b _ _ a).trans K;have I:=(b _ _ a).trans T;have J:=(b _ _ a).trans U))
   have aE:=h_<|V.o.next C.o;have aB:=h_<|Qz_ an.o C.o;have r:=h_<|ao.o.next C.o;have L:=h_<|am.o.next C.o;clear V an ao am P K T U G H I J b af C h8 v;obtain⟨f0,f1⟩:w8.cell? ⟨w.heap.size+1,0,ν⟩=σ (S_ E n0 k0)/\w8.cell? ⟨w.heap.size+1,1,ν⟩=σ (I_ j_ O):=⟨L.o.cell 0,L.o.cell 1⟩;obtain⟨r0,r1⟩:w8.cell? ⟨w.heap.size,0,ν⟩=σ (S_ ν 0 0)/\w8.cell? ⟨w.heap.size,1,ν⟩=σ (I_ j_ 0):=⟨r.o.cell 0,r.o.cell 1⟩;have rf:=r.o.frozen;have rl:=r.o.lt;have fl:=L.o.lt;have A:c≠w.heap.size:=(by have:=Q.o;omega);have aF:=h_<|((aE.o.off A r.o 0 (S_ E n0 k0)).off A (r.o.set_ 0 (S_ E n0 k0)) 1 (I_ j_ O)).next br.drew;have ab:=h_<|Qz_ (grow_cell (grow_cell aB.o (lr_ _) 0 (S_ E n0 k0)) (lr_ _) 1 (I_ j_ O)) br.drew;go_wp2
   go_region
   go_wp2_with fail;refine bodyPost_ret (by simp[results,Tryz.results271,go_sem,r0,r1];try rfl) rfl ?_;exact⟨rfl,⟨ds,ad.o.symm,aF.o⟩,aN.o.grown ab.o aO.o,ab.o⟩
  |true=>
   have ad:Ψ (Y7_ f ((Vx_ ds i k).map Prod.snd) k=R):=h_ (by rw[<-HE.o];exact(Qal_ (by rw[m.o];exact h1) HK.o y t s).symm);have bb:=h_ (λW (B:HpD n (σ ⟨c,0,ν⟩) h d ds W)=>B.swap (i:=i) (j:=k) oo ar t y);rw[s]at v;clear s y t N F;go_wp2
   go_region_held3 (λw'=>w'.cell? ⟨c,k*2,ν⟩=σ (S_ a1 n1 k1)/\w'.cell? ⟨c,k*2+1,ν⟩=σ (I_ j_ s1)/\w'.cell? ⟨c,i*2,ν⟩=σ (S_ a2 n2 k2)/\w'.cell? ⟨c,i*2+1,ν⟩=σ (I_ j_ Z))
    (first|exact⟨P,K,T,U⟩|exact⟨G,H,I,J⟩)
    ((go_at_call 285;refine mb_ (v.o _ (by exact br.drew)) ?_;intro w8 h8;have C:=h_ (show Λ wc w8 from br.drew.trans h8);obtain⟨b,af⟩:=QW_ C.o;have G:=(b _ _ a).trans P;have H:=(b _ _ a).trans K;have I:=(b _ _ a).trans T;have J:=(b _ _ a).trans U))
   have aR:=h_<|V.o.next C.o;have ba:=h_<|Qz_ an.o C.o;have bd:=h_<|ao.o.next C.o;have a8:=h_<|am.o.next C.o;have bs:=ll_ a C.o.size;have bB:c<w.heap.size:=Q.o;have bq:∀o,w8.frozen? ⟨c,o,ν⟩=φ:=(by obtain⟨q,e,_,_,hf,_⟩:=aR.o.blk oo;injection e with e;injection e with e;rw[e];exact hf);clear P K T U b af C h8 a v V an ao am;go_wp2
   go_region
   have aS:=h_<|(bb.o _ aR.o).next br.drew;have aP:=h_<|Qz_ (grow_put (grow_put ba.o (.inl rfl) i ((a1,n1,k1),(v1,s1))) (.inl rfl) k ((a2,n2,k2),(v2,Z))) br.drew;unfold Wv_ at aS aP;have A:w.heap.size≠c:=oo;have S:w.heap.size+1≠c:=oo;have be:=h_<|((((bd.o.far (p:=⟨c,i*2,ν⟩) A (S_ a1 n1 k1)).far (p:=⟨c,i*2+1,ν⟩) A (I_ j_ s1)).far (p:=⟨c,k*2,ν⟩) A (S_ a2 n2 k2)).far (p:=⟨c,k*2+1,ν⟩) A (I_ j_ Z)).drew;have a9:=h_<|((((a8.o.far (p:=⟨c,i*2,ν⟩) S (S_ a1 n1 k1)).far (p:=⟨c,i*2+1,ν⟩) S (I_ j_ s1)).far (p:=⟨c,k*2,ν⟩) S (S_ a2 n2 k2)).far (p:=⟨c,k*2+1,ν⟩) S (I_ j_ Z)).drew;go_wp2;go_roundw
   ·exact⟨k,f,Vx_ ds i k,oo,oo,rfl,h_ (by rw[Ga_];exact m.o),ad,aS,aP,be,a9⟩
   exact ms_
 have ad:Ψ (R=ds.map Prod.snd):=h_ (by rw[<-HE.o];exact xv_ (by rw[m.o];exact h1));have aE:=HP;have aB:=HG;have r:=HZ;have L:=HF;obtain⟨f0,f1⟩:wr.cell? ⟨w.heap.size+1,0,ν⟩=σ (S_ E n0 k0)/\wr.cell? ⟨w.heap.size+1,1,ν⟩=σ (I_ j_ O):=⟨L.o.cell 0,L.o.cell 1⟩;obtain⟨r0,r1⟩:wr.cell? ⟨w.heap.size,0,ν⟩=σ (S_ ν 0 0)/\wr.cell? ⟨w.heap.size,1,ν⟩=σ (I_ j_ 0):=⟨r.o.cell 0,r.o.cell 1⟩;have rf:=r.o.frozen;have rl:=r.o.lt;have fl:=L.o.lt;have A:c≠w.heap.size:=(by have:=Q.o;omega);have aF:=h_<|((aE.o.off A r.o 0 (S_ E n0 k0)).off A (r.o.set_ 0 (S_ E n0 k0)) 1 (I_ j_ O)).next br.drew;have ab:=h_<|Qz_ (grow_cell (grow_cell aB.o (lr_ _) 0 (S_ E n0 k0)) (lr_ _) 1 (I_ j_ O)) br.drew;go_wp2
 go_region
 go_wp2_with fail;refine bodyPost_ret (by simp[results,Tryz.results271,go_sem,r0,r1];try rfl) rfl ?_;exact⟨rfl,⟨ds,ad.o.symm,aF.o⟩,aN.o.grown ab.o aO.o,ab.o⟩
def j2_ (ds:List HSt) (E:OA) (n0 k0:Nat) (v0:LI) (P:Int) (w:Ω) (B:HpD n (σ ⟨c,0,ν⟩) (h+1) d ds w) (h0:ds[0]? =σ ((E,n0,k0),(v0,P))) (hn:h<=1000000):
  Δ π 142 #[S_ (σ ⟨c,0,ν⟩) (h+1) d] w (PopR n h d c ((E,n0,k0),(v0,P)) (Vr_ (ds.map Prod.snd)) w):=by
 have hl:=B.len;obtain⟨g',e,bA,bG,bi,a,cs,aT⟩:=B.blk oo;injection e with e;injection e with e;subst e;obtain⟨⟨⟨al,nl,kl⟩,vl,sl⟩,aq⟩:∃g,ds[h]? =σ g:=⟨_,gE oo⟩;obtain⟨Q,L,_,_⟩:=B.at0 (k:=0) oo h0;obtain⟨X,Y,_,_⟩:=B.at0 (k:=h) oo aq;rw[Nat.zero_mul]at Q L;rw[Nat.zero_add]at L;obtain⟨R,hR⟩:=ex_ (Vr_ (ds.map Prod.snd));have HR:=h_ (show Y7_ (h+1) (((ds.set 0 ((al,nl,kl),(vl,sl))).take h).map Prod.snd) 0=R by rw[<-hR];exact(QdT_ hl aq).symm);rw[hR];have aN:=h_<|B.2 _<|lm_ h0;have ab:=B.put (i:=0) oo<|B.2 _<|lm_ aq;have aa:=XP_ w c 0 ((al,nl,kl),(vl,sl));unfold Wv_ at ab aa;rw[Nat.zero_mul,Nat.zero_add]at ab aa;dsimp only at ab aa;have m:=h_ (show((ds.set 0 ((al,nl,kl),(vl,sl))).take h).length=h by rw[List.length_take,List.length_set,hl];omega);generalize aI:(w.setCell ⟨c,0,ν⟩ (S_ al nl kl)).setCell ⟨c,1,ν⟩ (I_ j_ sl)=w1 at ab aa;have aJ:w1.heap.size=w.heap.size:=by rw[<-aI];simp[World.setCell]
 have aD:=h_<|((ab.cut (k:=h) oo ⟨_,rfl⟩).next (br.alloc (lr_ _) (C_ #[S_ ν 0 0,I_ j_ 0] 185))).next (br.alloc (lr_ _) (C_ #[S_ E n0 k0,I_ j_ P] 185));have aA:=h_<|Qz_ aa<|Z3_ w1 (C_ #[S_ ν 0 0,I_ j_ 0] 185)<|C_ #[S_ E n0 k0,I_ j_ P] 185;have aG:=h_ (show Blk ((w1.alloc (C_ #[S_ ν 0 0,I_ j_ 0] 185)).alloc (C_ #[S_ E n0 k0,I_ j_ P] 185)) w.heap.size 185 #[S_ ν 0 0,I_ j_ 0]from by rw[<-aJ];exact(Blk.new w1 _ _).alloc _);have az:=h_ (show Blk ((w1.alloc (C_ #[S_ ν 0 0,I_ j_ 0] 185)).alloc (C_ #[S_ E n0 k0,I_ j_ P] 185)) (w.heap.size+1) 185 #[S_ E n0 k0,I_ j_ P]from by have B:=Blk.new (w1.alloc (C_ #[S_ ν 0 0,I_ j_ 0] 185)) 185 #[S_ E n0 k0,I_ j_ P];rw[ws_,aJ]at B;exact B);rw[<-aI]at aD aA aG az;have bv:(h:Int)<=(d:Int):=oo;have aO:=h_ (show ∀q,σ c=σ q->∃cs,Blk w q 185 cs from λq e=>by injection e with e;subst e;exact⟨_,aT⟩);clear B h0 aq hR ab aa aI aJ aT hl;have S:=h_ a;go_in;go_wp2;clear Q L X Y a bi;go_loopw [6] (λx wr=>∃(i f:Nat) (ds:List HSt),i<=h/\h+1<=i+f/\x=I_ j_ i/\Ψ (η ds=h)/\Ψ (Y7_ f (ds.map Prod.snd) i=R)/\Ψ (HpD n (σ ⟨c,0,ν⟩) h d ds wr)/\Ψ (w.grownBy wr (σ c))/\Ψ (Blk wr w.heap.size 185 #[S_ ν 0 0,I_ j_ 0])/\Ψ (Blk wr (w.heap.size+1) 185 #[S_ E n0 k0,I_ j_ P])) (λx _=>h-(intOf x).toNat)
 ·exact⟨0,h+1,_,lz_ _,oo,rfl,m,HR,aD,aA,aG,az⟩
 clear HR aD aA aG az m;obtain⟨i,f,ds,bE,bD,rfl,m,HE,HP,HG,HZ,HF⟩:=hrel;obtain⟨f,rfl⟩:∃q,f=q+1:=⟨f-1,oo⟩;have a:c<wr.heap.size:=ll_ S.o HG.o.size;by_cases h1:2*i+1<h
 ·obtain⟨k,hk⟩:=ex_ (kR_ (ds.map Prod.snd) i);have aX:=Qdf_ (ds.map Prod.snd) i (by rw[List.length_map,m.o];exact h1);rw[hk,List.length_map,m.o]at aX;obtain⟨aU,ar,aV⟩:=aX;have HK:=h_ hk;clear hk;obtain⟨W0,rfl⟩:∃W0,W0=wr:=⟨_,rfl⟩
  go_upto_if 47 with fail
  obtain⟨p,hp⟩:∃p,p=2*i+1:=⟨_,rfl⟩;have bx:=h_ hp;have bz:p<h:=oo;rw[show 2*(i:Int)+1=(p:Int)from oo];obtain⟨z,hz⟩:=ex_ (decide (k=2*i+2));have ag:=h_ hz;clear hz;go_cut [47] (λx wx=>x=B_ z/\Ψ (Λ W0 wx))
  ·
   obtain⟨⟨⟨T,n2,V⟩,v2,K⟩,t⟩:∃g,ds[2*i+1]? =σ g:=⟨_,gE (by rw[m.o];omega)⟩;obtain⟨X,Y,bl,F⟩:=HP.o.at0 (k:=2*i+1) oo t;by_cases h2:2*i+2<h
   ·obtain⟨⟨⟨a1,n1,k1⟩,v1,s1⟩,y⟩:∃g,ds[2*i+2]? =σ g:=⟨_,gE (by rw[m.o];omega)⟩;obtain⟨Q,L,bk,O⟩:=HP.o.at0 (k:=2*i+2) oo y;have v:=h_ (λW B=>Z2_ a1 n1 k1 v1 s1 T n2 V v2 K W oo oo (O.next (w':=W) B) (F.next B));have N:=h_ (vW_ (by rw[m.o];exact h2) y t);have e2:IntKind.i64.wrap ((p:Int)+1)=(p:Int)+1:=(by rw[IntKind.wrap_i64];omega);have e3:decide ((p:Int)+1<(h:Int))=τ:=dt_ oo;have e4:(0:Int)<=(p:Int)+1:=oo;have e5:(p:Int)<(h:Int):=oo;have e6:((p:Int)+1).toNat=p+1:=oo;have e7:(p:Int)+1<(h:Int):=oo;rw[show 2*i+2=p+1 from oo]at Q L;rw[<-hp]at X Y
    cases s:Xt_ (v1,s1) (v2,K)with
    |true=>
     have ae:Ψ (decide (k=2*i+2)=τ):=h_ (by rw[<-HK.o,N.o];dsimp only;rw[s];simp);rw[s]at v;clear s y t O F hp N;go_wp2
     go_region_held3 (λw'=>w'.cell? ⟨c,(p+1)*2,ν⟩=σ (S_ a1 n1 k1)/\w'.cell? ⟨c,(p+1)*2+1,ν⟩=σ (I_ j_ s1)/\w'.cell? ⟨c,p*2,ν⟩=σ (S_ T n2 V)/\w'.cell? ⟨c,p*2+1,ν⟩=σ (I_ j_ K))
      (first|exact⟨Q,L,X,Y⟩|exact⟨G,H,I,J⟩)
      ((go_at_call 195;refine mb_ (v.o _ (by exact br.drew)) ?_;intro w8 h8;have C:=h_ (show Λ W0 w8 from br.drew.trans h8);obtain⟨b,ah⟩:=QW_ C.o;have G:=(b _ _ a).trans Q;have H:=(b _ _ a).trans L;have I:=(b _ _ a).trans X;have J:=(b _ _ a).trans Y))
     clear e2 e3 e4 e5 e6 e7;go_wp2;go_meet;exact⟨congrArg _ (ae.o.symm.trans ag.o),C⟩
    |false=>
     have ae:Ψ (decide (k=2*i+2)=φ):=h_ (by rw[<-HK.o,N.o];dsimp only;rw[s];simp);rw[s]at v;clear s y t O F hp N;go_wp2
     go_region_held3 (λw'=>w'.cell? ⟨c,(p+1)*2,ν⟩=σ (S_ a1 n1 k1)/\w'.cell? ⟨c,(p+1)*2+1,ν⟩=σ (I_ j_ s1)/\w'.cell? ⟨c,p*2,ν⟩=σ (S_ T n2 V)/\w'.cell? ⟨c,p*2+1,ν⟩=σ (I_ j_ K))
      (first|exact⟨Q,L,X,Y⟩|exact⟨G,H,I,J⟩)
      ((go_at_call 195;refine mb_ (v.o _ (by exact br.drew)) ?_;intro w8 h8;have C:=h_ (show Λ W0 w8 from br.drew.trans h8);obtain⟨b,ah⟩:=QW_ C.o;have G:=(b _ _ a).trans Q;have H:=(b _ _ a).trans L;have I:=(b _ _ a).trans X;have J:=(b _ _ a).trans Y))
     clear e2 e3 e4 e5 e6 e7;go_wp2;go_meet;exact⟨congrArg _ (ae.o.symm.trans ag.o),C⟩
   have N:=h_<|vV_ (l:=ds) (i:=i) (by rw[m.o];exact h2);have ae:Ψ (decide (k=2*i+2)=φ):=h_ (by rw[<-HK.o,N.o];simp);have e2:IntKind.i64.wrap ((p:Int)+1)=(p:Int)+1:=(by rw[IntKind.wrap_i64];omega);have e1:decide ((p:Int)+1<(h:Int))=φ:=df_ oo;clear t F hp N;go_wp2;go_quiet (fail);go_wp2;go_meet;exact⟨congrArg _ (ae.o.symm.trans ag.o),h_ (below_drewN br _)⟩
  obtain⟨rfl,D⟩:=hcut;have ax:k=p\/k=p+1:=(by rw[hp,<-HK.o];unfold kR_;split<;>simp);obtain⟨W1,rfl⟩:∃W1,W1=wc:=⟨_,rfl⟩
  go_upto_if 47 with fail
  go_cut [7] (λx wx=>x=I_ j_ k/\Ψ (Λ W1 wx))
  ·
   cases z with
   |true=>
    have ai:k=p+1:=(by have:=od_ ag.o;omega);have aC:=h_ ai;clear ai aV aU ar ax;go_wp2;go_meet;exact⟨by rw[aC.o];try go_num,h_ br⟩
   |false=>
    have ai:k=p:=(by have:=of_decide_eq_false ag.o;omega);have aC:=h_ ai;clear ai aV aU ar ax;go_wp2;go_meet;exact⟨by rw[aC.o];try go_num,h_ br⟩
  case rest=>
  obtain⟨rfl,av⟩:=hcut;replace D:=h_ (Qb_ D.o av.o);clear av hp;have Z:=h_<|HP.o.next D.o;have an:=h_<|Qz_ HG.o D.o;have ao:=h_<|HZ.o.next D.o;have am:=h_<|HF.o.next D.o;have a:=ll_ a D.o.size;clear HP HG HZ HF D;obtain⟨⟨⟨a1,n1,k1⟩,v1,s1⟩,y⟩:∃g,ds[k]? =σ g:=⟨_,gE (by rw[m.o];omega)⟩;obtain⟨⟨⟨T,n2,V⟩,v2,K⟩,t⟩:∃g,ds[i]? =σ g:=⟨_,gE (by rw[m.o];omega)⟩;obtain⟨Q,L,bk,O⟩:=Z.o.at0 (k:=k) ar y;obtain⟨X,Y,bl,F⟩:=Z.o.at0 (k:=i) oo t;have v:=h_ (λW B=>Z2_ a1 n1 k1 v1 s1 T n2 V v2 K W oo oo (O.next (w':=W) B) (F.next B));have bF:(k:Int)<(h:Int):=oo;have bC:(i:Int)<(h:Int):=oo
  cases s:Xt_ (v1,s1) (v2,K)with
  |false=>
   have af:Ψ (R=ds.map Prod.snd):=h_ (by rw[<-HE.o];exact zP_ HK.o y t s);rw[s]at v;clear s y t O F;go_wp2
   go_region_held3 (λw'=>w'.cell? ⟨c,k*2,ν⟩=σ (S_ a1 n1 k1)/\w'.cell? ⟨c,k*2+1,ν⟩=σ (I_ j_ s1)/\w'.cell? ⟨c,i*2,ν⟩=σ (S_ T n2 V)/\w'.cell? ⟨c,i*2+1,ν⟩=σ (I_ j_ K))
    (first|exact⟨Q,L,X,Y⟩|exact⟨G,H,I,J⟩)
    ((go_at_call 195;refine mb_ (v.o _ (by exact br.drew)) ?_;intro w8 h8;have C:=h_ (show Λ wc w8 from br.drew.trans h8);obtain⟨b,ah⟩:=QW_ C.o;have G:=(b _ _ a).trans Q;have H:=(b _ _ a).trans L;have I:=(b _ _ a).trans X;have J:=(b _ _ a).trans Y))
   have aE:=h_<|Z.o.next C.o;have aB:=h_<|Qz_ an.o C.o;have r:=h_<|ao.o.next C.o;have M:=h_<|am.o.next C.o;clear Z an ao am Q L X Y G H I J b ah C h8 v;obtain⟨f0,f1⟩:w8.cell? ⟨w.heap.size+1,0,ν⟩=σ (S_ E n0 k0)/\w8.cell? ⟨w.heap.size+1,1,ν⟩=σ (I_ j_ P):=⟨M.o.cell 0,M.o.cell 1⟩;obtain⟨r0,r1⟩:w8.cell? ⟨w.heap.size,0,ν⟩=σ (S_ ν 0 0)/\w8.cell? ⟨w.heap.size,1,ν⟩=σ (I_ j_ 0):=⟨r.o.cell 0,r.o.cell 1⟩;have rf:=r.o.frozen;have rl:=r.o.lt;have fl:=M.o.lt;have A:c≠w.heap.size:=(by have:=S.o;omega);have aF:=h_<|((aE.o.off A r.o 0 (S_ E n0 k0)).off A (r.o.set_ 0 (S_ E n0 k0)) 1 (I_ j_ P)).next br.drew;have ad:=h_<|Qz_ (grow_cell (grow_cell aB.o (lr_ _) 0 (S_ E n0 k0)) (lr_ _) 1 (I_ j_ P)) br.drew;go_wp2
   go_region
   go_wp2_with fail;refine bodyPost_ret (by simp[results,Tryz.results142,go_sem,r0,r1];try rfl) rfl ?_;exact⟨rfl,⟨ds,af.o.symm,aF.o⟩,aN.o.grown ad.o aO.o,ad.o⟩
  |true=>
   have af:Ψ (Y7_ f ((Vx_ ds i k).map Prod.snd) k=R):=h_ (by rw[<-HE.o];exact(Qal_ (by rw[m.o];exact h1) HK.o y t s).symm);have bb:=h_ (λW (B:HpD n (σ ⟨c,0,ν⟩) h d ds W)=>B.swap (i:=i) (j:=k) oo ar t y);rw[s]at v;clear s y t O F;go_wp2
   go_region_held3 (λw'=>w'.cell? ⟨c,k*2,ν⟩=σ (S_ a1 n1 k1)/\w'.cell? ⟨c,k*2+1,ν⟩=σ (I_ j_ s1)/\w'.cell? ⟨c,i*2,ν⟩=σ (S_ T n2 V)/\w'.cell? ⟨c,i*2+1,ν⟩=σ (I_ j_ K))
    (first|exact⟨Q,L,X,Y⟩|exact⟨G,H,I,J⟩)
    ((go_at_call 195;refine mb_ (v.o _ (by exact br.drew)) ?_;intro w8 h8;have C:=h_ (show Λ wc w8 from br.drew.trans h8);obtain⟨b,ah⟩:=QW_ C.o;have G:=(b _ _ a).trans Q;have H:=(b _ _ a).trans L;have I:=(b _ _ a).trans X;have J:=(b _ _ a).trans Y))
   have aR:=h_<|Z.o.next C.o;have ba:=h_<|Qz_ an.o C.o;have bd:=h_<|ao.o.next C.o;have a8:=h_<|am.o.next C.o;have bs:=ll_ a C.o.size;have bB:c<w.heap.size:=S.o;have bq:∀o,w8.frozen? ⟨c,o,ν⟩=φ:=(by obtain⟨q,e,_,_,hf,_⟩:=aR.o.blk oo;injection e with e;injection e with e;rw[e];exact hf);clear Q L X Y b ah C h8 a v Z an ao am;have aS:=h_<|(bb.o _ aR.o).next (br.alloc (lr_ _) (C_ #[S_ T n2 V,I_ j_ K] 185));have aP:=h_<|Qz_ (grow_put (grow_put ba.o (.inl rfl) i ((a1,n1,k1),(v1,s1))) (.inl rfl) k ((T,n2,V),(v2,K)))<|br.alloc (lr_ _)<|C_ #[S_ T n2 V,I_ j_ K] 185;unfold Wv_ at aS aP;have A:w.heap.size≠c:=oo;have U:w.heap.size+1≠c:=oo;have be:=h_<|((((bd.o.far (p:=⟨c,i*2,ν⟩) A (S_ a1 n1 k1)).far (p:=⟨c,i*2+1,ν⟩) A (I_ j_ s1)).far (p:=⟨c,k*2,ν⟩) A (S_ T n2 V)).far (p:=⟨c,k*2+1,ν⟩) A (I_ j_ K)).alloc (C_ #[S_ T n2 V,I_ j_ K] 185);have a9:=h_<|((((a8.o.far (p:=⟨c,i*2,ν⟩) U (S_ a1 n1 k1)).far (p:=⟨c,i*2+1,ν⟩) U (I_ j_ s1)).far (p:=⟨c,k*2,ν⟩) U (S_ T n2 V)).far (p:=⟨c,k*2+1,ν⟩) U (I_ j_ K)).alloc (C_ #[S_ T n2 V,I_ j_ K] 185);go_wp2;go_roundw
   ·exact⟨k,f,Vx_ ds i k,oo,oo,rfl,h_ (by rw[Ga_];exact m.o),af,aS,aP,be,a9⟩
   exact ms_
 have af:Ψ (R=ds.map Prod.snd):=h_ (by rw[<-HE.o];exact xv_ (by rw[m.o];exact h1));have aE:=HP;have aB:=HG;have r:=HZ;have M:=HF;obtain⟨f0,f1⟩:wr.cell? ⟨w.heap.size+1,0,ν⟩=σ (S_ E n0 k0)/\wr.cell? ⟨w.heap.size+1,1,ν⟩=σ (I_ j_ P):=⟨M.o.cell 0,M.o.cell 1⟩;obtain⟨r0,r1⟩:wr.cell? ⟨w.heap.size,0,ν⟩=σ (S_ ν 0 0)/\wr.cell? ⟨w.heap.size,1,ν⟩=σ (I_ j_ 0):=⟨r.o.cell 0,r.o.cell 1⟩;have rf:=r.o.frozen;have rl:=r.o.lt;have fl:=M.o.lt;have A:c≠w.heap.size:=(by have:=S.o;omega);have aF:=h_<|((aE.o.off A r.o 0 (S_ E n0 k0)).off A (r.o.set_ 0 (S_ E n0 k0)) 1 (I_ j_ P)).next br.drew;have ad:=h_<|Qz_ (grow_cell (grow_cell aB.o (lr_ _) 0 (S_ E n0 k0)) (lr_ _) 1 (I_ j_ P)) br.drew;go_wp2
 go_region
 go_wp2_with fail;refine bodyPost_ret (by simp[results,Tryz.results142,go_sem,r0,r1];try rfl) rfl ?_;exact⟨rfl,⟨ds,af.o.symm,aF.o⟩,aN.o.grown ad.o aO.o,ad.o⟩
open Go.RowKit Go.Sort
abbrev hunC (m:Int) (A0:OA) (n0 c0:Nat) (A1:OA) (n1 c1:Nat) (A2:OA) (n2 c2:Nat) (A3:OA) (n3 c3:Nat) (wd:Int) (Ab:OA) (nb cb:Nat) (co cs:Int) (Ah:OA) (nh ch:Nat) (pops:Int):Array Υ:=
 #[I_ j_ m,S_ A0 n0 c0,S_ A1 n1 c1,S_ A2 n2 c2,S_ A3 n3 c3,I_ j_ wd,S_ Ab nb cb,I_ j_ co,I_ j_ cs,S_ Ah nh ch,I_ j_ pops]
def Yk_ {w:Ω} {T:Nat} {t:TypeId} {m:Int} {A0 A1 A2 A3 Ab Ah:OA} {n0 c0 n1 c1 n2 c2 n3 c3 nb cb nh ch:Nat} {wd co cs pops:Int} (h:Blk w T t (hunC m A0 n0 c0 A1 n1 c1 A2 n2 c2 A3 n3 c3 wd Ab nb cb co cs Ah nh ch pops)):
  (w.cell? ⟨T,0,ν⟩=σ (I_ j_ m)/\w.cell? ⟨T,1,ν⟩=σ (S_ A0 n0 c0)/\w.cell? ⟨T,2,ν⟩=σ (S_ A1 n1 c1)/\w.cell? ⟨T,3,ν⟩=σ (S_ A2 n2 c2)/\w.cell? ⟨T,4,ν⟩=σ (S_ A3 n3 c3)/\w.cell? ⟨T,5,ν⟩=σ (I_ j_ wd))/\
  (w.cell? ⟨T,6,ν⟩=σ (S_ Ab nb cb)/\w.cell? ⟨T,7,ν⟩=σ (I_ j_ co)/\w.cell? ⟨T,8,ν⟩=σ (I_ j_ cs)/\w.cell? ⟨T,9,ν⟩=σ (S_ Ah nh ch)/\w.cell? ⟨T,10,ν⟩=σ (I_ j_ pops))/\(∀o,w.frozen? ⟨T,o,ν⟩=φ)/\T<w.heap.size:=
 ⟨⟨h.cell 0,h.cell 1,h.cell 2,h.cell 3,h.cell 4,h.cell 5⟩,⟨h.cell 6,h.cell 7,h.cell 8,h.cell 9,h.cell 10⟩,h.frozen,h.lt⟩
structure Hu where
 P:Hn
 A0:OA
 c0:Nat
 A1:OA
 c1:Nat
 A2:OA
 c2:Nat
 A3:OA
 c3:Nat
 w0:Ω
 T:Nat
def Hu.cells (D:Hu) (Ab:OA) (nb cb:Nat) (co cs:Int) (Ah:OA) (nh ch:Nat) (pops:Int):Array Υ:=
 hunC D.P.m D.A0 D.P.l0.length D.c0 D.A1 D.P.l1.length D.c1 D.A2 D.P.l2.length D.c2 D.A3 D.P.l3.length D.c3 D.P.width Ab nb cb co cs Ah nh ch pops
structure HuA (D:Hu) (best:LI) (cost:Int × Int) (hl:List SSt) (pops:Int) (Ab:OA) (nb cb:Nat) (Ah:OA) (nh ch:Nat) (w:Ω):Prop where
 blk:Blk w D.T 241 (D.cells Ab nb cb cost.1 cost.2 Ah nh ch pops)
 best:nb<=8/\Mine w D.w0.heap.size 3 1 Ab nb cb (Qa_ best)
 heap:HpM D.w0.heap.size Ah nh ch hl w
 bT:D.w0.heap.size<=D.T
 old:Below D.w0.heap.size D.w0 w
structure HuK (D:Hu):Prop where
 M:PcM D.P D.A0 D.A1 D.A2 D.A3 D.w0
 R:PcR D.P
def HuM (D:Hu) (best:LI) (cost:Int × Int) (hl:List SSt) (pops:Int) (w:Ω):Prop:=∃Ab nb cb Ah nh ch,HuA D best cost hl pops Ab nb cb Ah nh ch w
section
variable {D:Hu} {best:LI} {cost:Int × Int} {hl:List SSt} {pops:Int} {Ab Ah:OA} {nb cb nh ch:Nat} {w w':Ω}
def HuA.next (h:HuA D best cost hl pops Ab nb cb Ah nh ch w) (k:Λ w w'):HuA D best cost hl pops Ab nb cb Ah nh ch w':=⟨h.blk.next k,⟨h.best.1,h.best.2.next k⟩,h.heap.next k,h.bT,Qb_ h.old k⟩
def HuA.pc (h:HuA D best cost hl pops Ab nb cb Ah nh ch w) (hK:HuK D):PcM D.P D.A0 D.A1 D.A2 D.A3 w:=hK.M.next h.old
def HpM.set {B:Nat} {A:OA} {n c:Nat} {l:List SSt} {w:Ω} (h:HpM B A n c l w) {q:Nat} {t:TypeId} {cs:Array Υ} (hb:Blk w q t cs) (h1:t≠3) (h2:t≠185) (j:Nat) (u:Υ):HpM B A n c l (w.setCell ⟨q,j,ν⟩ u):=by
 obtain⟨ds,e,h3,h4⟩:=h;exact⟨ds,e,Qt_ h3 hb (Ne.symm h2) _ _,λd hd=>⟨(h4 d hd).1,Qt_ (h4 d hd).2 hb (Ne.symm h1) _ _⟩⟩
end
def HuA.off {D:Hu} {best:LI} {cost:Int × Int} {hl:List SSt} {pops:Int} {Ab Ah:OA} {nb cb nh ch:Nat} {w:Ω} (h:HuA D best cost hl pops Ab nb cb Ah nh ch w) {q:Nat} {cs:Array Υ} (a:Blk w q 182 cs) (hq:D.w0.heap.size<=q) (j:Nat) (u:Υ):HuA D best cost hl pops Ab nb cb Ah nh ch (w.setCell ⟨q,j,ν⟩ u):=
 ⟨h.blk.far (Kj_ h.blk a dc_) u,⟨h.best.1,Qt_ h.best.2 a dc_ _ _⟩,h.heap.set a dc_ dc_ _ _,h.bT,h.old.setCell hq _⟩
def HuA.keep {D:Hu} {cost:Int × Int} {hl:List SSt}  {Ah:OA}   (h:HuA D v cost hl a z i k Ah j u w) {pops:OA} {na ca:Nat} {best:LI} (hv:na<=8/\Mine w D.w0.heap.size 3 1 pops na ca (Qa_ best)) (o s:Int):
  HuA D best (o,s) hl a pops na ca Ah j u (((w.setCell ⟨D.T,6,ν⟩ (S_ pops na ca)).setCell ⟨D.T,7,ν⟩ (I_ j_ o)).setCell ⟨D.T,8,ν⟩ (I_ j_ s)):=by
 have b:=h.blk.set_ 6<|S_ pops na ca;have c:=b.set_ 7<|I_ j_ o;exact⟨c.set_ 8 (I_ j_ s),⟨hv.1,Qt_ (Qt_ (Qt_ hv.2 h.blk dc_ _ _) b dc_ _ _) c dc_ _ _⟩,((h.heap.set h.blk dc_ dc_ _ _).set b dc_ dc_ _ _).set c dc_ dc_ _ _,h.bT,((h.old.setCell h.bT _).setCell h.bT _).setCell h.bT _⟩
def vu_ {a b:Int × Int} {v u:LI} (h:KQ_ a b=τ):Zd_ a v b u=τ:=by unfold Zd_;rw[h];rfl
def vv_ {a b:Int × Int} {v u:LI} (h:KQ_ a b=φ) (c:¬a=b):Zd_ a v b u=φ:=by unfold Zd_;rw[h,df_ c];rfl
def Uz_ {a:Int × Int} {v u:LI} (h:KQ_ a a=φ):Zd_ a v a u=decide (X0_ v u<0):=by unfold Zd_;rw[h,dt_ rfl];rfl
def HuR (D:Hu) (best:LI) (cost:Int × Int) (hl:List SSt) (pops:Int) (e:Ending) (w':Ω):Prop:=e=R_ (U_ #[])/\HuM D best cost hl pops w'
def jo_ (D:Hu) (hK:HuK D) (best:LI) (cost:Int × Int) (hl:List SSt) (pops:Int) (Ab:OA) (nb cb:Nat) (Ah:OA) (nh ch:Nat) (a:OA) (na ca:Nat) (v:LI) (w:Ω) (H:HuA D best cost hl pops Ab nb cb Ah nh ch w) (hv:Mine w D.w0.heap.size 3 1 a na ca (Qa_ v)) (O:ValR D.P v) (N:η v=D.P.l0.length):
  Δ π 272 #[P_ (σ ⟨D.T,0,ν⟩),S_ a na ca] w (HuR D (if Zd_ (D.P.cost v) v cost best=τ then v else best) (if Zd_ (D.P.cost v) v cost best=τ then D.P.cost v else cost) hl pops):=by
 have an:na<=8:=by have h1:=hv.len;have h2:=O.1;have h3:=hK.R.n0;simp[Qa_]at h1;omega
 have R:=h_ (λW h=>GT_ D.P D.A0 D.A1 D.A2 D.A3 D.c0 D.c1 D.c2 D.c3 a na ca v W ((H.pc hK).next (w':=W) h) hK.R (hv.rd.next h) O N);have HV:=h_ hv;have ad:=h_ (λW h=>Vg_ a na ca v Ab nb cb best W oo (by have:=H.best.1;omega) (hv.rd.next (w':=W) h) (H.best.2.rd.next h));have HH:=h_ H;obtain⟨co,cs⟩:=cost;obtain⟨⟨o,s⟩,ao⟩:=ex_ (D.P.cost v);rw[ao]at R |-
 obtain⟨rb,F⟩:=ex_ (if Zd_ (o,s) v (co,cs) best=τ then v else best);obtain⟨rc,G⟩:=ex_ (if Zd_ (o,s) v (co,cs) best=τ then (o,s)else (co,cs));rw[F,G];have A:=h_ (show Zd_ (o,s) v (co,cs) best=τ->rb=v/\rc=(o,s)from λh=>by rw[ip_ h]at F G;exact⟨F.symm,G.symm⟩);have z:=h_ (show Zd_ (o,s) v (co,cs) best=φ->rb=best/\rc=(co,cs)from λh=>by rw[in_ (by rw[h];simp)]at F G;exact⟨F.symm,G.symm⟩);clear F G;have L:=H.blk;unfold Hu.cells at L;obtain⟨⟨q0,q1,q2,q3,q4,q5⟩,⟨q6,q7,P,T,y⟩,U,aD⟩:=Yk_ L;dsimp only at q7 P;unfold pcCells at R;clear hv O N H hK L ao;have Q:=h_ (show Λ w (w.alloc (C_ #[I_ j_ 0,I_ j_ 0] 182)).drew from bra.drew);have ac:=h_ (show Blk (w.alloc (C_ #[I_ j_ 0,I_ j_ 0] 182)).drew w.heap.size 182 #[I_ j_ 0,I_ j_ 0]from Blk.new _ _ _);have HT:=h_ aD;have al:D.T≠w.heap.size:=oo;obtain⟨p0,p1,p2,p3,p4,p5⟩:=(Yk_ (show Blk (w.alloc (C_ #[I_ j_ 0,I_ j_ 0] 182)).drew D.T 241 (hunC D.P.m D.A0 D.P.l0.length D.c0 D.A1 D.P.l1.length D.c1 D.A2 D.P.l2.length D.c2 D.A3 D.P.l3.length D.c3 D.P.width Ab nb cb co cs Ah nh ch pops)from HH.o.blk.alloc _)).1;go_in;go_upto_region 0 with fail
 go_cut [4] (λp B=>∃g,p=P_ (σ ⟨g,0,ν⟩)/\Ψ (Blk B g 182 #[I_ j_ o,I_ j_ s])/\Ψ (HuA D best (co,cs) hl pops Ab nb cb Ah nh ch B)/\D.T<g/\Ψ (Λ w B))
 ·
  go_region_held3 (λw'=>w'.cell? ⟨D.T,0,ν⟩=σ (I_ j_ D.P.m)/\w'.cell? ⟨D.T,1,ν⟩=σ (S_ D.A0 D.P.l0.length D.c0)/\w'.cell? ⟨D.T,2,ν⟩=σ (S_ D.A1 D.P.l1.length D.c1)/\w'.cell? ⟨D.T,3,ν⟩=σ (S_ D.A2 D.P.l2.length D.c2)/\w'.cell? ⟨D.T,4,ν⟩=σ (S_ D.A3 D.P.l3.length D.c3)/\w'.cell? ⟨D.T,5,ν⟩=σ (I_ j_ D.P.width))
   (first|exact⟨q0,q1,q2,q3,q4,q5⟩|exact⟨p0,p1,p2,p3,p4,p5⟩|exact(Yk_ K8.o).1|exact(Yk_ (K8.o.alloc _)).1|exact(Yk_ ((K8.o.far (p:=⟨w.heap.size,0,ν⟩) al _).far (p:=⟨w.heap.size,1,ν⟩) al _)).1)
   ((go_at_call 270;refine mb_ (R.o _ (by first|exact Q.o|exact br.drew)) ?_;intro w8 h8;have H8:Ψ (HuA D best (co,cs) hl pops Ab nb cb Ah nh ch w8):=h_ (by first|exact(HH.o.next Q.o).next h8|exact HH.o.next (br.drew.trans h8));have K8:Ψ (Blk w8 D.T 241 (hunC D.P.m D.A0 D.P.l0.length D.c0 D.A1 D.P.l1.length D.c1 D.A2 D.P.l2.length D.c2 D.A3 D.P.l3.length D.c3 D.P.width Ab nb cb co cs Ah nh ch pops)):=h_ H8.o.blk;have B8:Ψ (Λ w w8):=h_ (by first|exact Qb_ Q.o h8|exact br.drew.trans h8);have aC:w.heap.size<=w8.heap.size:=B8.o.size;try (have Z:=h_ (ac.o.next h8);have z0:w8.cell? ⟨w.heap.size,0,ν⟩=σ (I_ j_ 0):=Z.o.cell 0;have z1:w8.cell? ⟨w.heap.size,1,ν⟩=σ (I_ j_ 0):=Z.o.cell 1;have zf:=Z.o.frozen;have zl:=Z.o.lt)))
  all_goals (go_wp2_with fail;go_meet)
  ·exact⟨_,rfl,h_ (Blk.new _ _ _),h_ (H8.o.next bra),oo,h_ (B8.o.alloc aC _)⟩
  have aq:D.w0.heap.size<=w.heap.size:=HH.o.old.size;exact⟨_,rfl,h_ ((Z.o.set_ 0 (I_ j_ o)).set_ 1 (I_ j_ s)),h_ ((H8.o.off Z.o aq 0 (I_ j_ o)).off (Z.o.set_ 0 (I_ j_ o)) aq 1 (I_ j_ s)),oo,h_ ((B8.o.setCell (lr_ _) _).setCell (lr_ _) _)⟩
 obtain⟨gc,rfl,E,K,aE,I⟩:=hcut;clear q0 q1 q2 q3 q4 q5 q6 q7 P T y U p0 p1 p2 p3 p4 p5 ac Q R;obtain⟨_,⟨q6,q7,P,T,y⟩,U,d⟩:=Yk_ (show Blk wc D.T 241 (hunC D.P.m D.A0 D.P.l0.length D.c0 D.A1 D.P.l1.length D.c1 D.A2 D.P.l2.length D.c2 D.A3 D.P.l3.length D.c3 D.P.width Ab nb cb co cs Ah nh ch pops)from K.o.blk);have X:wc.cell? ⟨gc,0,ν⟩=σ (I_ j_ o):=E.o.cell 0;have Y:wc.cell? ⟨gc,1,ν⟩=σ (I_ j_ s):=E.o.cell 1;have t:=E.o.lt;have f0:=λn l=>cell_grown (by exact t) X n l
 have f1:=λn l=>cell_grown (by exact t) Y n l
 have f6:=λn l=>cell_grown (by exact d) q6 n l
 have f7:=λn l=>cell_grown (by exact d) q7 n l
 have f8:=λn l=>cell_grown (by exact d) P n l
 have k:prog.follows .mixedOrders=τ:=by kernel_rfl
 cases j:KQ_ (o,s) (co,cs)with
 |true=>
  have J:=h_ (λ(q:Nat) (l:Array Obj)=>Calls.grown_of (show Δ π 286 #[A_ #[I_ j_ o,I_ j_ s],A_ #[I_ j_ co,I_ j_ cs]] (grow (wc.drewN q) l) (GrR (B_ τ) (grow (wc.drewN q) l))by rw[<-j];exact Y0_ o s co cs _));have V:=h_<|A.o<|vu_ j;clear j A z X Y q6 q7 P T y U t d;go_upto_region 1 with fail
  refine wp_region_quiet_grown k nr_ ?_
  repeat (first|go_big_quiet_step ((go_at_call 286;with_reducible exact(J.o _ _)))|quiet_step ((go_at_call 286;with_reducible exact(J.o _ _))))
  refine wpQuiet_nil ?_;intro _ x;obtain⟨⟨nq,osq⟩,f⟩:=x;subst f;have b:=Go.Lib.below_grow wc.heap.size wc (lr_ _) nq osq;have i:=h_<|K.o.next b;have m:=h_<|E.o.next b;have C:=h_<|Qb_ I.o b;clear f0 f1 f6 f7 f8 b K E I;generalize grow (wc.drewN nq) osq=B at *;obtain⟨_,⟨q6,q7,P,T,y⟩,U,d⟩:=Yk_ (show Blk B D.T 241 (hunC D.P.m D.A0 D.P.l0.length D.c0 D.A1 D.P.l1.length D.c1 D.A2 D.P.l2.length D.c2 D.A3 D.P.l3.length D.c3 D.P.width Ab nb cb co cs Ah nh ch pops)from i.o.blk);have X:B.cell? ⟨gc,0,ν⟩=σ (I_ j_ o):=m.o.cell 0;have Y:B.cell? ⟨gc,1,ν⟩=σ (I_ j_ s):=m.o.cell 1;have t:=m.o.lt;have HK:=h_<|i.o.keep ⟨an,HV.o.next C.o⟩ o s;go_wp2
  go_region
  go_wp2;go_end0;obtain⟨rfl,rfl⟩:=V.o;exact⟨rfl,_,_,_,_,_,_,HK.o.next br.drew⟩
 |false=>
  have J:=h_ (λ(q:Nat) (l:Array Obj)=>Calls.grown_of (show Δ π 286 #[A_ #[I_ j_ o,I_ j_ s],A_ #[I_ j_ co,I_ j_ cs]] (grow (wc.drewN q) l) (GrR (B_ φ) (grow (wc.drewN q) l))by rw[<-j];exact Y0_ o s co cs _));by_cases M:(o,s)=(co,cs)
  ·injection M with h1 h2;subst h1;subst h2;by_cases S:X0_ v best<0
   ·have V:=h_ (A.o (by rw[Uz_ j,dt_ S]));have HM:=h_ (λ(q:Nat) (l:Array Obj)=>Calls.grown_of (show Δ π 287 #[S_ a na ca,S_ Ab nb cb] (grow (wc.drewN q) l) (GrR (I_ j_ (X0_ v best)) (grow (wc.drewN q) l))from(ad.o _ (Qb_ I.o (Go.Lib.below_grow wc.heap.size wc (lr_ _) q l))).mono λ_ _ h=>⟨h.1,0,#[],by rw[<-h.2];exact(grow_empty _).symm⟩));clear j A z X Y q6 q7 P T y U t d;have am:decide (X0_ v best<0)=τ:=dt_ S;go_upto_region 1 with fail
    refine wp_region_quiet_grown k nr_ ?_
    repeat (first|go_big_quiet_step ((first|go_at_call 286;with_reducible exact(J.o _ _)|go_at_call 287;with_reducible exact(HM.o _ _)))|quiet_step ((first|go_at_call 286;with_reducible exact(J.o _ _)|go_at_call 287;with_reducible exact(HM.o _ _))))
    refine wpQuiet_nil ?_;intro _ x;obtain⟨⟨nq,osq⟩,f⟩:=x;subst f;have b:=Go.Lib.below_grow wc.heap.size wc (lr_ _) nq osq;have i:=h_<|K.o.next b;have m:=h_<|E.o.next b;have C:=h_<|Qb_ I.o b;clear f0 f1 f6 f7 f8 b K E I;generalize grow (wc.drewN nq) osq=B at *;obtain⟨_,⟨q6,q7,P,T,y⟩,U,d⟩:=Yk_ (show Blk B D.T 241 (hunC D.P.m D.A0 D.P.l0.length D.c0 D.A1 D.P.l1.length D.c1 D.A2 D.P.l2.length D.c2 D.A3 D.P.l3.length D.c3 D.P.width Ab nb cb o s Ah nh ch pops)from i.o.blk);have X:B.cell? ⟨gc,0,ν⟩=σ (I_ j_ o):=m.o.cell 0;have Y:B.cell? ⟨gc,1,ν⟩=σ (I_ j_ s):=m.o.cell 1;have t:=m.o.lt;have HK:=h_<|i.o.keep ⟨an,HV.o.next C.o⟩ o s;go_wp2
    go_region
    go_wp2;go_end0;obtain⟨rfl,rfl⟩:=V.o;exact⟨rfl,_,_,_,_,_,_,HK.o.next br.drew⟩
   have V:=h_<|z.o (by rw[Uz_ j,df_ S]);have HM:=h_ (λ(q:Nat) (l:Array Obj)=>Calls.grown_of (show Δ π 287 #[S_ a na ca,S_ Ab nb cb] (grow (wc.drewN q) l) (GrR (I_ j_ (X0_ v best)) (grow (wc.drewN q) l))from(ad.o _ (Qb_ I.o (Go.Lib.below_grow wc.heap.size wc (lr_ _) q l))).mono λ_ _ h=>⟨h.1,0,#[],by rw[<-h.2];exact(grow_empty _).symm⟩));clear j A z X Y q6 q7 P T y U t d;have am:decide (X0_ v best<0)=φ:=df_ S;go_upto_region 1 with fail
   refine wp_region_quiet_grown k nr_ ?_
   repeat (first|go_big_quiet_step ((first|go_at_call 286;with_reducible exact(J.o _ _)|go_at_call 287;with_reducible exact(HM.o _ _)))|quiet_step ((first|go_at_call 286;with_reducible exact(J.o _ _)|go_at_call 287;with_reducible exact(HM.o _ _))))
   refine wpQuiet_nil ?_;intro _ x;obtain⟨⟨nq,osq⟩,f⟩:=x;subst f;have b:=Go.Lib.below_grow wc.heap.size wc (lr_ _) nq osq;have i:=h_<|K.o.next b;have m:=h_<|E.o.next b;have C:=h_<|Qb_ I.o b;clear f0 f1 f6 f7 f8 b K E I;generalize grow (wc.drewN nq) osq=B at *;go_wp2;go_end0;obtain⟨rfl,rfl⟩:=V.o;exact⟨rfl,_,_,_,_,_,_,i.o⟩
  have V:=h_<|z.o<|vv_ j M;by_cases h1:o=co
  ·subst h1;have aB:(s==cs)=φ:=(by rw[bn_];exact λe=>M (by rw[e]));clear j A z X Y q6 q7 P T y U t d M;go_upto_region 1 with fail
   refine wp_region_quiet_grown k nr_ ?_
   repeat (first|go_big_quiet_step ((go_at_call 286;with_reducible exact(J.o _ _)))|quiet_step ((go_at_call 286;with_reducible exact(J.o _ _))))
   refine wpQuiet_nil ?_;intro _ x;obtain⟨⟨nq,osq⟩,f⟩:=x;subst f;have b:=Go.Lib.below_grow wc.heap.size wc (lr_ _) nq osq;have i:=h_<|K.o.next b;have m:=h_<|E.o.next b;have C:=h_<|Qb_ I.o b;clear f0 f1 f6 f7 f8 b K E I;generalize grow (wc.drewN nq) osq=B at *;go_wp2;go_end0;obtain⟨rfl,rfl⟩:=V.o;exact⟨rfl,_,_,_,_,_,_,i.o⟩
  have aB:(o==co)=φ:=(by rw[bn_];exact h1);clear j A z X Y q6 q7 P T y U t d M;go_upto_region 1 with fail
  refine wp_region_quiet_grown k nr_ ?_
  repeat (first|go_big_quiet_step ((go_at_call 286;with_reducible exact(J.o _ _)))|quiet_step ((go_at_call 286;with_reducible exact(J.o _ _))))
  refine wpQuiet_nil ?_;intro _ x;obtain⟨⟨nq,osq⟩,f⟩:=x;subst f;have b:=Go.Lib.below_grow wc.heap.size wc (lr_ _) nq osq;have i:=h_<|K.o.next b;have m:=h_<|E.o.next b;have C:=h_<|Qb_ I.o b;clear f0 f1 f6 f7 f8 b K E I;generalize grow (wc.drewN nq) osq=B at *;go_wp2;go_end0;obtain⟨rfl,rfl⟩:=V.o;exact⟨rfl,_,_,_,_,_,_,i.o⟩
open Go.RowKit Go.Sort
def HuA.pushed {D:Hu} {cost:Int × Int} {hl hl':List SSt}  {Ab Ah Ah':OA} {nh' ch':Nat} {w':Ω} (h:HuA D v cost hl a Ab i k Ah j u w) (d:w.grownBy w' (Ah.map (·.block))) (hp:HpM D.w0.heap.size Ah' nh' ch' hl' w'):
  Blk w' D.T 241 (D.cells Ab i k cost.1 cost.2 Ah j u a)/\HuA D v cost hl' a Ab i k Ah' nh' ch' (w'.setCell ⟨D.T,9,ν⟩ (S_ Ah' nh' ch')):=by
 obtain⟨ds,_,hm,_⟩:=h.heap;have best:∀g,Ah.map (·.block)=σ g->∃cs,Blk w g 185 cs:=λg e=>Qw_ hm e
 have c:Blk w' D.T 241 (D.cells Ab i k cost.1 cost.2 Ah j u a):=h.blk.grown d (λe=>by
  obtain⟨cs,b⟩:=best _ e.symm;exact Kj_ h.blk b dc_ rfl)
 have m1:Mine w' D.w0.heap.size 3 1 Ab i k (Qa_ v):=h.best.2.grown d (λg e=>.inr (λe2=>by
  obtain⟨cs,b⟩:=best _ e;obtain⟨f,b2⟩:=Qw_ h.best.2 e2;exact Kj_ b2 b dc_ rfl))
 exact⟨c,c.set_ 9 (S_ Ah' nh' ch'),⟨h.best.1,Qt_ m1 c dc_ _ _⟩,hp.set c dc_ dc_ _ _,h.bT,(XY_ h.old d (λg e=>(Mine.blk hm e).1)).setCell h.bT _⟩
def qK_ {P:Hn} {cost:Int × Int} {x:LI} {h:List SSt} {k:Nat} (hh:K5_ P.l3 (x++[(k:Int)])=φ\/(cost.1=0/\cost.2<P.bound (x++[(k:Int)]))):Jr_ P cost x h (k+1)=Jr_ P cost x h k:=by
 rw[VI_];unfold Jq_;dsimp only;rw[ip_ hh]
def UK_ {P:Hn} {cost:Int × Int} {x:LI} {h:List SSt} {k:Nat} (hh:¬(K5_ P.l3 (x++[(k:Int)])=φ\/(cost.1=0/\cost.2<P.bound (x++[(k:Int)])))):Jr_ P cost x h (k+1)=Wu_ (Jr_ P cost x h k) (x++[(k:Int)],P.bound (x++[(k:Int)])):=by
 rw[VI_];unfold Jq_;dsimp only;rw[in_ hh]
def kF_ (D:Hu) (hK:HuK D) (best:LI) (co cs:Int) (hl:List SSt) (pops:Int) (Ab:OA) (nb cb:Nat) (Ah:OA) (nh ch:Nat) (a:OA) (na ca:Nat) (v:LI) (s:Int) (w:Ω) (H:HuA D best (co,cs) hl pops Ab nb cb Ah nh ch w) (hx:HIn D.w0.heap.size w ((a,na,ca),(v,s))) (S:ValR D.P v) (ap:η v<D.P.l0.length) (bp:nh<=900000):
  Δ π 273 #[P_ (σ ⟨D.T,0,ν⟩),A_ #[S_ a na ca,I_ j_ s]] w (HuR D best (co,cs) (QbJ_ D.P (co,cs) v hl) pops):=by
 have ar:η v=na:=K2_ hx.2.rd;obtain⟨⟨dv,dc⟩,hd⟩:∃d,D.P.l0[η v]? =σ d:=⟨_,List.getElem?_eq_getElem ap⟩;rw[JZ_ hd];have bj:dv<=3:=hK.R.few _ (lm_ hd);have bn:1<=dv:=(hK.R.rule _ (lm_ hd)).1;obtain⟨q,rfl⟩:=eo_ (show 0<=dv from oo);dsimp only;rw[it_];have HD:=h_ hd;have h8:=hK.R.n0;have aG:=h_ (show na<D.P.l0.length from oo);have bk:na<=7:=oo;have HK:=h_ hK;have aL:=h_ S;have a6:=h_ ar;have T:=h_ (show Λ w (w.alloc (C_ #[S_ a na ca,I_ j_ s] 185))from Ql_ br);have O:=h_ (H.next T.o);have aJ:=h_ (Blk.new w 185 #[S_ a na ca,I_ j_ s]);have aK:=h_ (hx.2.next T.o);have i:=h_ (show ∀g,Ah.map (·.block)=σ g->g≠w.heap.size from λg e=>by
  obtain⟨ds,_,hm,_⟩:=H.heap;have:=(Mine.blk hm e).2;omega)
 have a8:=h_ H;obtain⟨b,off,am,hb,cx,cy⟩:=Xo_ (O.o.pc hK).r0 ap hd;rw[ar]at cx cy hd;have A:=O.o.blk;unfold Hu.cells at A;rw[am]at A;obtain⟨⟨q0,q1,q2,q3,q4,q5⟩,_,_,n⟩:=Yk_ A;obtain⟨N0,G⟩:=ex_ D.P.l0.length;have aP:=h_ am;have aS:(na:Int)<(N0:Int):=oo;rw[G]at q1;clear hx S ar hd hK H A ap am;go_in;go_wp2
 go_region
 have V:=h_ (λ(W:Ω) (Ah:OA) (nh ch:Nat) (l:List SSt) (h:HuA D best (co,cs) l pops Ab nb cb Ah nh ch W)=>(show Blk W D.T 241 (hunC D.P.m (σ ⟨b,off,ν⟩) N0 D.c0 D.A1 D.P.l1.length D.c1 D.A2 D.P.l2.length D.c2 D.A3 D.P.l3.length D.c3 D.P.width Ab nb cb co cs Ah nh ch pops)from by have:=h.blk;unfold Hu.cells at this;rw[aP.o,G]at this;exact this));have aI:=h_ (show ∀(c0 c1 c2 c3:Nat),pcCells D.P D.A0 D.A1 D.A2 D.A3 c0 c1 c2 c3=pcC D.P.m (σ ⟨b,off,ν⟩) N0 c0 D.A1 D.P.l1.length c1 D.A2 D.P.l2.length c2 D.A3 D.P.l3.length c3 from λc0 c1 c2 c3=>by unfold pcCells;rw[aP.o,G]);have aH:=h_ G;have aQ:D.T≠w.heap.size:=by have:=a8.o.blk.lt;omega
 clear q0 q1 q2 q3 q4 q5 n cx cy G hb aS;go_wp2;go_loopw [18] (λx wr=>∃(k:Nat) (Ah:OA) (nh' ch:Nat),k<=q/\x=I_ j_ k/\nh'<=nh+k/\Ψ (HuA D best (co,cs) (Jr_ D.P (co,cs) v hl k) pops Ab nb cb Ah nh' ch wr)/\Ψ (Blk wr w.heap.size 185 #[S_ a na ca,I_ j_ s])/\Ψ (Mine wr D.w0.heap.size 3 1 a na ca (Qa_ v))/\Ψ (∀g,Ah.map (·.block)=σ g->g≠w.heap.size)) (λx _=>q-(intOf x).toNat)
 ·exact⟨0,Ah,nh,ch,lz_ _,rfl,oo,h_ (O.o.next br.drew),h_ aJ.o.drew,h_ aK.o.drew,i⟩
 clear O aJ aK i T;obtain⟨k,Ah,nh',ch,bo,rfl,bl,HX,HS,HM,i⟩:=hrel;by_cases hk:k<q
 ·have x0:wr.cell? ⟨w.heap.size,0,ν⟩=σ (S_ a na ca):=HS.o.cell 0;have xl:=HS.o.lt;have a5:=h_ (aL.o.snoc HK.o.R (by rw[a6.o,aH.o];rw[aH.o]at aG;exact aG.o) HD.o (i:=k) (by rw[it_];exact hk));go_wp2_with fail;refine(QcE_ a na ca v wr HM.o.rd oo).mono ?_;rintro e w1 ⟨A3,c3,rfl,m3,b3⟩;have aE:=h_ m3;have aA:=h_ b3;have aO:=b3.size;clear m3 b3 x0 xl;go_upto_region 5 with(at_builtin;refine Uy_ (.tmp 23) (.tmp 25) aE aO rfl rfl er_ er_ oo ?_;intro A5 c5 w5 Z a2 aB)
  have ah:=h_<|aB.o _ aA.o;have Q:=h_<|HX.o.next ah.o;obtain⟨⟨q0,q1,q2,q3,q4,q5⟩,_,_,n⟩:=Yk_ (V.o _ _ _ _ _ Q.o);have L:=h_<|JK_ D.P D.A0 D.A1 D.A2 D.A3 D.c0 D.c1 D.c2 D.c3 A5 (na+1) c5 (v++[(k:Int)]) w5 (Q.o.pc HK.o) HK.o.R Z.o.rd a5.o;rw[aI.o]at L;obtain⟨bd,an⟩:=ex_ (D.P.bound (v++[(k:Int)]));rw[show YX_ D.P.l0 D.P.l1 D.P.l2 (v++[(k:Int)])=bd from an]at L;have K:=h_ an;clear an aB aA aE aO;go_wp2_with fail
  refine mb_ L.o ?_;intro w6 b6;have aM:=h_<|Qb_ ah.o b6;have R:=h_<|Q.o.next b6;have aa:=h_<|Z.o.next b6;clear q0 q1 q2 q3 q4 q5 n L Q Z ah a2 b6;obtain⟨⟨q0,q1,q2,q3,q4,q5⟩,_,_,n⟩:=Yk_ (V.o _ _ _ _ _ R.o);have M:=h_<|U6_ D.P D.A0 D.A1 D.A2 D.A3 D.c0 D.c1 D.c2 D.c3 A5 (na+1) c5 (v++[(k:Int)]) w6 (R.o.pc HK.o) HK.o.R.toPcOk aa.o.rd oo;rw[aI.o]at M;obtain⟨tv,aq⟩:=ex_ (K5_ D.P.l3 (v++[(k:Int)]));rw[aq]at M;have af:=h_ aq;clear aq;go_wp2_with fail
  refine mb_ M.o ?_;intro w7 b7;have aN:=h_<|Qb_ aM.o b7;have j:=h_<|R.o.next b7;have aF:=h_<|aa.o.next b7;clear q0 q1 q2 q3 q4 q5 n M R aa aM b7;obtain⟨⟨q0,q1,q2,q3,q4,q5⟩,⟨q6,q7,q8,q9,aT⟩,qf,n⟩:=Yk_ (V.o _ _ _ _ _ j.o);have B:=h_<|HS.o.next aN.o;have C:=h_<|HM.o.next aN.o;have bh:=HX.o.old.size;clear HX HS HM;have aC:=h_ (show D.w0.heap.size<=wr.heap.size from bh)
  cases tv with
  |false=>
   have ad:=h_<|qK_ (P:=D.P) (cost:=(co,cs)) (h:=hl)<|.inl af.o;go_wp2;go_roundw
   ·exact⟨k+1,Ah,nh',ch,oo,by go_num,oo,h_ (by rw[ad.o];exact j.o),B,C,i⟩
   exact ms_
  |true=>
   by_cases o:co=0
   ·by_cases ao:cs<bd
    ·have ad:=h_ (qK_ (P:=D.P) (cost:=(co,cs)) (h:=hl) (x:=v) (k:=k) (.inr ⟨o,by rw[K.o];exact ao⟩));have aR:(co==0)=τ:=(by rw[beq_iff_eq];exact o);clear o;go_wp2;go_roundw
     ·exact⟨k+1,Ah,nh',ch,oo,by go_num,oo,h_ (by rw[ad.o];exact j.o),B,C,i⟩
     exact ms_
    have c:=h_<|UK_ (P:=D.P) (cost:=(co,cs)) (h:=hl) (x:=v) (k:=k) (λe=>e.elim (λe=>by rw[af.o]at e;cases e) (λe=>ao (by rw[<-K.o];exact e.2)));rw[K.o]at c;have aR:(co==0)=τ:=(by rw[beq_iff_eq];exact o);have bm:decide (cs<bd)=φ:=df_ ao;clear o;obtain⟨ds,I,r⟩:=j.o.heap;rw[<-I]at c;have X:=h_ r.1;have ab:=h_ r;have Y:=h_ (show HIn D.w0.heap.size w7 ((A5,na+1,c5),(v++[(k:Int)],bd))from⟨by dsimp only;omega,aF.o.more aC.o⟩);have U:=h_ j.o.old.size;clear I r;go_wp2_with fail
    refine(GU_ D.w0.heap.size Ah nh' ch ds A5 (na+1) c5 (v++[(k:Int)]) bd w7 ab.o Y.o oo U.o).mono ?_;rintro e w8 h8;obtain⟨F,c8,rfl,y,f,z⟩:=h8;have a1:=h_ f;have a4:=h_ y;have a7:=h_ z;obtain⟨E,J⟩:=j.o.pushed f y;have B9:=h_ E;have ai:=h_ J;have m:∀g,Ah.map (·.block)=σ g->∃cs,Blk w7 g 185 cs:=λg e=>Qw_ X.o e
    have ae:=h_ (show Blk (w8.setCell ⟨D.T,9,ν⟩ (S_ (σ ⟨F,0,ν⟩) (nh'+1) c8)) w.heap.size 185 #[S_ a na ca,I_ j_ s]from(B.o.grown f (λe=>i.o _ e.symm rfl)).far (p:=⟨D.T,9,ν⟩) (Ne.symm aQ) _);have ag:=h_ (Qt_ (C.o.grown f (λg e=>.inr (λe2=>by
     obtain⟨be,b1⟩:=m _ e;obtain⟨bf,b2⟩:=Qw_ C.o e2;exact Kj_ b2 b1 dc_ rfl))) E dc_ 9 (S_ (σ ⟨F,0,ν⟩) (nh'+1) c8))
    have ac:Ψ (∀g,(σ (⟨F,0,ν⟩:Addr)).map (·.block)=σ g->g≠w.heap.size):=h_ (λg e=>by
     have e2:F=g:=(by injection e);rcases z with h|h
     ·exact e2 ▸ i.o _ h
     have:=B.o.lt;omega)
    have t9:w8.cell? ⟨D.T,9,ν⟩=σ (S_ Ah nh' ch):=E.cell 9;have tf:=E.frozen;have tl:=E.lt;clear f y z E J m q0 q1 q2 q3 q4 q5 q6 q7 q8 q9 aT qf n;go_wp2;go_roundw
    ·exact⟨k+1,σ ⟨F,0,ν⟩,nh'+1,c8,oo,by go_num,oo,h_ (by rw[c.o];exact ai.o),ae,ag,ac⟩
    exact ms_
   have c:=h_<|UK_ (P:=D.P) (cost:=(co,cs)) (h:=hl) (x:=v) (k:=k) (λe=>e.elim (λe=>by rw[af.o]at e;cases e) (λe=>o e.1));rw[K.o]at c;have aR:(co==0)=φ:=(by rw[bn_];exact o);obtain⟨ds,I,r⟩:=j.o.heap;rw[<-I]at c;have X:=h_ r.1;have ab:=h_ r;have Y:=h_ (show HIn D.w0.heap.size w7 ((A5,na+1,c5),(v++[(k:Int)],bd))from⟨by dsimp only;omega,aF.o.more aC.o⟩);have U:=h_ j.o.old.size;clear I r;go_wp2_with fail
   refine(GU_ D.w0.heap.size Ah nh' ch ds A5 (na+1) c5 (v++[(k:Int)]) bd w7 ab.o Y.o oo U.o).mono ?_;rintro e w8 h8;obtain⟨F,c8,rfl,y,f,z⟩:=h8;have a1:=h_ f;have a4:=h_ y;have a7:=h_ z;obtain⟨E,J⟩:=j.o.pushed f y;have B9:=h_ E;have ai:=h_ J;have m:∀g,Ah.map (·.block)=σ g->∃cs,Blk w7 g 185 cs:=λg e=>Qw_ X.o e
   have ae:=h_ (show Blk (w8.setCell ⟨D.T,9,ν⟩ (S_ (σ ⟨F,0,ν⟩) (nh'+1) c8)) w.heap.size 185 #[S_ a na ca,I_ j_ s]from(B.o.grown f (λe=>i.o _ e.symm rfl)).far (p:=⟨D.T,9,ν⟩) (Ne.symm aQ) _);have ag:=h_ (Qt_ (C.o.grown f (λg e=>.inr (λe2=>by
    obtain⟨be,b1⟩:=m _ e;obtain⟨bf,b2⟩:=Qw_ C.o e2;exact Kj_ b2 b1 dc_ rfl))) E dc_ 9 (S_ (σ ⟨F,0,ν⟩) (nh'+1) c8))
   have ac:Ψ (∀g,(σ (⟨F,0,ν⟩:Addr)).map (·.block)=σ g->g≠w.heap.size):=h_ (λg e=>by
    have e2:F=g:=(by injection e);rcases z with h|h
    ·exact e2 ▸ i.o _ h
    have:=B.o.lt;omega)
   have t9:w8.cell? ⟨D.T,9,ν⟩=σ (S_ Ah nh' ch):=E.cell 9;have tf:=E.frozen;have tl:=E.lt;clear f y z E J m q0 q1 q2 q3 q4 q5 q6 q7 q8 q9 aT qf n;go_wp2;go_roundw
   ·exact⟨k+1,σ ⟨F,0,ν⟩,nh'+1,c8,oo,by go_num,oo,h_ (by rw[c.o];exact ai.o),ae,ag,ac⟩
   exact ms_
 obtain rfl:q=k:=oo;go_wp2;go_end0;exact⟨rfl,_,_,_,_,_,_,HX.o⟩
open Go.RowKit Go.Sort
def HuA.popped {D:Hu} {cost:Int × Int} {hl:List SSt}  {Ah:OA}   (h:HuA D v cost hl a z i k Ah j u w) (p:Int):HuA D v cost hl p z i k Ah j u (w.setCell ⟨D.T,10,ν⟩ (I_ j_ p)):=
 ⟨h.blk.set_ 10 (I_ j_ p),⟨h.best.1,Qt_ h.best.2 h.blk dc_ _ _⟩,h.heap.set h.blk dc_ dc_ _ _,h.bT,h.old.setCell h.bT _⟩
def HuA.best1 {D:Hu} {best:LI} {cost:Int × Int} {hl:List SSt} {pops:Int} {Ab Ah:OA} {nb cb nh ch:Nat} {w:Ω} (h:HuA D best cost hl pops Ab nb cb Ah nh ch w) {a:OA} {na ca:Nat} {v:LI} (hv:na<=8/\Mine w D.w0.heap.size 3 1 a na ca (Qa_ v)):HuA D v cost hl pops a na ca Ah nh ch (w.setCell ⟨D.T,6,ν⟩ (S_ a na ca)):=
 ⟨h.blk.set_ 6 (S_ a na ca),⟨hv.1,Qt_ hv.2 h.blk dc_ _ _⟩,h.heap.set h.blk dc_ dc_ _ _,h.bT,h.old.setCell h.bT _⟩
def HuA.costs {D:Hu} {cost:Int × Int} {hl:List SSt}  {Ah:OA}   (h:HuA D v cost hl a z i k Ah j u w) (o s:Int):HuA D v (o,s) hl a z i k Ah j u ((w.setCell ⟨D.T,7,ν⟩ (I_ j_ o)).setCell ⟨D.T,8,ν⟩ (I_ j_ s)):=by
 have best:=h.blk.set_ 7<|I_ j_ o;exact⟨best.set_ 8 (I_ j_ s),⟨h.best.1,Qt_ (Qt_ h.best.2 h.blk dc_ _ _) best dc_ _ _⟩,(h.heap.set h.blk dc_ dc_ _ _).set best dc_ dc_ _ _,h.bT,(h.old.setCell h.bT _).setCell h.bT _⟩
def HuA.heap1 {D:Hu} {cost:Int × Int} {hl hl':List SSt}  {Ah Ah':OA} {nh' ch':Nat}  (h:HuA D v cost hl a z i k Ah j u w) (hp:HpM D.w0.heap.size Ah' nh' ch' hl' w):HuA D v cost hl' a z i k Ah' nh' ch' (w.setCell ⟨D.T,9,ν⟩ (S_ Ah' nh' ch')):=
 ⟨h.blk.set_ 9 (S_ Ah' nh' ch'),⟨h.best.1,Qt_ h.best.2 h.blk dc_ _ _⟩,hp.set h.blk dc_ dc_ _ _,h.bT,h.old.setCell h.bT _⟩
def Qfm_ (hB:i<=m.heap.size):HpM i (σ ⟨m.heap.size,0,ν⟩) 1 1 [([],0)] (m.alloc (C_ #[S_ ν 0 0,I_ j_ 0] 185)):=
 ⟨[((ν,0,0),([],0))],rfl,Mine.mk_own ⟨[],Blk.new _ _ _,rfl⟩ rfl hB (lr_ _) mx_,λd hd=>by
  obtain rfl:=ms1_.1 hd;exact⟨lz_ _,Mine.mk_nil _ _ _ _⟩⟩
def G4_ {P:Hn} {m:Nat} {best:LI} {cost:Int × Int} {h:List SSt} {x:SSt} (hx:h[0]? =σ x):KJ_ P (m+1) best cost h=if x.1.length=η P.l0 then (if Zd_ (P.cost x.1) x.1 cost best=τ then KJ_ P m x.1 (P.cost x.1) (Vr_ h)else KJ_ P m best cost (Vr_ h))else KJ_ P m best cost (QbJ_ P cost x.1 (Vr_ h)):=by
 cases h with
 |nil=>cases hx
 |cons y r=>obtain rfl:=oi_ hx;rfl
def RunR (D:Hu) (R:LI × Int) (e:Ending) (w':Ω):Prop:=e=R_ (I_ j_ R.2)/\∃cost hl pops,HuM D R.1 cost hl pops w'
def jn_ (D:Hu) (hK:HuK D) (N:Nat) (w:Ω) (H:HuA D [] (0,0) [] 0 ν 0 0 ν 0 0 w) (hN:N<=100000):
  Δ π 252 #[P_ (σ ⟨D.T,0,ν⟩),I_ j_ (N:Int)] w (RunR D (KU_ D.P (N:Int))):=by
 obtain⟨R,hR⟩:=ex_ (KU_ D.P (N:Int));have HR:=h_ (show KJ_ D.P N (Ui_ D.P.l0) (D.P.cost (Ui_ D.P.l0)) [([],0)]=R by rw[<-hR];unfold KU_;rw[it_]);rw[hR];have aU:=hK.R.n0;have J:=h_<|VC_ D.P.l0;have T:=h_<|Gg_ hK.R;have HK:=h_ hK;have S:=h_<|Uk_ D.P D.A0 D.A1 D.A2 D.A3 D.c0 D.c1 D.c2 D.c3 w (H.pc hK) hK.R.toPcOk;have HH:=h_ H;have F:=H.blk;have aR:=H.old.size;have a9:=H.bT;unfold Hu.cells at F;obtain⟨⟨q0,q1,q2,q3,q4,q5⟩,⟨q6,q7,M,O,j⟩,Q,f⟩:=Yk_ F;unfold pcCells at S;clear hR hK H F;go_in;go_wp2_with fail
 refine S.o.mono ?_;rintro e w1 ⟨a,ca,rfl,ak,ae⟩;rw[J.o]at ak |-
 have h1:=HH.o.next ae;obtain⟨⟨q0,q1,q2,q3,q4,q5⟩,⟨q6,q7,M,O,j⟩,Q,f⟩:=Yk_ (show Blk w1 D.T 241 (hunC D.P.m D.A0 D.P.l0.length D.c0 D.A1 D.P.l1.length D.c1 D.A2 D.P.l2.length D.c2 D.A3 D.P.l3.length D.c3 D.P.width ν 0 0 0 0 ν 0 0 0)from h1.blk);have HB:=h_<|h1.best1 (a:=a) (na:=D.P.l0.length) (ca:=ca) (v:=Ui_ D.P.l0) ⟨aU,ak.more aR⟩;have a4:=h_ ae;clear ae h1 ak S HH;go_upto_region 2 with fail
 clear q0 q1 q2 q3 q4 q5 q6 q7 M O j Q f;generalize w1.setCell ⟨D.T,6,ν⟩ (S_ a D.P.l0.length ca)=W2 at *;obtain⟨⟨q0,q1,q2,q3,q4,q5⟩,⟨q6,q7,M,O,j⟩,Q,f⟩:=Yk_ (show Blk W2 D.T 241 (hunC D.P.m D.A0 D.P.l0.length D.c0 D.A1 D.P.l1.length D.c1 D.A2 D.P.l2.length D.c2 D.A3 D.P.l3.length D.c3 D.P.width a D.P.l0.length ca 0 0 ν 0 0 0)from HB.o.blk);have K:=h_ (λW (h:Λ W2 W)=>GT_ D.P D.A0 D.A1 D.A2 D.A3 D.c0 D.c1 D.c2 D.c3 a D.P.l0.length ca (Ui_ D.P.l0) W ((HB.o.pc HK.o).next h) HK.o.R (HB.o.best.2.rd.next h) T.o J.o);obtain⟨⟨o,s⟩,aE⟩:=ex_ (D.P.cost (Ui_ D.P.l0));rw[aE]at K HR;unfold pcCells at K;clear aE
 go_region_held3 (λw'=>w'.cell? ⟨D.T,0,ν⟩=σ (I_ j_ D.P.m)/\w'.cell? ⟨D.T,1,ν⟩=σ (S_ D.A0 D.P.l0.length D.c0)/\w'.cell? ⟨D.T,2,ν⟩=σ (S_ D.A1 D.P.l1.length D.c1)/\w'.cell? ⟨D.T,3,ν⟩=σ (S_ D.A2 D.P.l2.length D.c2)/\w'.cell? ⟨D.T,4,ν⟩=σ (S_ D.A3 D.P.l3.length D.c3)/\w'.cell? ⟨D.T,5,ν⟩=σ (I_ j_ D.P.width)/\w'.cell? ⟨D.T,6,ν⟩=σ (S_ a D.P.l0.length ca))
  (first|exact⟨q0,q1,q2,q3,q4,q5,q6⟩|exact⟨p0,p1,p2,p3,p4,p5,p6⟩|(obtain⟨⟨r0,r1,r2,r3,r4,r5⟩,⟨r6,_⟩,_⟩:=Yk_ (show Blk _ D.T 241 (hunC D.P.m D.A0 D.P.l0.length D.c0 D.A1 D.P.l1.length D.c1 D.A2 D.P.l2.length D.c2 D.A3 D.P.l3.length D.c3 D.P.width a D.P.l0.length ca o s ν 0 0 0)from q.o.blk);exact⟨r0,r1,r2,r3,r4,r5,r6⟩))
  ((go_at_call 270;refine mb_ (K.o _ (by exact br.drew)) ?_;intro w8 h8;have U:=h_ (HB.o.next (br.drew.trans h8));have q:=h_ (U.o.costs o s);obtain⟨⟨p0,p1,p2,p3,p4,p5⟩,⟨p6,p7,p8,p9,aZ⟩,pf,a1⟩:=Yk_ (show Blk w8 D.T 241 (hunC D.P.m D.A0 D.P.l0.length D.c0 D.A1 D.P.l1.length D.c1 D.A2 D.P.l2.length D.c2 D.A3 D.P.l3.length D.c3 D.P.width a D.P.l0.length ca 0 0 ν 0 0 0)from U.o.blk)))
 clear q0 q1 q2 q3 q4 q5 q6 q7 M O j Q f p0 p1 p2 p3 p4 p5 p6 p7 p8 p9 aZ pf a1 K HB U h8;generalize (w8.setCell ⟨D.T,7,ν⟩ (I_ j_ o)).setCell ⟨D.T,8,ν⟩ (I_ j_ s)=W3 at *;have aY:D.w0.heap.size<=W3.heap.size:=q.o.old.size;have ar:=h_<|Qfm_ W3 aY;have ab:=h_<|(q.o.next bra).heap1 ar.o;rw[World.setCell_alloc_past _ _ _ _ (by have:=q.o.blk.lt;omega)]at ab;obtain⟨⟨q0,q1,q2,q3,q4,q5⟩,⟨q6,q7,M,O,j⟩,Q,f⟩:=Yk_ (show Blk W3 D.T 241 (hunC D.P.m D.A0 D.P.l0.length D.c0 D.A1 D.P.l1.length D.c1 D.A2 D.P.l2.length D.c2 D.A3 D.P.l3.length D.c3 D.P.width a D.P.l0.length ca o s ν 0 0 0)from q.o.blk);go_wp2;clear q0 q1 q2 q3 q4 q5 q6 q7 M O j Q f;have av:=h_ (show HeapR D.P [([],0)]from λx hx=>by obtain rfl:=ms1_.1 hx;exact⟨lz_ _,λy hy=>by cases hy⟩);have az:=h_ (show ValR D.P (Ui_ D.P.l0)/\(Ui_ D.P.l0).length=D.P.l0.length from⟨T.o,J.o⟩);go_loopg [4] N (λgh x wr=>x=I_ j_ 0/\∃(n p:Nat) (best:LI) (co cs:Int) (hl:List SSt) (Ab:OA) (nb cb:Nat) (Ah:OA) (nh ch:Nat),p+n=N/\n<=gh/\η hl<=1+3*p/\Ψ (KJ_ D.P n best (co,cs) hl=R)/\Ψ (HuA D best (co,cs) hl (p:Int) Ab nb cb Ah nh ch wr)/\Ψ (HeapR D.P hl)/\Ψ (ValR D.P best/\η best=D.P.l0.length))
 ·exact⟨rfl,N,0,Ui_ D.P.l0,o,s,[([],0)],a,D.P.l0.length,ca,σ ⟨W3.heap.size,0,ν⟩,1,1,oo,lr_ _,lr_ _,HR,ab,av,az⟩
 clear HR ab av az q ar T J;obtain⟨rfl,n,p,best,co,cs,hl,Ab,nb,cb,Ah,nh,ch,bf,bb,aV,HE,HX,ax,HV⟩:=hrel;have b:=HX.o.heap.len;rw[b]at aV;obtain⟨⟨q0,q1,q2,q3,q4,q5⟩,⟨q6,q7,M,O,j⟩,Q,f⟩:=Yk_ (show Blk wr D.T 241 (hunC D.P.m D.A0 D.P.l0.length D.c0 D.A1 D.P.l1.length D.c1 D.A2 D.P.l2.length D.c2 D.A3 D.P.l3.length D.c3 D.P.width Ab nb cb co cs Ah nh ch (p:Int))from HX.o.blk);by_cases h0:nh=0
 ·subst h0;obtain rfl:hl=[]:=ln_ b;have z:Ψ (R=(best,1)):=h_ (by rw[<-HE.o];cases n<;>rfl);clear b;go_wp2;go_ret;exact⟨Kx_ (by rw[z.o]),_,_,_,by rw[z.o];exact⟨_,_,_,_,_,_,HX.o⟩⟩
 by_cases aD:n=0
 ·subst aD;have z:Ψ (R=(best,2)):=h_ (by rw[<-HE.o];unfold KJ_;rw[in_ (λe=>by rw[e]at b;exact h0 b.symm)]);clear b;have bc:0<nh:=oo;obtain rfl:p=N:=oo;go_wp2;go_ret;exact⟨Kx_ (by rw[z.o]),_,_,_,by rw[z.o];exact⟨_,_,_,_,_,_,HX.o⟩⟩
 obtain⟨m,rfl⟩:∃m,n=m+1:=⟨n-1,oo⟩;obtain⟨k,rfl⟩:∃k,nh=k+1:=⟨nh-1,oo⟩;obtain⟨ds,ah,L⟩:=HX.o.heap;obtain⟨g,rfl,a8,_,_,aC,a7,aS⟩:=L.blk oo;obtain⟨⟨⟨C,n0,k0⟩,l,G⟩,af⟩:∃d,ds[0]? =σ d:=⟨_,gE (by have:=L.len;omega)⟩;have ai:hl[0]? =σ (l,G):=(by rw[<-ah,List.getElem?_map,af];rfl);have A:=h_<|(G4_ (P:=D.P) (m:=m) (best:=best) (cost:=(co,cs)) ai).symm.trans HE.o;have B:=h_<|ax.o _<|lm_ ai;have Y:=h_ (show HeapR D.P (Vr_ hl)from ax.o.pop);have X:=h_<|jm_ D.w0.heap.size g k ch ds C n0 k0 l G wr L af oo;rw[ah]at X;have be:(p:Int)<(N:Int):=oo;have bd:(p:Int)<=100000:=oo;clear ah L af ai aS b h0 aD;go_wp2_with fail
 refine mb_ X.o ?_;rintro I ⟨aF,ag,aB⟩;obtain⟨b5,aG⟩:=HX.o.pushed aB aF;have aA:=h_ (aG.popped ((p:Int)+1));have r:=h_ (aA.o.next (br.alloc (lr_ _) (C_ #[S_ C n0 k0,I_ j_ G] 185)));have Z:=h_ (show Blk (((I.setCell ⟨D.T,9,ν⟩ (S_ (σ ⟨g,0,ν⟩) k ch)).setCell ⟨D.T,10,ν⟩ (I_ j_ ((p:Int)+1))).alloc (C_ #[S_ C n0 k0,I_ j_ G] 185)) I.heap.size 185 #[S_ C n0 k0,I_ j_ G]from by
  have h:=Blk.new ((I.setCell ⟨D.T,9,ν⟩ (S_ (σ ⟨g,0,ν⟩) k ch)).setCell ⟨D.T,10,ν⟩ (I_ j_ ((p:Int)+1))) 185 #[S_ C n0 k0,I_ j_ G];have e:((I.setCell ⟨D.T,9,ν⟩ (S_ (σ ⟨g,0,ν⟩) k ch)).setCell ⟨D.T,10,ν⟩ (I_ j_ ((p:Int)+1))).heap.size=I.heap.size:=(by simp[World.setCell]);rw[e]at h;exact h)
 have V:=h_ (show HIn D.w0.heap.size (((I.setCell ⟨D.T,9,ν⟩ (S_ (σ ⟨g,0,ν⟩) k ch)).setCell ⟨D.T,10,ν⟩ (I_ j_ ((p:Int)+1))).alloc (C_ #[S_ C n0 k0,I_ j_ G] 185)) ((C,n0,k0),(l,G))from⟨ag.1,(Qt_ (Qt_ ag.2 b5 dc_ _ _) (b5.set_ 9 (S_ (σ ⟨g,0,ν⟩) k ch)) dc_ _ _).alloc _⟩);have t9:I.cell? ⟨D.T,9,ν⟩=σ (S_ (σ ⟨g,0,ν⟩) (k+1) ch):=b5.cell 9;have a2:I.cell? ⟨D.T,10,ν⟩=σ (I_ j_ (p:Int)):=b5.cell 10;have tf:=b5.frozen;have tl:=b5.lt;clear q0 q1 q2 q3 q4 q5 q6 q7 M O j Q f X HX aF ag aB aG aA b5 aC;go_upto_region 10 with fail
 clear t9 a2 tf tl;generalize ((I.setCell ⟨D.T,9,ν⟩ (S_ (σ ⟨g,0,ν⟩) k ch)).setCell ⟨D.T,10,ν⟩ (I_ j_ ((p:Int)+1))).alloc (C_ #[S_ C n0 k0,I_ j_ G] 185)=W7 at *;generalize I.heap.size=gx at *;obtain⟨⟨q0,q1,q2,q3,q4,q5⟩,_,_,f⟩:=Yk_ (show Blk W7 D.T 241 (hunC D.P.m D.A0 D.P.l0.length D.c0 D.A1 D.P.l1.length D.c1 D.A2 D.P.l2.length D.c2 D.A3 D.P.l3.length D.c3 D.P.width Ab nb cb co cs (σ ⟨g,0,ν⟩) k ch ((p:Int)+1))from r.o.blk);have x0:W7.cell? ⟨gx,0,ν⟩=σ (S_ C n0 k0):=Z.o.cell 0;have x1:W7.cell? ⟨gx,1,ν⟩=σ (I_ j_ G):=Z.o.cell 1;have xl:=Z.o.lt;have al:η l=n0:=K2_ V.o.2.rd;have a6:=h_ al;obtain⟨NL,E⟩:=ex_ D.P.l0.length;have a5:=h_ E;by_cases hf:n0=NL
 ·have i:η l=D.P.l0.length:=oo;have ay:=h_ (λW (h:Λ W7 W)=>jo_ D HK.o best (co,cs) (Vr_ hl) ((p:Int)+1) Ab nb cb (σ ⟨g,0,ν⟩) k ch C n0 k0 l W (r.o.next h) (V.o.2.next h) B.o i);have aL:=h_ i;rw[ip_ i]at A;rw[E]at q1;subst hf;clear i al E
  go_region
  go_wp2_with fail;refine mb_ (ay.o _ (by first|exact br.drew|exact br)) ?_;intro w9 t;clear ay q0 q1 q2 q3 q4 q5 f x0 x1 xl;go_wp2;go_roundg m
  case measure=>omega
  have aX:=r.o.heap.len
  cases hb:Zd_ (D.P.cost l) l (co,cs) best with
  |true=>
   rw[hb,ip_ rfl,ip_ rfl]at t;have hs:=A.o;rw[hb,ip_ rfl]at hs;obtain⟨Ab,nb,cb,Ah,nh,ch,hx⟩:=t;exact⟨rfl,m,p+1,l,(D.P.cost l).1,(D.P.cost l).2,Vr_ hl,Ab,nb,cb,Ah,nh,ch,oo,lr_ _,oo,h_ hs,h_ (by rw[show((p+1:Nat):Int)=(p:Int)+1 from oo];exact hx),Y,h_ ⟨B.o,aL.o⟩⟩
  |false=>
   rw[hb,in_ sm_,in_ sm_]at t;have hs:=A.o;rw[hb,in_ sm_]at hs;obtain⟨Ab,nb,cb,Ah,nh,ch,hx⟩:=t;exact⟨rfl,m,p+1,best,co,cs,Vr_ hl,Ab,nb,cb,Ah,nh,ch,oo,lr_ _,oo,h_ hs,h_ (by rw[show((p+1:Nat):Int)=(p:Int)+1 from oo];exact hx),Y,HV⟩
 have aj:η l<D.P.l0.length:=(by have:=B.o.1;omega);have aT:=r.o.heap.len;have aq:=h_ (λW (h:Λ W7 W)=>kF_ D HK.o best co cs (Vr_ hl) ((p:Int)+1) Ab nb cb (σ ⟨g,0,ν⟩) k ch C n0 k0 l G W (r.o.next h) (V.o.next h) B.o aj oo);rw[in_ oo]at A;have aM:=h_ aj;rw[E]at q1;have ba:((n0:Int)==(NL:Int))=φ:=(by rw[bn_];omega);clear al E aj aT
 go_region
 go_wp2_with fail;refine mb_ (aq.o _ (by first|exact br.drew|exact br)) ?_;intro w9 t;clear aq q0 q1 q2 q3 q4 q5 f x0 x1 xl;go_wp2;go_roundg m
 case measure=>omega
 have aX:=r.o.heap.len;obtain⟨Ab,nb,cb,Ah,nh,ch,hx⟩:=t;obtain⟨dd,hd⟩:∃d,D.P.l0[η l]? =σ d:=⟨_,List.getElem?_eq_getElem aM.o⟩;have a3:=HK.o.R.few _<|lm_ hd;have ho:=xl_ (P:=D.P) (cost:=(co,cs)) (x:=l) (h:=Vr_ hl) dd.1.toNat;rw[<-JZ_ hd (co,cs) (Vr_ hl)]at ho;exact⟨rfl,m,p+1,best,co,cs,QbJ_ D.P (co,cs) l (Vr_ hl),Ab,nb,cb,Ah,nh,ch,oo,lr_ _,oo,A,h_ (by rw[show((p+1:Nat):Int)=(p:Int)+1 from oo];exact hx),h_ (by rw[JZ_ hd];exact Y.o.open_ HK.o.R B.o hd (lr_ _)),HV⟩
open Go.RowKit Go.Sort
def okP (P:Hn):Bool:=Kf_ P.m P.l0 P.l1 P.l2 P.l3
def PcR.small {P:Hn} (a:PcR P):(η P.l0<=1048576/\η P.l1<=1048576/\η P.l2<=1048576/\η P.l3<=1048576)/\∀d∈P.l1,d.1.size<=maxLen:=by
 have h0:=a.n0;have h1:=a.n1;have h2:=a.n2;have h3:=a.n3;refine⟨oo,λd hd=>lt_ (a.text d hd) (by unfold Xj_ maxLen;omega)⟩
def JM_ (P:Hn) (A0 A1 A2 A3:OA) (c0 c1 c2 c3:Nat) (w:Ω) (a:PcM P A0 A1 A2 A3 w) (hR:PcR P) (b:okP P=τ):
  Δ π 247 #[A_ (pcCells P A0 A1 A2 A3 c0 c1 c2 c3)] w (RB_ (B_ τ) w):=by
 have h:=U3_ P.m A0 (η P.l0) c0 P.l0 A1 (η P.l1) c1 P.l1 A2 (η P.l2) c2 P.l2 A3 (η P.l3) c3 P.l3 w (h_ ⟨rfl,rfl,rfl,rfl⟩) ⟨a.r0,a.r1,a.r2,a.r3⟩ hR.small.1<|h_ hR.small.2;rw[show Kf_ P.m P.l0 P.l1 P.l2 P.l3=τ from b]at h;exact h
def SeaR (R:LI × Int) (w:Ω) (e:Ending) (w':Ω):Prop:=∃A n c,e=R_ (U_ #[S_ A n c,I_ j_ R.2])/\n<=8/\Mine w' w.heap.size 3 1 A n c (Qa_ R.1)/\Λ w w'
def W8_ (P:Hn) (A0 A1 A2 A3:OA) (c0 c1 c2 c3:Nat) (N:Nat) (w:Ω) (n:PcM P A0 A1 A2 A3 w) (o:PcR P) (k:okP P=τ) (hN:N<=100000):
  Δ π 225 #[A_ (pcCells P A0 A1 A2 A3 c0 c1 c2 c3),I_ j_ P.width,I_ j_ (N:Int)] w (SeaR (KU_ P (N:Int)) w):=by
 have HO:=h_ (λW h=>JM_ P A0 A1 A2 A3 c0 c1 c2 c3 W (n.next h) o k);have b:=h_ (λ(T:Nat) W (H:HuA ⟨P,A0,c0,A1,c1,A2,c2,A3,c3,w,T⟩ [] (0,0) [] 0 ν 0 0 ν 0 0 W)=>show Δ π 252 #[P_ (σ ⟨T,0,ν⟩),I_ j_ (N:Int)] W (RunR ⟨P,A0,c0,A1,c1,A2,c2,A3,c3,w,T⟩ (KU_ P (N:Int)))from jn_ ⟨P,A0,c0,A1,c1,A2,c2,A3,c3,w,T⟩ ⟨n,o⟩ N W H hN);obtain⟨R,i⟩:=ex_ (KU_ P (N:Int));rw[i]at b |-
 clear n o k i;unfold pcCells at HO |-
 have a:=h_ (show Λ w (w.alloc (C_ (pcC P.m A0 (η P.l0) c0 A1 (η P.l1) c1 A2 (η P.l2) c2 A3 (η P.l3) c3) 149))from Ql_ br);have f:=h_<|Blk.new w 149<|pcC P.m A0 (η P.l0) c0 A1 (η P.l1) c1 A2 (η P.l2) c2 A3 (η P.l3) c3;go_in;go_wp2_with fail
 refine mb_ (HO.o _ a.o) ?_;intro w1 h1;have c:=h_ (Qb_ a.o h1);obtain⟨q0,q1,q2,q3,q4,p⟩:=Vp_ (f.o.next h1);have j:=c.o.size;have HX:=h_ (show HuA ⟨P,A0,c0,A1,c1,A2,c2,A3,c3,w,w1.heap.size⟩ [] (0,0) [] 0 ν 0 0 ν 0 0 (w1.alloc (C_ (hunC P.m A0 (η P.l0) c0 A1 (η P.l1) c1 A2 (η P.l2) c2 A3 (η P.l3) c3 P.width ν 0 0 0 0 ν 0 0 0) 241))from
  ⟨Blk.new _ _ _,⟨lz_ _,Mine.mk_nil _ _ _ _⟩,⟨[],rfl,Mine.mk_nil _ _ _ _,λd hd=>by cases hd⟩,j,c.o.alloc j _⟩)
 have g:=h_<|b.o _ _ HX.o;clear HO a f h1 b;go_wp2_with fail
 refine mb_ g.o ?_;rintro w2 ⟨cost,hl,pops,Ab,nb,cb,Ah,nh,ch,l⟩;have m:=h_ l;have t6:w2.cell? ⟨w1.heap.size,6,ν⟩=σ (S_ Ab nb cb):=l.blk.cell 6;have tl:w1.heap.size<w2.heap.size:=l.blk.lt;clear l HX g q0 q1 q2 q3 q4 p;go_wp2;go_ret2;exact⟨Ab,nb,cb,rfl,m.o.best.1,m.o.best.2,m.o.old⟩
open Go.RowKit Go.Sort
def J7_ (P:Hn) (A0 A1 A2 A3:OA) (c0 c1 c2 c3:Nat) (w:Ω) (a:PcM P A0 A1 A2 A3 w) (hR:PcR P) (b:okP P=τ):
  Δ π 139 #[A_ (pcCells P A0 A1 A2 A3 c0 c1 c2 c3)] w (RB_ (B_ τ) w):=by
 have h:=WL_ P.m A0 (η P.l0) c0 P.l0 A1 (η P.l1) c1 P.l1 A2 (η P.l2) c2 P.l2 A3 (η P.l3) c3 P.l3 w (h_ ⟨rfl,rfl,rfl,rfl⟩) ⟨a.r0,a.r1,a.r2,a.r3⟩ hR.small.1<|h_ hR.small.2;rw[show Kf_ P.m P.l0 P.l1 P.l2 P.l3=τ from b]at h;exact h
structure SpA (w0:Ω) (gC H:Nat) (pc:Array Υ) (best:LI) (co cs:Int) (hl:List SSt) (Ab:OA) (nb cb:Nat) (Ah:OA) (nh ch:Nat) (w:Ω):Prop where
 best:nb<=8/\Mine w w0.heap.size 3 1 Ab nb cb (Qa_ best)
 heap:HpM w0.heap.size Ah nh ch hl w
 cost:Blk w gC 182 #[I_ j_ co,I_ j_ cs]
 pc:Blk w H 149 pc
 old:Λ w0 w
 gw:w0.heap.size<=gC
section
variable {w0:Ω} {gC H:Nat} {pc:Array Υ} {best:LI} {co cs:Int} {hl hl':List SSt} {Ab Ah Ah':OA} {nb cb nh ch nh' ch':Nat} {w w':Ω}
def SpA.next (h:SpA w0 gC H pc best co cs hl Ab nb cb Ah nh ch w) (k:Λ w w'):SpA w0 gC H pc best co cs hl Ab nb cb Ah nh ch w':=⟨⟨h.best.1,h.best.2.next k⟩,h.heap.next k,h.cost.next k,h.pc.next k,Qb_ h.old k,h.gw⟩
def SpA.pushed (h:SpA w0 gC H pc best co cs hl Ab nb cb Ah nh ch w) (f:w.grownBy w' (Ah.map (·.block))) (hp:HpM w0.heap.size Ah' nh' ch' hl' w'):SpA w0 gC H pc best co cs hl' Ab nb cb Ah' nh' ch' w':=by
 obtain⟨ds,_,hm,_⟩:=h.heap;have a:∀g,Ah.map (·.block)=σ g->∃cs,Blk w g 185 cs:=λg e=>Qw_ hm e
 have c:∀{q:Nat} {t:TypeId} {cs:Array Υ},Blk w q t cs->t≠185->Blk w' q t cs:=λhb ht=>hb.grown f (λe=>by
  obtain⟨d,b⟩:=a _ e.symm;exact Kj_ hb b ht rfl)
 exact⟨⟨h.best.1,h.best.2.grown f (λg e=>.inr (λe2=>by
  obtain⟨cs,b⟩:=a _ e;obtain⟨d,b2⟩:=Qw_ h.best.2 e2;exact Kj_ b2 b dc_ rfl))⟩,hp,c h.cost dc_,c h.pc dc_,XY_ h.old f (λg e=>(Mine.blk hm e).1),h.gw⟩
def SpA.keep (h:SpA w0 gC H pc best co cs hl Ab nb cb Ah nh ch w) (hv:i<=8/\Mine w w0.heap.size 3 1 z i k (Qa_ v)) (o s:Int):
  SpA w0 gC H pc v o s hl z i k Ah nh ch ((w.setCell ⟨gC,0,ν⟩ (I_ j_ o)).setCell ⟨gC,1,ν⟩ (I_ j_ s)):=by
 have b:=h.cost.set_ 0<|I_ j_ o;exact⟨⟨hv.1,Qt_ (Qt_ hv.2 h.cost dc_ _ _) b dc_ _ _⟩,(h.heap.set h.cost dc_ dc_ _ _).set b dc_ dc_ _ _,b.set_ 1 (I_ j_ s),(h.pc.far (Kj_ h.pc h.cost dc_) _).far (Kj_ h.pc h.cost dc_) _,(h.old.setCell h.gw _).setCell h.gw _,h.gw⟩
end
def kq_ {f:Array Oper} {rest:List Oper} {o:Oper} {a:Act} {Q:Exit->Act->Ω->Prop} (s x:Operand) 
  (HM:Ψ (Mine w i 3 1 z k j (Qa_ v))) (B:o.guard=ν) (ho:o.op=.call { callee:=.builtin .append,args:=#[s,x],argTypes:=#[83,83] }) (hs:a.eval s=S_ (σ ⟨w.heap.size,0,ν⟩) 0 0) (hx:a.eval x=S_ z k j) (hn:k<=100000)
  (h:∀A' c' w',Ψ (Mine w' w.heap.size 3 1 A' k c' (Qa_ v))->Ψ (Λ w w')->wpList π f Q rest (a.put o.dst (S_ A' k c')) w'):wpList π f Q (o::rest) a (w.alloc (C_ #[] 3)):=by
 obtain⟨i0,hi,A,W,m⟩:=info_parts QY_;refine Uw_ B s x _ ho w.heap.size 3 i0 (I_ j_ 0) 1 8 underlying83 hi A W m rfl dc_ (S_ (σ ⟨w.heap.size,0,ν⟩) 0 0) 0 [] hs (ZA_ w 3 1) z k j (Qa_ v) hx (HM.o.rd.alloc _) (λe=>?_) (λu hu=>?_) mx_ oo sm_ ?_
 ·rcases HM.o.own with⟨_,h1,h2⟩|⟨g,d,_⟩
  ·exact⟨h1,h2⟩
  rw[e]at d;cases d
 ·unfold Qa_ at hu;obtain⟨y,_,rfl⟩:=List.mem_map.1 hu
  rfl
 intro v' w5 b hg;rw[Nat.zero_add,List.nil_append]at b;obtain⟨A5,c5,rfl,m5⟩:=Mine.of b;exact h A5 c5 w5 m5 (bra.grown hg sm_ (λg e=>by
  have d:σ w.heap.size=σ g:=e;injection d with d;omega))
end Go.Proofs.YtbiijipkgfpgoaaGreatDoor

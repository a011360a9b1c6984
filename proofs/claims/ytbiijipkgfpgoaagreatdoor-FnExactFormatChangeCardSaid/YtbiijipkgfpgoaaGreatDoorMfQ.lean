/-
  Put together by program.
-/
import Derived.Test.YtbiijipkgfpgoaaGreatDoorMfN
set_option maxRecDepth 100000
set_option linter.all false
set_option maxHeartbeats 25600000
open Go.Proofs.Tryz
open Go.Value renaming int→I_,slice→S_,bool→B_,agg→A_
open Go.IntKind renaming i64→j_
open Go.Obj renaming cells→C_
open Go.Ending renaming returned→R_
namespace Go.Proofs.YtbiijipkgfpgoaaGreatDoor
open Go.RowKit
/-! ### Values, splits, lines -/
def QeK_ (v:LI) (r:Int):Int:=v.getD r.toNat 0
def ZE_ (v:LI) (c:ChunkD):Bool:=decide (c.2.2.1<=QeK_ v c.2.1)
def QK_ (n:Int):BA:=⟨(List.replicate n.toNat 32).toArray⟩
theorem Kc_ (n:Int):(QK_ n).size=n.toNat:=by show(List.replicate n.toNat (32:UInt8)).toArray.size=_;simp
def Y6_ (m:Int) (v:LI):List ChunkD->BA->List BA
 |[],s=>[s]
 |c::r,s=>if r=[]then [s++c.1]else if ZE_ v c=true then (s++c.1)::Y6_ m v r (QK_ (m+c.2.2.2.2))else Y6_ m v r (s++c.1++(if c.2.2.2.1=true then ⟨#[32]⟩else ⟨#[]⟩))
def YI_ (m:Int) (l1:List ChunkD) (v:LI):List BA:=Y6_ m v l1 (QK_ m)
def Uq_ (width:Int) (l:List BA):Int:=(l.map (fun s=>max ((s.size:Int) - width) 0)).sum
def Wr_ (m:Int) (v:LI) (width:Int):List ChunkD->Int->Int->Int
 |[],n,o=>o
 |c::r,n,o=>
  let n1:=n+c.1.size
  if r=[]\/ZE_ v c=true then Wr_ m v width r (m+c.2.2.2.2) (if width < n1 then o+n1 - width else o)
  else Wr_ m v width r (if c.2.2.2.1=true then n1+1 else n1) o
theorem QfL_ {m:Int} {v:LI} {width:Int}:∀(l:List ChunkD) (s:BA) (o:Int),l≠[]->(∀c∈l,0<=m+c.2.2.2.2)->Wr_ m v width l (s.size:Int) o=o+Uq_ width (Y6_ m v l s):=by
 intro l
 induction l with
 |nil=>intro s o h;exact absurd rfl h
 |cons c r ih=>
  intro s o _ e;have b:((s++c.1).size:Int)=(s.size:Int)+c.1.size:=by rw[bs_];omega
  unfold Wr_ Y6_;dsimp only;by_cases a:r=[]
  ·subst a;rw[ip_ (.inl rfl),ip_ rfl];show(if width < (s.size:Int)+c.1.size then o+((s.size:Int)+c.1.size) - width else o)=o+(max (((s++c.1).size:Int) - width) 0+0);rw[b];split<;>omega
  ·rw[in_ a];by_cases hs:ZE_ v c=true
   ·rw[ip_ (.inr hs),ip_ hs];have h1:=ih (QK_ (m+c.2.2.2.2)) (if width < (s.size:Int)+c.1.size then o+((s.size:Int)+c.1.size) - width else o) a (fun d hd=>e d (by simp[hd]));rw[Kc_]at h1;have h2:(((m+c.2.2.2.2).toNat:Nat):Int)=m+c.2.2.2.2:=(by have:=e c sm_;omega);rw[h2]at h1;rw[h1];show _=o+(max (((s++c.1).size:Int) - width) 0+Uq_ width _);rw[b];split<;>omega
   ·rw[in_ (fun h=>h.elim a hs),in_ hs];have h1:=ih (s++c.1++(if c.2.2.2.1=true then ⟨#[32]⟩else ⟨#[]⟩)) o a (fun d hd=>e d (by simp[hd]));rw[<-h1];congr 1;split
    ·rw[bs_,bs_];show _=((s.size+c.1.size+1:Nat):Int);omega
    ·rw[bs_,bs_];show _=((s.size+c.1.size+0:Nat):Int);omega
/-! ### Costs -/
def Vs_:List RuleD->LI->Int
 |(_,c)::r,x::v=>x * c+Vs_ r v
 |_,_=>0
def kB_ (l1:List ChunkD) (v:LI) (i:Nat):Bool:=match l1[i]? with|some c=>decide (c.2.1 < (v.length:Int))&&ZE_ v c|none=>false
def hitS (l1:List ChunkD) (v:LI) (d:SpanD):Bool:=(List.range' d.1.toNat (d.2.1+1 - d.1).toNat).any (kB_ l1 v)
def Zu_ (l1:List ChunkD) (v:LI) (l2:List SpanD):Int:=(l2.map (fun d=>if hitS l1 v d=true then d.2.2 else 0)).sum
def YX_ (l0:List RuleD) (l1:List ChunkD) (l2:List SpanD) (v:LI):Int:=Vs_ l0 v+Zu_ l1 v l2
def Zj_ (w:Int):Int:=max 0 (min w 100000)
def QgP_ (m:Int) (l0:List RuleD) (l1:List ChunkD) (l2:List SpanD) (width:Int) (v:LI):Int × Int:=(Uq_ (Zj_ width) (YI_ m l1 v),YX_ l0 l1 l2 v)
def KQ_ (a b:Int × Int):Bool:=decide (a.1 < b.1)||(decide (a.1=b.1)&&decide (a.2 < b.2))
def X0_:LI->LI->Int
 |[],[]=>0
 |[],_::_=> -1
 |_::_,[]=>1
 |a::l,b::r=>if a < b then -1 else if b < a then 1 else X0_ l r
def Ui_ (l0:List RuleD):LI:=l0.map (fun d=>d.1 - 1)
def Uv_ (v:LI) (d:TieD):Bool:=!(decide ((0<=d.1/\d.1 < (v.length:Int))/\(0<=d.2/\d.2 < (v.length:Int)))&&(decide (0 < QeK_ v d.1)&&decide (QeK_ v d.2=0)))
def K5_ (l3:List TieD) (v:LI):Bool:=l3.all (Uv_ v)
/-! ### Heaps -/
abbrev SSt:=LI × Int
def Xt_ (a b:SSt):Bool:=decide (a.2 < b.2)||(decide (a.2=b.2)&&decide (X0_ a.1 b.1 < 0))
def k8_ (l:List SSt) (i j:Nat):Bool:=match l[i]?,l[j]? with|some x,some y=>Xt_ x y|_,_=>false
def xM_ (l:List SSt) (i j:Nat):List SSt:=match l[i]?,l[j]? with|some x,some y=>(l.set i y).set j x|_,_=>l
def upN (i:Nat):Nat:=(i+1) / 2 - 1
def YN_:Nat->List SSt->Nat->List SSt
 |0,l,_=>l
 |f+1,l,i=>if 0 < i/\k8_ l i (upN i)=true then YN_ f (xM_ l i (upN i)) (upN i)else l
def Wu_ (l:List SSt) (x:SSt):List SSt:=YN_ (l.length+1) (l++[x]) l.length
def kR_ (l:List SSt) (i:Nat):Nat:=if 2 * i+2 < l.length/\k8_ l (2 * i+2) (2 * i+1)=true then 2 * i+2 else 2 * i+1
def Y7_:Nat->List SSt->Nat->List SSt
 |0,l,_=>l
 |f+1,l,i=>if 2 * i+1 < l.length/\k8_ l (kR_ l i) i=true then Y7_ f (xM_ l i (kR_ l i)) (kR_ l i)else l
def Vr_ (l:List SSt):List SSt:=Y7_ l.length ((l.set 0 (l.getD (l.length - 1) ([],0))).take (l.length - 1)) 0
theorem Qey_ (l:List SSt) (i j:Nat):(xM_ l i j).length=l.length:=by unfold xM_;split<;>simp
theorem Qed_:∀(f:Nat) (l:List SSt) (i:Nat),(YN_ f l i).length=l.length:=by
 intro f
 induction f with
 |zero=>intro l i;rfl
 |succ f ih=>intro l i;unfold YN_;split;rw[ih,Qey_];rfl
theorem QdX_ (l:List SSt) (x:SSt):(Wu_ l x).length=l.length+1:=by unfold Wu_;rw[Qed_];simp
/-! ### The search -/
structure Hn where
 m:Int
 l0:List RuleD
 l1:List ChunkD
 l2:List SpanD
 l3:List TieD
 width:Int
def Hn.cost (P:Hn) (v:LI):Int × Int:=QgP_ P.m P.l0 P.l1 P.l2 P.width v
def Hn.bound (P:Hn) (v:LI):Int:=YX_ P.l0 P.l1 P.l2 v
def Jq_ (P:Hn) (cost:Int × Int) (x:LI) (h:List SSt) (k:Nat):List SSt:=
 let v:=x++[(k:Int)]
 if K5_ P.l3 v=false\/(cost.1=0/\cost.2 < P.bound v)then h else Wu_ h (v,P.bound v)
def QbJ_ (P:Hn) (cost:Int × Int) (x:LI) (h:List SSt):List SSt:=(List.range ((P.l0[x.length]?.map (fun d:RuleD=>d.1)).getD 0).toNat).foldl (Jq_ P cost x) h
def Zd_ (a:Int × Int) (v:LI) (b:Int × Int) (u:LI):Bool:=KQ_ a b||(decide (a=b)&&decide (X0_ v u < 0))
def KJ_ (P:Hn):Nat->LI->Int × Int->List SSt->LI × Int
 |0,best,_,h=>if h=[]then (best,1)else (best,2)
 |n+1,best,cost,h=>
  match h with
  |[]=>(best,1)
  |x::_=>
   if x.1.length=P.l0.length then
    if Zd_ (P.cost x.1) x.1 cost best=true then KJ_ P n x.1 (P.cost x.1) (Vr_ h)else KJ_ P n best cost (Vr_ h)
   else KJ_ P n best cost (QbJ_ P cost x.1 (Vr_ h))
def KU_ (P:Hn) (a:Int):LI × Int:=KJ_ P a.toNat (Ui_ P.l0) (P.cost (Ui_ P.l0)) [([],0)]
theorem QcG_ {a b:LI} {i:Nat} {x y:Int} (h:X0_ a b=X0_ (a.drop i) (b.drop i)) (ha:a[i]? =some x) (hb:b[i]? =some y):X0_ a b=if x < y then -1 else if y < x then 1 else X0_ (a.drop (i+1)) (b.drop (i+1)):=by
 obtain⟨h1,h2⟩:=gs_.1 ha;obtain⟨h3,h4⟩:=gs_.1 hb;rw[h,List.drop_eq_getElem_cons h1,h2,List.drop_eq_getElem_cons h3,h4]
 conv=>lhs;unfold X0_
theorem UA_ {a b:LI} {i:Nat} (h:X0_ a b=X0_ (a.drop i) (b.drop i)) (he:a.length<=i\/b.length<=i) (ha:i<=a.length) (hb:i<=b.length):X0_ a b=if a.length < b.length then -1 else if b.length < a.length then 1 else 0:=by
 rw[h];by_cases h1:a.length<=i
 ·rw[List.drop_of_length_le h1];by_cases c:b.length<=i
  ·rw[List.drop_of_length_le c,in_ oo,in_ oo];rfl
  ·obtain⟨y,r,e⟩:∃y r,b.drop i=y::r:=by
    cases hd:b.drop i with
    |nil=>have:=congrArg List.length hd;simp at this;omega
    |cons y r=>exact⟨y,r,rfl⟩
   rw[e,ip_ oo];rfl
 ·have c:b.length<=i:=oo;rw[List.drop_of_length_le c];obtain⟨y,r,e⟩:∃y r,a.drop i=y::r:=by
   cases hd:a.drop i with
   |nil=>have:=congrArg List.length hd;simp at this;omega
   |cons y r=>exact⟨y,r,rfl⟩
  rw[e,in_ oo,ip_ oo];rfl
def Dr (w w':World):Prop:=∃q,w'=w.drewN q
theorem Dr.refl (w:World):Dr w w:=⟨0,rfl⟩
theorem Dr.drew {w w':World} (h:Dr w w'):Dr w w'.drew:=by obtain⟨q,rfl⟩:=h;exact⟨q+1,rfl⟩
theorem Dr.below {w w':World} (h:Dr w w'):Below w.heap.size w w':=by obtain⟨q,rfl⟩:=h;exact below_drewN br q
theorem zb_ (A:OA) (n c:Nat) (a:LI) (B:OA) (k d:Nat) (b:LI) (w:World) (hn:n<=1048576) (hk:k<=1048576) (v:Rd w 1 A n (Qa_ a)) (z:Rd w 1 B k (Qa_ b)):
  Calls prog 144 #[S_ A n c,S_ B k d] w fun e w'=>e=R_ (I_ j_ (X0_ a b))/\Dr w w':=by
 have HA:=h_ v;have HB:=h_ z;have f:=h_ (show a.length=n from K2_ v);have g:=h_ (show b.length=k from K2_ z);clear v z;go_enter func144,ntmps144;go_wp2;go_loopw [5] (fun x wr=>∃i:Nat,i<=n/\i<=k/\x=I_ j_ i/\Hid (X0_ a b=X0_ (a.drop i) (b.drop i))/\Hid (Dr w wr)) (fun x _=>n - (intOf x).toNat)
 case atStart=>exact⟨0,lz_ _,lz_ _,rfl,h_ sm_,h_ (Dr.refl _)⟩
 case round=>
  obtain⟨i,o,m,rfl,r,l⟩:=hrel;by_cases h1:i < n
  ·by_cases h2:i < k
   ·obtain⟨x,C⟩:∃x,a[i]? =some x:=⟨_,gE (by rw[f.o];exact h1)⟩;obtain⟨y,D⟩:∃y,b[i]? =some y:=⟨_,gE (by rw[g.o];exact h2)⟩;obtain⟨p,off,rfl,hp,cx⟩:=Qu_ (HA.o.next l.o.below) h1 C;obtain⟨q,E,rfl,hq,cy⟩:=Qu_ (HB.o.next l.o.below) h2 D;have s:=h_ (QcG_ r.o C D);clear C D;by_cases t:x < y
    ·have j:Hid (X0_ a b= -1):=h_ (by rw[s.o,ip_ t]);go_wp2
     go_region
     go_wp2;go_ret;exact⟨Kx_ j.o.symm,l.o.drew⟩
    ·by_cases h4:y < x
     ·have j:Hid (X0_ a b=1):=h_ (by rw[s.o,in_ t,ip_ h4]);go_wp2
      go_region
      go_wp2
      go_region
      go_wp2;go_ret;exact⟨Kx_ j.o.symm,l.o.drew.drew⟩
     ·have j:=h_ (show X0_ a b=X0_ (a.drop (i+1)) (b.drop (i+1))by rw[s.o,in_ t,in_ h4]);go_wp2
      go_region
      go_wp2
      go_region
      go_wp2;go_roundw
      case rel=>exact⟨i+1,oo,oo,by go_num,j,h_ (l.o.drew.drew)⟩
      case measure=>simp[intOf];omega
   ·have j:=h_ (UA_ r.o (.inr (by rw[g.o];omega)) (by rw[f.o];exact o) (by rw[g.o];exact m));obtain rfl:i=k:=oo;have h:Hid (X0_ a b=1):=h_ (by rw[j.o,f.o,g.o,in_ oo,ip_ h1]);go_wp2;go_ret;exact⟨Kx_ h.o.symm,l.o⟩
  ·have j:=h_ (UA_ r.o (.inl (by rw[f.o];omega)) (by rw[f.o];exact o) (by rw[g.o];exact m));obtain rfl:i=n:=oo;by_cases h5:i < k
   ·have h:Hid (X0_ a b= -1):=h_ (by rw[j.o,f.o,g.o,ip_ h5]);go_wp2;go_ret;exact⟨Kx_ h.o.symm,l.o⟩
   ·have h:Hid (X0_ a b=0):=h_ (by rw[j.o,f.o,g.o,in_ h5,in_ oo]);go_wp2;go_ret;exact⟨Kx_ h.o.symm,l.o⟩
theorem Vu_ (A:OA) (n c:Nat) (a:LI) (B:OA) (k d:Nat) (b:LI) (w:World) (hn:n<=1048576) (hk:k<=1048576) (ha:Rd w 1 A n (Qa_ a)) (hb:Rd w 1 B k (Qa_ b)):
  Calls prog 144 #[S_ A n c,S_ B k d] w (RB_ (I_ j_ (X0_ a b)) w):=
 (zb_ A n c a B k d b w hn hk ha hb).mono fun _ _ h=>⟨h.1,h.2.below⟩
theorem Qba_ (x:Int) (w:World):Calls prog 301 #[I_ j_ x] w (RS_ (B_ false) w):=by
 go_enter func301,ntmps301;go_wp2;go_ret;exact⟨rfl,rfl⟩
def cmpI (x y:Int):Int:=if x < y then -1 else if y < x then 1 else 0
theorem Qfa_ (x y:Int) (w:World):Calls prog 300 #[I_ j_ x,I_ j_ y] w (RS_ (I_ j_ (cmpI x y)) w):=by
 have a:=h_ (fun z W=>Qba_ z W);by_cases h1:x < y
 ·rw[show cmpI x y= -1 from ip_ h1];go_enter func300,ntmps300;go_wp2_with (go_at_call 301;refine(a.o _ _).mono ?_;rintro e w1 ⟨rfl,rfl⟩)
  go_ret;exact⟨rfl,rfl⟩
 ·by_cases h2:y < x
  ·rw[show cmpI x y=1 by unfold cmpI;rw[in_ h1,ip_ h2]];go_enter func300,ntmps300;go_wp2_with (go_at_call 301;refine(a.o _ _).mono ?_;rintro e w1 ⟨rfl,rfl⟩)
   go_ret;exact⟨rfl,rfl⟩
  ·rw[show cmpI x y=0 by unfold cmpI;rw[in_ h1,in_ h2]];go_enter func300,ntmps300;go_wp2_with (go_at_call 301;refine(a.o _ _).mono ?_;rintro e w1 ⟨rfl,rfl⟩)
   go_ret;exact⟨rfl,rfl⟩
theorem qV_ (A:OA) (n c:Nat) (a:LI) (B:OA) (k d:Nat) (b:LI) (w:World) (hn:n<=1048576) (hk:k<=1048576) (C:Rd w 1 A n (Qa_ a)) (D:Rd w 1 B k (Qa_ b)):
  Calls prog 296 #[S_ A n c,S_ B k d] w (RS_ (I_ j_ (X0_ a b)) w):=by
 have HA:=h_ C;have HB:=h_ D;have f:=h_ (show a.length=n from K2_ C);have g:=h_ (show b.length=k from K2_ D);have HC:=h_ (fun x y W=>Qfa_ x y W);clear C D;go_enter func296,ntmps296;go_wp2
 go_loop [11] (fun x=>∃i:Nat,i<=n/\i<=k/\x=I_ j_ i/\Hid (X0_ a b=X0_ (a.drop i) (b.drop i))) (fun x=>n - (intOf x).toNat)
 case atStart=>exact⟨0,lz_ _,lz_ _,rfl,h_ sm_⟩
 case round=>
  obtain⟨i,r,o,rfl,v⟩:=hrel;by_cases h1:i < n
  ·obtain⟨x,t⟩:∃x,a[i]? =some x:=⟨_,gE (by rw[f.o];exact h1)⟩;obtain⟨p,off,rfl,hp,cx⟩:=Qu_ HA.o h1 t;by_cases h2:i < k
   ·obtain⟨y,E⟩:∃y,b[i]? =some y:=⟨_,gE (by rw[g.o];exact h2)⟩;obtain⟨q,F,rfl,hq,cy⟩:=Qu_ HB.o h2 E;have z:=h_ (QcG_ v.o t E);have h:=h_ (HC.o x y w);clear t E;by_cases m:x < y
    ·have l:Hid (X0_ a b= -1):=h_ (by rw[z.o,ip_ m]);rw[show cmpI x y= -1 from ip_ m]at h;go_wp2_with fail
     refine h.o.mono ?_;rintro e w1 ⟨rfl,rfl⟩;go_wp2;go_ret;exact⟨Kx_ l.o.symm,rfl⟩
    ·by_cases s:y < x
     ·have l:Hid (X0_ a b=1):=h_ (by rw[z.o,in_ m,ip_ s]);rw[show cmpI x y=1 by unfold cmpI;rw[in_ m,ip_ s]]at h;go_wp2_with fail
      refine h.o.mono ?_;rintro e w1 ⟨rfl,rfl⟩;go_wp2;go_ret;exact⟨Kx_ l.o.symm,rfl⟩
     ·have l:=h_ (show X0_ a b=X0_ (a.drop (i+1)) (b.drop (i+1))by rw[z.o,in_ m,in_ s]);rw[show cmpI x y=0 by unfold cmpI;rw[in_ m,in_ s]]at h;go_wp2_with fail
      refine h.o.mono ?_;rintro e w1 ⟨rfl,rfl⟩;go_wp2
      go_round
      case rel=>exact⟨i+1,oo,oo,by go_num,l⟩
      case measure=>simp[intOf];omega
   ·have l:=h_ (UA_ v.o (.inr (by rw[g.o];omega)) (by rw[f.o];exact r) (by rw[g.o];exact o));obtain rfl:i=k:=oo;have j:Hid (X0_ a b=1):=h_ (by rw[l.o,f.o,g.o,in_ oo,ip_ h1]);clear t;go_wp2;go_ret;exact⟨Kx_ j.o.symm,rfl⟩
  ·have l:=h_ (UA_ v.o (.inl (by rw[f.o];omega)) (by rw[f.o];exact r) (by rw[g.o];exact o));obtain rfl:i=n:=oo;by_cases h5:i < k
   ·have j:Hid (X0_ a b= -1):=h_ (by rw[l.o,f.o,g.o,ip_ h5]);go_wp2;go_ret;exact⟨Kx_ j.o.symm,rfl⟩
   ·have j:Hid (X0_ a b=0):=h_ (by rw[l.o,f.o,g.o,in_ h5,in_ oo]);go_wp2;go_ret;exact⟨Kx_ j.o.symm,rfl⟩
theorem Vg_ (A:OA) (n c:Nat) (a:LI) (B:OA) (k d:Nat) (b:LI) (w:World) (hn:n<=1048576) (hk:k<=1048576) (ha:Rd w 1 A n (Qa_ a)) (hb:Rd w 1 B k (Qa_ b)):
  Calls prog 287 #[S_ A n c,S_ B k d] w (RS_ (I_ j_ (X0_ a b)) w):=by
 have H:=h_ (qV_ A n c a B k d b w hn hk ha hb);clear ha hb;go_enter func287,ntmps287;go_wp2_with fail
 refine H.o.mono ?_;rintro e w1 ⟨rfl,rfl⟩;go_wp2;go_ret;exact⟨rfl,rfl⟩
open Go.RowKit Go.Sort
theorem Qdk_ {a b:LI} {x y:Int} (h:x < y):Xt_ (a,x) (b,y)=true:=by simp[Xt_,h]
theorem Qdl_ {a b:LI} {x y:Int} (h:¬x < y) (h2:¬x=y):Xt_ (a,x) (b,y)=false:=by simp[Xt_,h,h2]
theorem Qdm_ {a b:LI} {x:Int} (h:X0_ a b < 0):Xt_ (a,x) (b,x)=true:=by simp[Xt_,h]
theorem Qdn_ {a b:LI} {x:Int} (h:¬X0_ a b < 0):Xt_ (a,x) (b,x)=false:=by simp[Xt_,h]
theorem zm_ {a b x y:Int} (h:a < b):KQ_ (a,x) (b,y)=true:=by simp[KQ_,h]
theorem zn_ {a b x y:Int} (h:¬a < b) (h2:¬a=b):KQ_ (a,x) (b,y)=false:=by simp[KQ_,h,h2]
theorem zo_ {a x y:Int} (h:x < y):KQ_ (a,x) (a,y)=true:=by simp[KQ_,h]
theorem zp_ {a x y:Int} (h:¬x < y):KQ_ (a,x) (a,y)=false:=by simp[KQ_,h]
theorem Qin_ (w:World) (a b:Obj):(w.alloc a).alloc b=grow w #[a,b]:=by rw[alloc_eq_grow,alloc_eq_grow,grow_grow];rfl
def GrR (v:Value) (w:World) (e:Ending) (w':World):Prop:=e=R_ v/\∃q os,w'=grow (w.drewN q) os
theorem gr2 (v:Value) (w:World) (a b:Obj):GrR v w (R_ v) ((w.alloc a).alloc b):=⟨rfl,0,_,Qin_ w a b⟩
theorem GrR.below {v:Value} {w w':World} {e:Ending} (h:GrR v w e w'):e=R_ v/\Below w.heap.size w w':=by
 obtain⟨h1,q,os,rfl⟩:=h;exact⟨h1,Go.Lib.below_grow w.heap.size w (lr_ _) q os⟩
theorem Z3_ (w:World) (o o':Obj):Below w.heap.size w ((w.alloc o).alloc o'):=Gi_ br
theorem Z2_ (A:OA) (n c:Nat) (a:LI) (x:Int) (B:OA) (k d:Nat) (b:LI) (y:Int) (w:World) (hn:n<=1048576) (hk:k<=1048576) (ha:Rd w 1 A n (Qa_ a)) (hb:Rd w 1 B k (Qa_ b)):
  Calls prog 195 #[A_ #[S_ A n c,I_ j_ x],A_ #[S_ B k d,I_ j_ y]] w fun e w'=>e=R_ (B_ (Xt_ (a,x) (b,y)))/\Below w.heap.size w w':=by
 have HA:=h_ ha;have HB:=h_ hb;have HC:=h_ (fun W h1 h2=>Vu_ A n c a B k d b W hn hk h1 h2);clear ha hb;by_cases g1:x < y
 ·rw[Qdk_ g1];go_enter func195,ntmps195;go_wp2;go_ret;exact⟨rfl,Z3_ _ _ _⟩
 ·by_cases g2:x=y
  ·subst g2;by_cases g3:X0_ a b < 0
   ·rw[Qdm_ g3];go_enter func195,ntmps195;go_wp2_with (go_at_call 144;refine(HC.o _ ((HA.o.alloc _).alloc _) ((HB.o.alloc _).alloc _)).mono ?_;rintro e w1 ⟨rfl,h1⟩)
    go_ret;exact⟨rfl,Gi_ h1⟩
   ·rw[Qdn_ g3];go_enter func195,ntmps195;go_wp2_with (go_at_call 144;refine(HC.o _ ((HA.o.alloc _).alloc _) ((HB.o.alloc _).alloc _)).mono ?_;rintro e w1 ⟨rfl,h1⟩)
    go_ret;exact⟨Qg_ (df_ oo),Gi_ h1⟩
  ·rw[Qdl_ g1 g2];go_enter func195,ntmps195;go_wp2;go_ret;exact⟨rfl,Z3_ _ _ _⟩
theorem Uu_ (a x b y:Int) (w:World):
  Calls prog 143 #[A_ #[I_ j_ a,I_ j_ x],A_ #[I_ j_ b,I_ j_ y]] w (GrR (B_ (KQ_ (a,x) (b,y))) w):=by
 by_cases g1:a < b
 ·rw[zm_ g1];go_enter func143,ntmps143;go_wp2;go_ret;exact gr2 _ _ _ _
 ·by_cases g2:a=b
  ·subst g2;by_cases g3:x < y
   ·rw[zo_ g3];go_enter func143,ntmps143;go_wp2;go_ret;exact gr2 _ _ _ _
   ·rw[zp_ g3];go_enter func143,ntmps143;go_wp2;go_ret;exact gr2 _ _ _ _
  ·rw[zn_ g1 g2];go_enter func143,ntmps143;go_wp2;go_ret;exact gr2 _ _ _ _
theorem ZZ_ (A:OA) (n c:Nat) (a:LI) (x:Int) (B:OA) (k d:Nat) (b:LI) (y:Int) (w:World) (hn:n<=1048576) (hk:k<=1048576) (ha:Rd w 1 A n (Qa_ a)) (hb:Rd w 1 B k (Qa_ b)):
  Calls prog 285 #[A_ #[S_ A n c,I_ j_ x],A_ #[S_ B k d,I_ j_ y]] w fun e w'=>e=R_ (B_ (Xt_ (a,x) (b,y)))/\Below w.heap.size w w':=by
 have HA:=h_ ha;have HB:=h_ hb;have HC:=h_ (fun W h1 h2=>Vg_ A n c a B k d b W hn hk h1 h2);clear ha hb;by_cases g1:x < y
 ·rw[Qdk_ g1];go_enter func285,ntmps285;go_wp2;go_ret;exact⟨rfl,Z3_ _ _ _⟩
 ·by_cases g2:x=y
  ·subst g2;by_cases g3:X0_ a b < 0
   ·rw[Qdm_ g3];go_enter func285,ntmps285;go_wp2_with (go_at_call 287;refine(HC.o _ ((HA.o.alloc _).alloc _) ((HB.o.alloc _).alloc _)).mono ?_;rintro e w1 ⟨rfl,rfl⟩)
    go_ret;exact⟨rfl,Z3_ _ _ _⟩
   ·rw[Qdn_ g3];go_enter func285,ntmps285;go_wp2_with (go_at_call 287;refine(HC.o _ ((HA.o.alloc _).alloc _) ((HB.o.alloc _).alloc _)).mono ?_;rintro e w1 ⟨rfl,rfl⟩)
    go_ret;exact⟨Qg_ (df_ oo),Z3_ _ _ _⟩
  ·rw[Qdl_ g1 g2];go_enter func285,ntmps285;go_wp2;go_ret;exact⟨rfl,Z3_ _ _ _⟩
theorem Y0_ (a x b y:Int) (w:World):
  Calls prog 286 #[A_ #[I_ j_ a,I_ j_ x],A_ #[I_ j_ b,I_ j_ y]] w (GrR (B_ (KQ_ (a,x) (b,y))) w):=by
 by_cases g1:a < b
 ·rw[zm_ g1];go_enter func286,ntmps286;go_wp2;go_ret;exact gr2 _ _ _ _
 ·by_cases g2:a=b
  ·subst g2;by_cases g3:x < y
   ·rw[zo_ g3];go_enter func286,ntmps286;go_wp2;go_ret;exact gr2 _ _ _ _
   ·rw[zp_ g3];go_enter func286,ntmps286;go_wp2;go_ret;exact gr2 _ _ _ _
  ·rw[zn_ g1 g2];go_enter func286,ntmps286;go_wp2;go_ret;exact gr2 _ _ _ _
structure PcM (P:Hn) (A0 A1 A2 A3:OA) (w:World):Prop where
 r0:Rd w 2 A0 P.l0.length (P.l0.flatMap Q0_)
 r1:Rd w 5 A1 P.l1.length (P.l1.flatMap Qo_)
 r2:Rd w 3 A2 P.l2.length (P.l2.flatMap QJ_)
 r3:Rd w 2 A3 P.l3.length (P.l3.flatMap KF_)
theorem PcM.next {P:Hn} {A0 A1 A2 A3:OA} {w w':World} (h:PcM P A0 A1 A2 A3 w) (a:Below w.heap.size w w'):PcM P A0 A1 A2 A3 w':=⟨h.r0.next a,h.r1.next a,h.r2.next a,h.r3.next a⟩
theorem PcM.alloc {P:Hn} {A0 A1 A2 A3:OA} {w:World} (h:PcM P A0 A1 A2 A3 w) (o:Obj):PcM P A0 A1 A2 A3 (w.alloc o):=⟨h.r0.alloc o,h.r1.alloc o,h.r2.alloc o,h.r3.alloc o⟩
structure PcOk (P:Hn):Prop where
 n0:P.l0.length<=8
 n1:P.l1.length<=80
 n2:P.l2.length<=40
 n3:P.l3.length<=20
 rule:∀d∈P.l0,1<=d.1/\d.1<=256/\0<=d.2/\d.2<=1000
abbrev pcCells (P:Hn) (A0 A1 A2 A3:OA) (c0 c1 c2 c3:Nat):Array Value:=#[I_ j_ P.m,S_ A0 P.l0.length c0,S_ A1 P.l1.length c1,S_ A2 P.l2.length c2,S_ A3 P.l3.length c3]
theorem Uy_ {i:Array Oper} {rest:List Oper} {o:Oper} {a:Act} {Q:Exit->Act->World->Prop} (s x:Operand) {B:Nat} {w1:World} {A:OA} {b c:Nat} {ks:LI} {k:Int}
  (l:Hid (Mine w1 B 3 1 A b c (Qa_ ks))) (hB:B<=w1.heap.size) (m:o.guard=none) (ho:o.op=.call { callee:=.builtin .append,args:=#[s,x],argTypes:=#[83,83] }) (hs:a.eval s=S_ A b c) (hx:a.eval x=S_ (some ⟨w1.heap.size,0,none⟩) 1 1) (v:b<=100000)
  (h:∀A' c' w',Hid (Mine w' B 3 1 A' (b+1) c' (Qa_ (ks++[k])))->Hid (w1.heap.size<=w'.heap.size/\∀g t cs,Blk w1 g t cs->t≠3->Blk w' g t cs)->Hid (∀w0,Below B w0 w1->Below B w0 w')->wpList prog i Q rest (a.put o.dst (S_ A' (b+1) c')) w'):wpList prog i Q (o::rest) a (w1.alloc (C_ #[I_ j_ k] 3)):=by
 obtain⟨i0,hi,n,p,q⟩:=info_parts QY_;refine wpList_append_own _ m s x _ ho B 3 i0 (I_ j_ 0) 1 8 underlying83 hi n p q rfl dc_ (S_ A b c) b (Qa_ ks) hs (Mine.alloc l.o _) ⟨w1.heap.size,0,none⟩ 1 1 [I_ j_ k] hx rfl (K8_ _ k _) (K9_ _) mx_ oo so_ ?_;intro v' w5 f d y;obtain⟨A5,c5,rfl,m5⟩:=Mine.of f;rw[<-Ke_]at m5;refine h A5 c5 w5 m5 ⟨lt_ sm_ d.size,fun g t cs j ht=>?_⟩ (fun w0 j=>?_)
 ·refine(j.alloc _).grown d (fun e=>?_);rw[Q3_]at e;obtain⟨r,b'⟩:=Qw_ l.o e.symm;exact Kj_ j b' ht rfl
 ·exact(j.alloc hB _).grown d so_ (fun g d=>by rw[Q3_]at d;exact(Mine.blk l.o d).1)
def allT (P:Hn) (k:Nat):LI:=(P.l0.take k).map (fun d=>d.1 - 1)
theorem kc_ {P:Hn} {k:Nat} {x0 x1:Int} (h:P.l0[k]? =some (x0,x1)):allT P (k+1)=allT P k++[x0 - 1]:=by
 unfold allT;rw[List.take_add_one,h,List.map_append];rfl
theorem vs_ (P:Hn):allT P P.l0.length=Ui_ P.l0:=by unfold allT Ui_;rw[List.take_of_length_le (lr_ _)]
theorem VC_ (l:List RuleD):(Ui_ l).length=l.length:=by unfold Ui_;simp
theorem Us_ (P:Hn) (A0 A1 A2 A3:OA) (c0 c1 c2 c3:Nat) (w:World) (hM:PcM P A0 A1 A2 A3 w) (t:PcOk P):
  Calls prog 140 #[A_ (pcCells P A0 A1 A2 A3 c0 c1 c2 c3)] w (QeT_ w (Ui_ P.l0)):=by
 have HM:=h_ hM.r0;have HR:=h_ t.rule;have hn:=t.n0;have l:=h_ (VC_ P.l0);have f:=h_ (vs_ P);clear hM t;have b:=h_ (show Blk ((w.alloc (C_ (pcCells P A0 A1 A2 A3 c0 c1 c2 c3) 149)).alloc (C_ #[] 3)) w.heap.size 149 (pcCells P A0 A1 A2 A3 c0 c1 c2 c3)from(Blk.new _ _ _).alloc _);have e:=h_ (show Mine ((w.alloc (C_ (pcCells P A0 A1 A2 A3 c0 c1 c2 c3) 149)).alloc (C_ #[] 3)) w.heap.size 3 1 (some ⟨w.heap.size+1,0,none⟩) 0 0 (Qa_ (allT P 0))from by
  have h:=ZA_ (w.alloc (C_ (pcCells P A0 A1 A2 A3 c0 c1 c2 c3) 149)) 3 1;rw[ws_]at h;exact Mine.more h (oo:w.heap.size<=w.heap.size+1))
 have a:=h_ (Z3_ w (C_ (pcCells P A0 A1 A2 A3 c0 c1 c2 c3) 149) (C_ #[] 3));unfold QeT_;rw[l.o];obtain⟨N,j⟩:=ex_ P.l0.length;have HN:=h_ j;rw[j]at hn HM f |-
 unfold pcCells at b e a |-
 rw[j]at b e a |-
 clear j;go_enter func140,ntmps140;go_wp2;go_loopw [3,4] (fun o x wr=>∃(i:Nat) (A:OA) (c:Nat),i<=N/\x=I_ j_ i/\o=S_ A i c/\Hid (Mine wr w.heap.size 3 1 A i c (Qa_ (allT P i)))/\Hid (Blk wr w.heap.size 149 #[I_ j_ P.m,S_ A0 N c0,S_ A1 P.l1.length c1,S_ A2 P.l2.length c2,S_ A3 P.l3.length c3])/\Hid (Below w.heap.size w wr)) (fun _ x _=>N - (intOf x).toNat)
 case atStart=>exact⟨0,some ⟨w.heap.size+1,0,none⟩,0,lz_ _,rfl,rfl,e,b,a⟩
 case round=>
  clear e b a;obtain⟨i,A,c,z,rfl,rfl,HO,n,g⟩:=hrel;have v:=g.o.size;have q1:wr.cell? ⟨w.heap.size,1,none⟩=some (S_ A0 N c0):=n.o.cell 1;have D:=n.o.lt;by_cases h1:i < N
  ·obtain⟨⟨x0,x1⟩,k⟩:∃d,P.l0[i]? =some d:=⟨_,gE (by rw[HN.o];exact h1)⟩;obtain⟨p,off,rfl,hp,cx,cy⟩:=Xo_ (HM.o.next g.o) h1 k;have y:=h_ (kc_ k);have hr:=HR.o _ (lm_ k);dsimp only at hr;obtain⟨B,C,_,_⟩:=hr;clear k;have s:=HO;go_wp2_with (at_builtin;refine Uy_ (.tmp 13) (.tmp 21) s v rfl rfl rfl rfl oo ?_;intro A5 c5 w5 r q m)
   go_wp2;go_roundw
   case rel=>exact⟨i+1,A5,c5,oo,by go_num,rfl,by rw[y.o];exact r,h_ (q.o.2 _ _ _ n.o dc_),h_ (m.o _ g.o)⟩
   case measure=>simp[intOf];omega
  ·obtain rfl:i=N:=oo;go_wp2;go_ret;exact⟨A,c,rfl,by rw[<-f.o];exact HO.o,g.o⟩
theorem Uk_ (P:Hn) (A0 A1 A2 A3:OA) (c0 c1 c2 c3:Nat) (w:World) (hM:PcM P A0 A1 A2 A3 w) (t:PcOk P):
  Calls prog 269 #[A_ (pcCells P A0 A1 A2 A3 c0 c1 c2 c3)] w (QeT_ w (Ui_ P.l0)):=by
 have HM:=h_ hM.r0;have HR:=h_ t.rule;have hn:=t.n0;have l:=h_ (VC_ P.l0);have f:=h_ (vs_ P);clear hM t;have b:=h_ (show Blk (w.alloc (C_ (pcCells P A0 A1 A2 A3 c0 c1 c2 c3) 149)) w.heap.size 149 (pcCells P A0 A1 A2 A3 c0 c1 c2 c3)from Blk.new _ _ _);have e:=h_ (show Mine (w.alloc (C_ (pcCells P A0 A1 A2 A3 c0 c1 c2 c3) 149)) w.heap.size 3 1 none 0 0 (Qa_ (allT P 0))from Mine.mk_nil _ _ _ _);have a:=h_ (show Below w.heap.size w (w.alloc (C_ (pcCells P A0 A1 A2 A3 c0 c1 c2 c3) 149))from Ql_ br);unfold QeT_;rw[l.o];obtain⟨N,j⟩:=ex_ P.l0.length;have HN:=h_ j;rw[j]at hn HM f |-
 unfold pcCells at b e a |-
 rw[j]at b e a |-
 clear j;go_enter func269,ntmps269;go_wp2;go_loopw [3,9] (fun o x wr=>∃(i:Nat) (A:OA) (c:Nat),i<=N/\x=I_ j_ i/\o=S_ A i c/\Hid (Mine wr w.heap.size 3 1 A i c (Qa_ (allT P i)))/\Hid (Blk wr w.heap.size 149 #[I_ j_ P.m,S_ A0 N c0,S_ A1 P.l1.length c1,S_ A2 P.l2.length c2,S_ A3 P.l3.length c3])/\Hid (Below w.heap.size w wr)) (fun _ x _=>N - (intOf x).toNat)
 case atStart=>exact⟨0,none,0,lz_ _,rfl,rfl,e,b,a⟩
 case round=>
  clear e b a;obtain⟨i,A,c,z,rfl,rfl,HO,n,h⟩:=hrel;have v:=h.o.size;have q1:wr.cell? ⟨w.heap.size,1,none⟩=some (S_ A0 N c0):=n.o.cell 1;have D:=n.o.lt;by_cases h1:i < N
  ·obtain⟨⟨x0,x1⟩,k⟩:∃d,P.l0[i]? =some d:=⟨_,gE (by rw[HN.o];exact h1)⟩;obtain⟨p,off,rfl,hp,cx,cy⟩:=Xo_ (HM.o.next h.o) h1 k;have y:=h_ (kc_ k);have hr:=HR.o _ (lm_ k);dsimp only at hr;obtain⟨B,C,_,_⟩:=hr;clear k;have s:=h_ (HO.o.alloc (C_ #[I_ j_ x0,I_ j_ x1] 192));have g:w.heap.size<=(wr.alloc (C_ #[I_ j_ x0,I_ j_ x1] 192)).heap.size:=so_;go_wp2_with (at_builtin;refine Uy_ (.tmp 13) (.tmp 17) s g rfl rfl rfl er_ oo ?_;intro A5 c5 w5 r q m)
   go_wp2;go_roundw
   case rel=>exact⟨i+1,A5,c5,oo,by go_num,rfl,by rw[y.o];exact r,h_ (q.o.2 _ _ _ (n.o.alloc _) dc_),h_ (m.o _ (h.o.alloc v _))⟩
   case measure=>simp[intOf];omega
  ·obtain rfl:i=N:=oo;go_wp2;go_ret;exact⟨A,c,rfl,by rw[<-f.o];exact HO.o,h.o⟩
theorem inBT {a b c:Int} (h:b<=a/\a<=c):inB a b c=true:=dt_ h
theorem inBF {a b c:Int} (h:¬(b<=a/\a<=c)):inB a b c=false:=df_ h
theorem xQ_ {l:List TieD} {v:LI} {i:Nat} {d:TieD} (h:K5_ l v=K5_ (l.drop i) v) (hd:l[i]? =some d):K5_ l v=(Uv_ v d&&K5_ (l.drop (i+1)) v):=by
 obtain⟨h1,h2⟩:=gs_.1 hd;rw[h,List.drop_eq_getElem_cons h1,h2]
 rfl
theorem QeB_ {v:LI} {x0 x1:Int} (h:¬(0<=x0/\x0<=(v.length:Int) - 1)):Uv_ v (x0,x1)=true:=by
 unfold Uv_;rw[df_ (fun k=>h ⟨k.1.1,by have:=k.1.2;dsimp only at this;omega⟩)]
 rfl
theorem QeC_ {v:LI} {x0 x1:Int} (h:¬(0<=x1/\x1<=(v.length:Int) - 1)):Uv_ v (x0,x1)=true:=by
 unfold Uv_;rw[df_ (fun k=>h ⟨k.2.1,by have:=k.2.2;dsimp only at this;omega⟩)]
 rfl
theorem WR_ {v:LI} {k:Nat} {y:Int} (h:v[k]? =some y):QeK_ v (k:Int)=y:=by
 unfold QeK_;rw[it_,List.getD_eq_getElem?_getD,h];rfl
theorem QeD_ {v:LI} {k:Nat} {x1 y:Int} (h:v[k]? =some y) (hy:¬0 < y):Uv_ v ((k:Int),x1)=true:=by
 unfold Uv_;rw[WR_ h,df_ hy];simp
theorem QeE_ {v:LI} {k:Nat} {x0 y:Int} (h:v[k]? =some y) (hy:¬y=0):Uv_ v (x0,(k:Int))=true:=by
 unfold Uv_;rw[WR_ h,df_ hy];simp
theorem QeG_ {v:LI} {j k:Nat} {y:Int} (h:v[j]? =some y) (hy:0 < y) (h2:v[k]? =some 0):Uv_ v ((j:Int),(k:Int))=false:=by
 unfold Uv_;have a1:=(gs_.1 h).1;have a2:=(gs_.1 h2).1;rw[WR_ h,WR_ h2,dt_ hy,dt_ (show(0<=((j:Int),(k:Int)).1/\((j:Int),(k:Int)).1 < (v.length:Int))/\(0<=((j:Int),(k:Int)).2/\((j:Int),(k:Int)).2 < (v.length:Int))from⟨⟨by dsimp only;omega,by dsimp only;omega⟩,⟨by dsimp only;omega,by dsimp only;omega⟩⟩)]
 rfl
theorem WO_ (P:Hn) (A0 A1 A2 A3:OA) (c0 c1 c2 c3:Nat) (V:OA) (n cv:Nat) (v:LI) (w:World) (hM:PcM P A0 A1 A2 A3 w) (hO:PcOk P) (D:Rd w 1 V n (Qa_ v)) (hn:n<=8):
  Calls prog 146 #[A_ (pcCells P A0 A1 A2 A3 c0 c1 c2 c3),S_ V n cv] w (RB_ (B_ (K5_ P.l3 v)) w):=by
 have HM:=h_ hM.r3;have C:=hO.n3;have HV:=h_ D;have k:=h_ (show v.length=n from K2_ D);clear hM hO D;obtain⟨N,B⟩:=ex_ P.l3.length;have HN:=h_ B;unfold pcCells;rw[B]at C HM |-
 clear B;have s:=h_ (Blk.new w 149 #[I_ j_ P.m,S_ A0 P.l0.length c0,S_ A1 P.l1.length c1,S_ A2 P.l2.length c2,S_ A3 N c3]);have r:=h_ (show Below w.heap.size w (w.alloc (C_ #[I_ j_ P.m,S_ A0 P.l0.length c0,S_ A1 P.l1.length c1,S_ A2 P.l2.length c2,S_ A3 N c3] 149))from Ql_ br);go_enter func146,ntmps146;go_wp2;go_loopw [6] (fun x wr=>∃i:Nat,i<=N/\x=I_ j_ i/\Hid (K5_ P.l3 v=K5_ (P.l3.drop i) v)/\Hid (Blk wr w.heap.size 149 #[I_ j_ P.m,S_ A0 P.l0.length c0,S_ A1 P.l1.length c1,S_ A2 P.l2.length c2,S_ A3 N c3])/\Hid (Below w.heap.size w wr)) (fun x _=>N - (intOf x).toNat)
 case atStart=>exact⟨0,lz_ _,rfl,h_ sm_,s,r⟩
 case round=>
  clear s r;obtain⟨i,L,rfl,HE,m,j⟩:=hrel;have f:=j.o.size;have q4:wr.cell? ⟨w.heap.size,4,none⟩=some (S_ A3 N c3):=m.o.cell 4;have M:=m.o.lt;by_cases h1:i < N
  ·obtain⟨⟨x0,x1⟩,E⟩:∃d,P.l3[i]? =some d:=⟨_,gE (by rw[HN.o];exact h1)⟩;obtain⟨p,off,rfl,hp,cx,cy⟩:=Qax_ (HM.o.next j.o) h1 E;have q:=h_ (xQ_ HE.o E);clear E;by_cases t:0<=x0/\x0<=(n:Int) - 1
   ·have c:=h_ (inBT t);by_cases o:0<=x1/\x1<=(n:Int) - 1
    ·have b:=h_ (inBT o);obtain⟨k0,rfl⟩:=eo_ t.1;obtain⟨z,rfl⟩:=eo_ o.1;have g3:k0 < n:=oo;have g4:z < n:=oo;obtain⟨y0,g⟩:∃y,v[k0]? =some y:=⟨_,gE (by rw[k.o];exact g3)⟩;obtain⟨y1,h⟩:∃y,v[z]? =some y:=⟨_,gE (by rw[k.o];exact g4)⟩;obtain⟨b5,F,e5,J,H⟩:=Qu_ (HV.o.next j.o) g3 g;obtain⟨b6,G,A,K,I⟩:=Qu_ (HV.o.next j.o) g4 h;subst e5;injection A with A;injection A with e61 e62;subst e61;subst e62;have i3:(k0:Int) < (n:Int):=oo;have i4:(z:Int) < (n:Int):=oo;by_cases g5:0 < y0
     ·by_cases g6:y1=0
      ·subst g6;have a:=h_ (show K5_ P.l3 v=false by rw[q.o,QeG_ g g5 h];rfl);clear g h;go_wp2_with (go_at_call 34;(first|(with_reducible refine(Ks_ c.o _).mono ?_)|(with_reducible refine(Ks_ b.o _).mono ?_));rintro e w1 ⟨rfl,rfl⟩)
       go_ret;exact⟨Qg_ a.o.symm,j.o.alloc f _⟩
      ·have l:=h_ (QeE_ (x0:=(k0:Int)) h g6);clear g h;have a:=h_ (show K5_ P.l3 v=K5_ (P.l3.drop (i+1)) v by rw[q.o,l.o];rfl);go_wp2_with (go_at_call 34;(first|(with_reducible refine(Ks_ c.o _).mono ?_)|(with_reducible refine(Ks_ b.o _).mono ?_));rintro e w1 ⟨rfl,rfl⟩)
       go_roundw
       case rel=>exact⟨i+1,oo,by go_num,a,h_ (m.o.alloc _),h_ (j.o.alloc f _)⟩
       case measure=>simp[intOf];omega
     ·have l:=h_ (QeD_ (x1:=(z:Int)) g g5);clear g h;have a:=h_ (show K5_ P.l3 v=K5_ (P.l3.drop (i+1)) v by rw[q.o,l.o];rfl);go_wp2_with (go_at_call 34;(first|(with_reducible refine(Ks_ c.o _).mono ?_)|(with_reducible refine(Ks_ b.o _).mono ?_));rintro e w1 ⟨rfl,rfl⟩)
      go_roundw
      case rel=>exact⟨i+1,oo,by go_num,a,h_ (m.o.alloc _),h_ (j.o.alloc f _)⟩
      case measure=>simp[intOf];omega
    ·have b:=h_ (inBF o);have l:=h_ (QeC_ (v:=v) (x0:=x0) (x1:=x1) (by rw[k.o];exact o));have a:=h_ (show K5_ P.l3 v=K5_ (P.l3.drop (i+1)) v by rw[q.o,l.o];rfl);go_wp2_with (go_at_call 34;(first|(with_reducible refine(Ks_ c.o _).mono ?_)|(with_reducible refine(Ks_ b.o _).mono ?_));rintro e w1 ⟨rfl,rfl⟩)
     go_roundw
     case rel=>exact⟨i+1,oo,by go_num,a,h_ (m.o.alloc _),h_ (j.o.alloc f _)⟩
     case measure=>simp[intOf];omega
   ·have c:=h_ (inBF t);have l:=h_ (QeB_ (v:=v) (x0:=x0) (x1:=x1) (by rw[k.o];exact t));by_cases o:0<=x1/\x1<=(n:Int) - 1
    ·have b:=h_ (inBT o);have a:=h_ (show K5_ P.l3 v=K5_ (P.l3.drop (i+1)) v by rw[q.o,l.o];rfl);go_wp2_with (go_at_call 34;(first|(with_reducible refine(Ks_ c.o _).mono ?_)|(with_reducible refine(Ks_ b.o _).mono ?_));rintro e w1 ⟨rfl,rfl⟩)
     go_roundw
     case rel=>exact⟨i+1,oo,by go_num,a,h_ (m.o.alloc _),h_ (j.o.alloc f _)⟩
     case measure=>simp[intOf];omega
    ·have b:=h_ (inBF o);have a:=h_ (show K5_ P.l3 v=K5_ (P.l3.drop (i+1)) v by rw[q.o,l.o];rfl);go_wp2_with (go_at_call 34;(first|(with_reducible refine(Ks_ c.o _).mono ?_)|(with_reducible refine(Ks_ b.o _).mono ?_));rintro e w1 ⟨rfl,rfl⟩)
     go_roundw
     case rel=>exact⟨i+1,oo,by go_num,a,h_ (m.o.alloc _),h_ (j.o.alloc f _)⟩
     case measure=>simp[intOf];omega
  ·obtain rfl:i=N:=oo;have a:=h_ (show K5_ P.l3 v=true by rw[HE.o,List.drop_of_length_le (by rw[HN.o];exact lr_ _)];rfl);go_wp2;go_ret;exact⟨Qg_ a.o.symm,j.o⟩
theorem U6_ (P:Hn) (A0 A1 A2 A3:OA) (c0 c1 c2 c3:Nat) (V:OA) (n cv:Nat) (v:LI) (w:World) (hM:PcM P A0 A1 A2 A3 w) (hO:PcOk P) (D:Rd w 1 V n (Qa_ v)) (hn:n<=8):
  Calls prog 289 #[A_ (pcCells P A0 A1 A2 A3 c0 c1 c2 c3),S_ V n cv] w (RB_ (B_ (K5_ P.l3 v)) w):=by
 have HM:=h_ hM.r3;have C:=hO.n3;have HV:=h_ D;have k:=h_ (show v.length=n from K2_ D);clear hM hO D;obtain⟨N,B⟩:=ex_ P.l3.length;have HN:=h_ B;unfold pcCells;rw[B]at C HM |-
 clear B;have s:=h_ (Blk.new w 149 #[I_ j_ P.m,S_ A0 P.l0.length c0,S_ A1 P.l1.length c1,S_ A2 P.l2.length c2,S_ A3 N c3]);have r:=h_ (show Below w.heap.size w (w.alloc (C_ #[I_ j_ P.m,S_ A0 P.l0.length c0,S_ A1 P.l1.length c1,S_ A2 P.l2.length c2,S_ A3 N c3] 149))from Ql_ br);go_enter func289,ntmps289;go_wp2;go_loopw [10] (fun x wr=>∃i:Nat,i<=N/\x=I_ j_ i/\Hid (K5_ P.l3 v=K5_ (P.l3.drop i) v)/\Hid (Blk wr w.heap.size 149 #[I_ j_ P.m,S_ A0 P.l0.length c0,S_ A1 P.l1.length c1,S_ A2 P.l2.length c2,S_ A3 N c3])/\Hid (Below w.heap.size w wr)) (fun x _=>N - (intOf x).toNat)
 case atStart=>exact⟨0,lz_ _,rfl,h_ sm_,s,r⟩
 case round=>
  clear s r;obtain⟨i,L,rfl,HE,m,j⟩:=hrel;have f:=j.o.size;have q4:wr.cell? ⟨w.heap.size,4,none⟩=some (S_ A3 N c3):=m.o.cell 4;have M:=m.o.lt;by_cases h1:i < N
  ·obtain⟨⟨x0,x1⟩,E⟩:∃d,P.l3[i]? =some d:=⟨_,gE (by rw[HN.o];exact h1)⟩;obtain⟨p,off,rfl,hp,cx,cy⟩:=Qax_ (HM.o.next j.o) h1 E;have q:=h_ (xQ_ HE.o E);clear E;by_cases t:0<=x0/\x0<=(n:Int) - 1
   ·have c:=h_ (inBT t);by_cases o:0<=x1/\x1<=(n:Int) - 1
    ·have b:=h_ (inBT o);obtain⟨k0,rfl⟩:=eo_ t.1;obtain⟨z,rfl⟩:=eo_ o.1;have g3:k0 < n:=oo;have g4:z < n:=oo;obtain⟨y0,g⟩:∃y,v[k0]? =some y:=⟨_,gE (by rw[k.o];exact g3)⟩;obtain⟨y1,h⟩:∃y,v[z]? =some y:=⟨_,gE (by rw[k.o];exact g4)⟩;obtain⟨b5,F,e5,J,H⟩:=Qu_ (HV.o.next j.o) g3 g;obtain⟨b6,G,A,K,I⟩:=Qu_ (HV.o.next j.o) g4 h;subst e5;injection A with A;injection A with e61 e62;subst e61;subst e62;have i3:(k0:Int) < (n:Int):=oo;have i4:(z:Int) < (n:Int):=oo;by_cases g5:0 < y0
     ·by_cases g6:y1=0
      ·subst g6;have a:=h_ (show K5_ P.l3 v=false by rw[q.o,QeG_ g g5 h];rfl);clear g h;go_wp2_with (go_at_call 62;(first|(with_reducible refine(Q2_ c.o _).mono ?_)|(with_reducible refine(Q2_ b.o _).mono ?_));rintro e w1 ⟨rfl,rfl⟩)
       go_ret;exact⟨Qg_ a.o.symm,j.o.alloc f _⟩
      ·have l:=h_ (QeE_ (x0:=(k0:Int)) h g6);clear g h;have a:=h_ (show K5_ P.l3 v=K5_ (P.l3.drop (i+1)) v by rw[q.o,l.o];rfl);go_wp2_with (go_at_call 62;(first|(with_reducible refine(Q2_ c.o _).mono ?_)|(with_reducible refine(Q2_ b.o _).mono ?_));rintro e w1 ⟨rfl,rfl⟩)
       go_roundw
       case rel=>exact⟨i+1,oo,by go_num,a,h_ (m.o.alloc _),h_ (j.o.alloc f _)⟩
       case measure=>simp[intOf];omega
     ·have l:=h_ (QeD_ (x1:=(z:Int)) g g5);clear g h;have a:=h_ (show K5_ P.l3 v=K5_ (P.l3.drop (i+1)) v by rw[q.o,l.o];rfl);go_wp2_with (go_at_call 62;(first|(with_reducible refine(Q2_ c.o _).mono ?_)|(with_reducible refine(Q2_ b.o _).mono ?_));rintro e w1 ⟨rfl,rfl⟩)
      go_roundw
      case rel=>exact⟨i+1,oo,by go_num,a,h_ (m.o.alloc _),h_ (j.o.alloc f _)⟩
      case measure=>simp[intOf];omega
    ·have b:=h_ (inBF o);have l:=h_ (QeC_ (v:=v) (x0:=x0) (x1:=x1) (by rw[k.o];exact o));have a:=h_ (show K5_ P.l3 v=K5_ (P.l3.drop (i+1)) v by rw[q.o,l.o];rfl);go_wp2_with (go_at_call 62;(first|(with_reducible refine(Q2_ c.o _).mono ?_)|(with_reducible refine(Q2_ b.o _).mono ?_));rintro e w1 ⟨rfl,rfl⟩)
     go_roundw
     case rel=>exact⟨i+1,oo,by go_num,a,h_ (m.o.alloc _),h_ (j.o.alloc f _)⟩
     case measure=>simp[intOf];omega
   ·have c:=h_ (inBF t);have l:=h_ (QeB_ (v:=v) (x0:=x0) (x1:=x1) (by rw[k.o];exact t));by_cases o:0<=x1/\x1<=(n:Int) - 1
    ·have b:=h_ (inBT o);have a:=h_ (show K5_ P.l3 v=K5_ (P.l3.drop (i+1)) v by rw[q.o,l.o];rfl);go_wp2_with (go_at_call 62;(first|(with_reducible refine(Q2_ c.o _).mono ?_)|(with_reducible refine(Q2_ b.o _).mono ?_));rintro e w1 ⟨rfl,rfl⟩)
     go_roundw
     case rel=>exact⟨i+1,oo,by go_num,a,h_ (m.o.alloc _),h_ (j.o.alloc f _)⟩
     case measure=>simp[intOf];omega
    ·have b:=h_ (inBF o);have a:=h_ (show K5_ P.l3 v=K5_ (P.l3.drop (i+1)) v by rw[q.o,l.o];rfl);go_wp2_with (go_at_call 62;(first|(with_reducible refine(Q2_ c.o _).mono ?_)|(with_reducible refine(Q2_ b.o _).mono ?_));rintro e w1 ⟨rfl,rfl⟩)
     go_roundw
     case rel=>exact⟨i+1,oo,by go_num,a,h_ (m.o.alloc _),h_ (j.o.alloc f _)⟩
     case measure=>simp[intOf];omega
  ·obtain rfl:i=N:=oo;have a:=h_ (show K5_ P.l3 v=true by rw[HE.o,List.drop_of_length_le (by rw[HN.o];exact lr_ _)];rfl);go_wp2;go_ret;exact⟨Qg_ a.o.symm,j.o⟩
theorem GG_ (P:Hn) (A0 A1 A2 A3:OA) (c0 c1 c2 c3:Nat) (V:OA) (n cv:Nat) (v:LI) (q:Nat) (c:ChunkD) (w:World) (hM:PcM P A0 A1 A2 A3 w) (hO:PcOk P) (j:Rd w 1 V n (Qa_ v)) (hn:n<=8) (i:P.l1[q]? =some c) (g:0<=c.2.1/\c.2.1 < (n:Int)):
  Calls prog 148 #[A_ (pcCells P A0 A1 A2 A3 c0 c1 c2 c3),S_ V n cv,I_ j_ q] w (RB_ (B_ (ZE_ v c)) w):=by
 obtain⟨x0,x1,o,x3,x4⟩:=c;dsimp only at g;have h:=hO.n1;have l:v.length=n:=K2_ j;have a:=(gs_.1 i).1;obtain⟨b,off,e1,hb,f,r,s,t,x⟩:=Zk_ hM.r1 a i;subst e1;obtain⟨k,rfl⟩:=eo_ g.1;have hk:k < n:=oo;obtain⟨y,m⟩:∃y,v[k]? =some y:=⟨_,gE oo⟩;obtain⟨b5,p,e5,A,z⟩:=Qu_ j hk m;subst e5;have HV:=h_ (show ZE_ v (x0,(k:Int),o,x3,x4)=decide (o<=y)from by unfold ZE_;rw[WR_ m]);rw[HV.o];obtain⟨N,hN⟩:=ex_ P.l1.length;unfold pcCells;rw[hN]at h a |-
 have B:(k:Int) < (n:Int):=oo;have C:(q:Int) < (N:Int):=oo;clear hN m hM hO j i l g HV f;by_cases d:o<=y
 ·rw[dt_ d];go_enter func148,ntmps148;go_wp2
  go_region
  try go_wp2
  go_ret;exact⟨rfl,grow_⟩
 ·rw[df_ d];go_enter func148,ntmps148;go_wp2
  go_region
  try go_wp2
  go_ret;exact⟨Qg_ (df_ oo),grow_⟩
theorem zv_ (P:Hn) (A0 A1 A2 A3:OA) (c0 c1 c2 c3:Nat) (V:OA) (n cv:Nat) (v:LI) (q:Nat) (c:ChunkD) (w:World) (hM:PcM P A0 A1 A2 A3 w) (hO:PcOk P) (j:Rd w 1 V n (Qa_ v)) (hn:n<=8) (i:P.l1[q]? =some c) (g:0<=c.2.1/\c.2.1 < (n:Int)):
  Calls prog 253 #[A_ (pcCells P A0 A1 A2 A3 c0 c1 c2 c3),S_ V n cv,I_ j_ q] w (RB_ (B_ (ZE_ v c)) w):=by
 obtain⟨x0,x1,o,x3,x4⟩:=c;dsimp only at g;have h:=hO.n1;have l:v.length=n:=K2_ j;have a:=(gs_.1 i).1;obtain⟨b,off,e1,hb,f,r,s,t,x⟩:=Zk_ hM.r1 a i;subst e1;obtain⟨k,rfl⟩:=eo_ g.1;have hk:k < n:=oo;obtain⟨y,m⟩:∃y,v[k]? =some y:=⟨_,gE oo⟩;obtain⟨b5,p,e5,A,z⟩:=Qu_ j hk m;subst e5;have HV:=h_ (show ZE_ v (x0,(k:Int),o,x3,x4)=decide (o<=y)from by unfold ZE_;rw[WR_ m]);rw[HV.o];obtain⟨N,hN⟩:=ex_ P.l1.length;unfold pcCells;rw[hN]at h a |-
 have B:(k:Int) < (n:Int):=oo;have C:(q:Int) < (N:Int):=oo;clear hN m hM hO j i l g HV f;by_cases d:o<=y
 ·rw[dt_ d];go_enter func253,ntmps253;go_wp2
  go_region
  try go_wp2
  go_ret;exact⟨rfl,grow_⟩
 ·rw[df_ d];go_enter func253,ntmps253;go_wp2
  go_region
  try go_wp2
  go_ret;exact⟨Qg_ (df_ oo),grow_⟩
theorem Qcj_ (i:Nat) (w:World) (h:0 < i) (hi:i<=1048576):Calls prog 297 #[I_ j_ i] w (RS_ (I_ j_ (upN i:Nat)) w):=by
 have HU:=h_ (show((upN i:Nat):Int)=((i:Int)+1) / 2 - 1 by unfold upN;omega);go_enter func297,ntmps297;go_wp2;go_ret;exact⟨Kx_ (by rw[HU.o]),rfl⟩
structure PcR (P:Hn):Prop extends PcOk P where
 m:0<=P.m/\P.m<=60
 one:1<=P.l1.length
 text:∀c∈P.l1,c.1.size<=Xj_
 split:∀i c,P.l1[i]? =some c->i+1 < P.l1.length->0<=c.2.1/\c.2.1 < (P.l0.length:Int)
 nest:∀c∈P.l1,0<=c.2.2.2.2/\c.2.2.2.2<=40
 span:∀d∈P.l2,(0<=d.1/\d.1<=d.2.1)/\(d.2.1+1 < (P.l1.length:Int))/\(0<=d.2.2/\d.2.2<=9)
 few:∀d∈P.l0,d.1<=3
def ValR (P:Hn) (v:LI):Prop:=v.length<=P.l0.length/\∀y∈v,0<=y/\y<=3
/-! ### Is a span split -/
def Xl_ (l1:List ChunkD) (v:LI) (a i:Nat):Bool:=(List.range' a (i - a)).any (kB_ l1 v)
theorem Gp_ (l1:List ChunkD) (v:LI) (a:Nat):Xl_ l1 v a a=false:=by unfold Xl_;rw[Nat.sub_self];rfl
theorem Yj_ (l1:List ChunkD) (v:LI) {a i:Nat} (h:a<=i):Xl_ l1 v a (i+1)=(Xl_ l1 v a i||kB_ l1 v i):=by
 unfold Xl_;rw[show i+1 - a=(i - a)+1 from oo,List.range'_concat,List.any_append,show a+1 * (i - a)=i from oo];simp
theorem U0_ (l1:List ChunkD) (v:LI) {a b:Nat} {c:Int} (h:a<=b):Xl_ l1 v a (b+1)=hitS l1 v ((a:Int),(b:Int),c):=by
 unfold Xl_ hitS;dsimp only;rw[it_,show((b:Int)+1 - (a:Int)).toNat=b+1 - a from oo]
theorem Qa1_ (l1:List ChunkD) (v:LI) {a i j:Nat} (b:i<=j) (h:Xl_ l1 v a i=true):Xl_ l1 v a j=true:=by
 obtain⟨d,rfl⟩:=Nat.exists_eq_add_of_le b;clear b
 induction d with
 |zero=>exact h
 |succ d ih=>
  by_cases ha:a<=i+d
  ·rw[<-Nat.add_assoc,Yj_ l1 v ha,ih];rfl
  ·unfold Xl_ at h;rw[show i - a=0 from oo]at h;cases h
theorem vM_ {l1:List ChunkD} {v:LI} {i:Nat} {c:ChunkD} (h:l1[i]? =some c) (hr:¬c.2.1 < (v.length:Int)):kB_ l1 v i=false:=by
 unfold kB_;rw[h];dsimp only;rw[df_ hr];rfl
theorem qn_ {l1:List ChunkD} {v:LI} {i:Nat} {c:ChunkD} (h:l1[i]? =some c) (hr:c.2.1 < (v.length:Int)):kB_ l1 v i=ZE_ v c:=by
 unfold kB_;rw[h];dsimp only;rw[dt_ hr];rfl
/-! ### Sums as one goes -/
theorem GC_ {l0:List RuleD} {v:LI} {i:Nat} {x0 x1 y:Int} (h:l0[i]? =some (x0,x1)) (hv:v[i]? =some y):Vs_ (l0.drop i) (v.drop i)=y * x1+Vs_ (l0.drop (i+1)) (v.drop (i+1)):=by
 obtain⟨h1,h2⟩:=gs_.1 h;obtain⟨h3,h4⟩:=gs_.1 hv;rw[List.drop_eq_getElem_cons h1,h2,List.drop_eq_getElem_cons h3,h4]
 rfl
theorem Js_ {l0:List RuleD} {v:LI} {i:Nat} (h:v.length<=i):Vs_ (l0.drop i) (v.drop i)=0:=by
 rw[List.drop_of_length_le h]
 cases l0.drop i with
 |nil=>rfl
 |cons a r=>obtain⟨a,b⟩:=a;rfl
theorem Qb0_ {l1:List ChunkD} {v:LI} {l2:List SpanD} {i:Nat} {d:SpanD} (h:l2[i]? =some d):Zu_ l1 v (l2.drop i)=(if hitS l1 v d=true then d.2.2 else 0)+Zu_ l1 v (l2.drop (i+1)):=by
 obtain⟨h1,h2⟩:=gs_.1 h;unfold Zu_;rw[List.drop_eq_getElem_cons h1,h2,List.map_cons,List.sum_cons]
theorem Jt_ {l1:List ChunkD} {v:LI} {l2:List SpanD} {i:Nat} (h:l2.length<=i):Zu_ l1 v (l2.drop i)=0:=by
 rw[List.drop_of_length_le h];rfl
theorem Wl_ {y c:Int} (hy:0<=y/\y<=3) (a:0<=c/\c<=1000):0<=y * c/\y * c<=3000:=by
 have h1:0<=y * c:=Int.mul_nonneg hy.1 a.1;have h2:y * c<=3 * 1000:=Int.mul_le_mul hy.2 a.2 a.1 oo;omega
def YZ_ (t:BA):Bool:=match t.data.toList.getLast? with|some c=>c==61|none=>false
def evP (a:BA) (k:Int):List Bv:=(if YZ_ a=true then [.rule 2 2,.split 1 true 4]else [])++[.kid k 0]
def J9_ (a:BA):Pb:=⟨[],[],[],[],a⟩
def XZ_ (ps:List PN) (f:Nat) (a:BA) (k:Int):Pb:=(VL_ (QR_ ps f) (J9_ a,-1) (evP a k)).1
def hnOf (s:Pb) (a:BA) (m width:Int):Hn:=⟨m,s.rules,s.chunks++[(s.text++a,0,0,false,0)],s.spans,s.ties,width⟩
/-! ### All text of a builder -/
def KB_ (l:List ChunkD):Nat:=(l.map (fun c=>c.1.size)).sum
def tot (s:Pb):Nat:=KB_ s.chunks+s.text.size
theorem GP_ (l:List ChunkD) (c:ChunkD):KB_ (l++[c])=KB_ l+c.1.size:=by simp[KB_]
theorem je_ {l:List ChunkD} {c:ChunkD} (h:c∈l):c.1.size<=KB_ l:=Qbx_ (fun c:ChunkD=>c.1.size) h
def Qch_ (W:Nat) (ps:List PN) (f:Nat->Int->Pb->Pb):Prop:=∀k ne s,tot (f k ne s)<=tot s+Kk_ ps k * W
theorem Qel_ (s:Pb) (r a:Int) (sp:Bool) (ne:Int):tot (s.split r a sp ne)<=tot s+1:=by
 unfold Pb.split tot;split
 ·show KB_ (s.chunks++[_])+0<=_;rw[GP_];show KB_ s.chunks+s.text.size+0<=_;omega
 ·split
  ·show KB_ s.chunks+(s.text++⟨#[32]⟩).size<=_;rw[bs_];show KB_ s.chunks+(s.text.size+1)<=_;omega
  ·omega
theorem Qgb_ (f:Nat->Int->Pb->Pb) (s:Pb) (r j ne:Int) (ti sp:Bool):tot (Jw_ f s r j ne ti sp)=tot (f j.toNat ne s):=by
 unfold tot;rw[xP_,WQ_]
theorem Qf2_ {W:Nat} {ps:List PN} {f:Nat->Int->Pb->Pb} (hf:Qch_ W ps f) (s:Pb × Int) (e:Bv):tot (Jv_ f s e).1<=tot s.1+wB W ps e:=by
 cases e with
 |put t=>show KB_ s.1.chunks+(s.1.text++t).size<=_;rw[bs_];show _<=KB_ s.1.chunks+s.1.text.size+t.size;omega
 |rule v c=>show tot (s.1.rule v c)<=_;unfold tot;rw[xs_,Wy_];exact Nat.le_add_right _ _
 |split a sp b=>exact Qel_ _ _ _ _ _
 |kid j b=>exact hf _ _ _
 |tied j b ti sp=>show tot (Jw_ f s.1 s.2 j b ti sp)<=_;rw[Qgb_];exact hf _ _ _
theorem Qd7_ {W:Nat} {ps:List PN} {f:Nat->Int->Pb->Pb} (hf:Qch_ W ps f):∀(es:List Bv) (s:Pb × Int),tot (VL_ f s es).1<=tot s.1+wS W ps es:=by
 intro es
 induction es with
 |nil=>intro s;exact Nat.le_add_right _ _
 |cons e es ih=>
  intro s;rw[XQ_,Ky_];have h1:=ih (Jv_ f s e);have h2:=Qf2_ hf s e;omega
theorem QhT_ {W:Nat} {ps:List PN} {m:Nat} (hW:2000000<=W) (hF:TreeF ps m) (hp:PNs ps):∀f,Qch_ W ps (QR_ ps f):=by
 intro f
 induction f with
 |zero=>intro k b s;exact Nat.le_add_right _ _
 |succ f ih=>
  intro k b s
  cases a:ps[k]? with
  |none=>unfold QR_;rw[a];exact Nat.le_add_right _ _
  |some p=>
   rw[KX_ a];have h1:=Qd7_ ih (evsB ps p b) (s,-1);have h2:=Gn_ hW hF hp a b;dsimp only at h1;omega
theorem zr_ (W:Nat) (ps:List PN) (a:BA) (k:Nat):wS W ps (evP a (k:Int))<=1+Kk_ ps k * W:=by
 unfold evP;rw[WU_];have:wS W ps [Bv.kid (k:Int) 0]=Kk_ ps k * W:=by rw[Ky_];show Kk_ ps (k:Int).toNat * W+0=_;rw[it_,Nat.add_zero]
 rw[this];split
 ·show 0+(1+0)+_<=_;omega
 ·show 0+_<=_;omega
theorem UO_ {ps:List PN} {m:Nat} (hF:TreeF ps m) (hp:PNs ps) (f:Nat) (a:BA) (k:Nat):tot (XZ_ ps f a (k:Int))<=a.size+1+Kk_ ps k * 2000000:=by
 have h1:=Qd7_ (QhT_ (W:=2000000) oo hF hp f) (evP a (k:Int)) (J9_ a,-1);have h2:=zr_ 2000000 ps a k;have h3:tot (J9_ a)=a.size:=by show 0+a.size=_;omega
 unfold XZ_;dsimp only at h1;omega
theorem VD_ {ps:List PN} {m:Nat} (hF:TreeF ps m) {f:Nat} (c:f<=m+1) {b:BA} (hp:QV_ b=true) {k:Nat} (hk:k < f) (hv:QI_ (Qc_ ps (k:Int))):OkP (XZ_ ps f b (k:Int)):=by
 refine Qgv_ (QiK_ hF f c) _ (J9_ b,-1) 2 ⟨?_,?_,?_,?_,?_,?_,?_,?_,hp⟩ (.inl rfl) ?_
 ·intro d hd;cases hd
 ·exact lz_ _
 ·intro d hd;cases hd
 ·exact lz_ _
 ·intro d hd;cases hd
 ·exact lz_ _
 ·intro d hd;cases hd
 ·exact lz_ _
 ·unfold evP;have a:WW_ ps f 2 [.kid (k:Int) 0]:=⟨⟨⟨oo,oo⟩,hv,oo⟩,trivial⟩;split
  ·exact⟨⟨⟨oo,oo⟩,oo,oo⟩,⟨⟨oo,oo⟩,oo⟩,a⟩
  ·exact a
theorem Qfn_ {s:Pb} (h:OkP s) {b:BA} {m width:Int} (hm:0<=m/\m<=60) (ht:tot s+b.size<=Xj_):PcR (hnOf s b m width):=by
 have f:(s.chunks++[((s.text++b,0,0,false,0):ChunkD)]).length=s.chunks.length+1:=by simp
 have hc:=h.c79;unfold tot at ht;refine { n0:=h.r8,n1:=by show(s.chunks++[_]).length<=80;rw[f];omega,n2:=h.s40,n3:=h.t20,rule:=?_,m:=hm,one:=by show 1<=(s.chunks++[_]).length;rw[f];omega,text:=?_,split:=?_,nest:=?_,span:=?_,few:=?_ }
 ·intro d hd;have:=h.rules d hd;exact⟨oo,oo,oo,oo⟩
 ·intro c a;rcases List.mem_append.1 a with a|a
  ·have:=je_ a;omega
  ·obtain rfl:=ms1_.1 a;show(s.text++b).size<=_;rw[bs_];omega
 ·intro i c hi k;have j:i < s.chunks.length:=by
   have:i+1 < s.chunks.length+1:=(by rw[<-f];exact k);omega
  have hi2:s.chunks[i]? =some c:=by
   have:=hi;rwa[show(hnOf s b m width).l1=s.chunks++[(s.text++b,0,0,false,0)]from rfl,List.getElem?_append_left j]at this
  have g:=(h.chunks c (lm_ hi2)).2;unfold KW_ at g;simp only[Bool.and_eq_true]at g;have:=Yl_ g.1.1;exact⟨this.1,by show _ < (s.rules.length:Int);omega⟩
 ·intro c a;rcases List.mem_append.1 a with a|a
  ·have g:=(h.chunks c a).2;unfold KW_ at g;simp only[Bool.and_eq_true]at g;exact Yl_ g.1.2
  ·obtain rfl:=ms1_.1 a;exact⟨by show(0:Int)<=0;omega,by show(0:Int)<=40;omega⟩
 ·intro d hd;have:=h.spans d hd;have e:(hnOf s b m width).l1.length=s.chunks.length+1:=f;rw[e];refine⟨⟨this.1,this.2.1⟩,by have:=this.2.2.1;omega,?_⟩;have:=this.2.2.2;omega
 ·intro d hd;have:=h.rules d hd;omega
/-! ### Statements -/
inductive Wv
 |line (t:BA)
 |val (pre:BA) (k:Int) (post:BA)
 |all (l:LI)
abbrev Ws:=List BA × Int
structure Wp where
 ps:List PN
 m:Nat
 width:Int
 budget:Int
def WX_ (s:Ws) (ls:List BA) (st:Int):Ws:=(s.1++ls,if st=2 then 2 else s.2)
def KZ_ (Q:Wp) (c:BA) (k:Int) (b:BA) (a:Int):Hn:=hnOf (XZ_ Q.ps (Q.m+1) c k) b a Q.width
def valW (Q:Wp) (s:Ws) (c:BA) (k:Int) (b:BA) (a:Int):Ws:=
 let P:=KZ_ Q c k b a
 let r:=KU_ P Q.budget
 WX_ s (YI_ P.m P.l1 r.1) r.2
def X4_ (ps:List PN) (v:Int):Bool:=(ndAt ps v.toNat).blank
def QC_ (ps:List PN) (v:Int):LI:=(ndAt ps v.toNat).kids
def oneW (Q:Wp) (f:Nat->Int->Ws->Ws) (a:Int) (s:Ws) (v:Int):Ws:=f v.toNat a (if X4_ Q.ps v=true then WX_ s [⟨#[]⟩] 1 else s)
def Wg_ (Q:Wp) (f:Nat->Int->Ws->Ws) (a:Int) (s:Ws) (l:LI):Ws:=l.foldl (oneW Q f a) s
def Qen_ (Q:Wp) (f:Nat->Int->Ws->Ws) (a:Int) (s:Ws):Wv->Ws
 |.line t=>WX_ s [QK_ a++t] 1
 |.val pre k post=>valW Q s pre k post a
 |.all l=>Wg_ Q f (a+2) s l
def runW (Q:Wp) (f:Nat->Int->Ws->Ws) (a:Int) (s:Ws) (es:List Wv):Ws:=es.foldl (Qen_ Q f a) s
theorem Qd5_ (Q:Wp) (f:Nat->Int->Ws->Ws) (a:Int) (s:Ws) (e:Wv) (es:List Wv):runW Q f a s (e::es)=runW Q f a (Qen_ Q f a s e) es:=rfl
def k_ (l:LI) (i:Nat):Int:=l.getD i 0
def brT:BA:=⟨#[125]⟩
def evsW (ps:List PN) (x:PN):List Wv:=
 if x.kind=19 then [.line x.text]
 else if x.kind=12 then (if x.kids=[]then [.line (⟨#[118,97,114,32]⟩++x.text++⟨#[59]⟩)]else [.val (⟨#[118,97,114,32]⟩++x.text++⟨#[32,61]⟩) (k_ x.kids 0) ⟨#[59]⟩])
 else if x.kind=13 then [.val (x.text++⟨#[32,61]⟩) (k_ x.kids 0) ⟨#[59]⟩]
 else if x.kind=14 then [.val ⟨#[]⟩ (k_ x.kids 0) ⟨#[59]⟩]
 else if x.kind=15 then (if x.kids=[]then [.line ⟨#[114,101,116,117,114,110,59]⟩]else [.val ⟨#[114,101,116,117,114,110,32]⟩ (k_ x.kids 0) ⟨#[59]⟩])
 else if x.kind=16 then [.val ⟨#[105,102,32,40]⟩ (k_ x.kids 0) ⟨#[41,32,123]⟩,.all (QC_ ps (k_ x.kids 1))]++((if x.kids.length=3 then [.line ⟨#[125,32,101,108,115,101,32,123]⟩,.all (QC_ ps (k_ x.kids 2))]else [])++[.line brT])
 else if x.kind=17 then [.val ⟨#[119,104,105,108,101,32,40]⟩ (k_ x.kids 0) ⟨#[41,32,123]⟩,.all (QC_ ps (k_ x.kids 1)),.line brT]
 else if x.kind=20 then [.line (x.text++⟨#[40]⟩++Q5_ ((x.kids.take (x.kids.length - 1)).map (QE_ ps))++⟨#[41,32,123]⟩),.all (QC_ ps (k_ x.kids (x.kids.length - 1))),.line brT]
 else if x.kind=21 then [.line (⟨#[99,108,97,115,115,32]⟩++x.text++⟨#[32,123]⟩),.all x.kids,.line brT]
 else []
def ZN_ (Q:Wp):Nat->Nat->Int->Ws->Ws
 |0,_,_,s=>s
 |f+1,k,a,s=>match Q.ps[k]? with|none=>s|some x=>runW Q (ZN_ Q f) a s (evsW Q.ps x)
theorem zK_ {Q:Wp} {f k:Nat} {x:PN} (h:Q.ps[k]? =some x) (a:Int) (s:Ws):ZN_ Q (f+1) k a s=runW Q (ZN_ Q f) a s (evsW Q.ps x):=by
 conv=>lhs;unfold ZN_
 rw[h]
def Ja_ (Q:Wp):Ws:=Wg_ Q (ZN_ Q (Q.m+1)) 0 ([],1) (QC_ Q.ps (Q.m:Int))
def Jk_ (l:List BA):List UInt8:=l.flatMap (fun s=>s.data.toList++[10])
theorem v1_ {l:List SSt} {i j:Nat} {x:SSt} (h:x∈xM_ l i j):x∈l:=by
 unfold xM_ at h;split at h
 ·rename_i a b ha hb;rcases List.mem_or_eq_of_mem_set h with h|rfl
  ·rcases List.mem_or_eq_of_mem_set h with h|rfl
   ·exact h
   ·exact lm_ hb
  ·exact lm_ ha
 ·exact h
theorem QdE_:∀(f:Nat) {l:List SSt} {i:Nat} {x:SSt},x∈YN_ f l i->x∈l:=by
 intro f
 induction f with
 |zero=>intro l i x h;exact h
 |succ f ih=>
  intro l i x h;unfold YN_ at h;split at h
  ·exact v1_ (ih h)
  ·exact h
theorem QdD_:∀(f:Nat) {l:List SSt} {i:Nat} {x:SSt},x∈Y7_ f l i->x∈l:=by
 intro f
 induction f with
 |zero=>intro l i x h;exact h
 |succ f ih=>
  intro l i x h;unfold Y7_ at h;split at h
  ·exact v1_ (ih h)
  ·exact h
theorem QfF_ {l:List SSt} {x y:SSt} (h:x∈Wu_ l y):x∈l\/x=y:=by
 have:=QdE_ _ h;simpa using this
theorem Qhn_ {l:List SSt} {x:SSt} (h:x∈Vr_ l):x∈l:=by
 have h1:=List.mem_of_mem_take (QdD_ _ h);rcases List.mem_or_eq_of_mem_set h1 with h2|rfl
 ·exact h2
 ·cases l with
  |nil=>simp at h1
  |cons a r=>
   rw[List.getD_eq_getElem?_getD,List.getElem?_eq_getElem sm_];exact List.getElem_mem _
def Jr_ (P:Hn) (cost:Int × Int) (x:LI) (h:List SSt) (k:Nat):List SSt:=(List.range k).foldl (Jq_ P cost x) h
theorem VI_ (P:Hn) (cost:Int × Int) (x:LI) (h:List SSt) (k:Nat):Jr_ P cost x h (k+1)=Jq_ P cost x (Jr_ P cost x h k) k:=by
 unfold Jr_;rw[List.range_succ,List.foldl_append];rfl
theorem QdN_ {P:Hn} {cost:Int × Int} {x:LI} {h:List SSt}:∀(k:Nat) {y:SSt},y∈Jr_ P cost x h k->y∈h\/∃q:Nat,q < k/\y.1=x++[(q:Int)]:=by
 intro k
 induction k with
 |zero=>intro y a;exact .inl a
 |succ k ih=>
  intro y a;rw[VI_]at a;have hk:∀{y:SSt},y∈Jr_ P cost x h k->y∈h\/∃q:Nat,q < k+1/\y.1=x++[(q:Int)]:=fun b=>by
   rcases ih b with h3|⟨q,h3,h4⟩
   ·exact .inl h3
   ·exact .inr ⟨q,oo,h4⟩
  unfold Jq_ at a;dsimp only at a;split at a
  ·exact hk a
  ·rcases QfF_ a with b|rfl
   ·exact hk b
   ·exact .inr ⟨k,oo,rfl⟩
theorem xl_ {P:Hn} {cost:Int × Int} {x:LI} {h:List SSt}:∀(k:Nat),(Jr_ P cost x h k).length<=h.length+k:=by
 intro k
 induction k with
 |zero=>exact lr_ _
 |succ k ih=>
  rw[VI_];unfold Jq_;dsimp only;split
  ·omega
  ·rw[QdX_];omega
def HeapR (P:Hn) (h:List SSt):Prop:=∀x∈h,ValR P x.1
theorem ValR.snoc {P:Hn} (hP:PcR P) {v:LI} (h:ValR P v) (hl:v.length < P.l0.length) {d:RuleD} (hd:P.l0[v.length]? =some d) {q:Nat} (hq:q < d.1.toNat):ValR P (v++[(q:Int)]):=by
 refine⟨by simp;omega,fun y a=>?_⟩;rcases List.mem_append.1 a with a|a
 ·exact h.2 y a
 ·obtain rfl:=ms1_.1 a;have:=hP.few d (lm_ hd);omega
theorem HeapR.open_ {P:Hn} (hP:PcR P) {h:List SSt} (hh:HeapR P h) {v:LI} (hv:ValR P v) {d:RuleD} (hd:P.l0[v.length]? =some d) {cost:Int × Int} {k:Nat} (hk:k<=d.1.toNat):HeapR P (Jr_ P cost v h k):=fun x hx=>by
 have hl:=(gs_.1 hd).1;rcases QdN_ k hx with h1|⟨q,h1,h2⟩
 ·exact hh x h1
 ·rw[h2];exact hv.snoc hP hl hd oo
theorem JZ_ {P:Hn} {v:LI} {d:RuleD} (hd:P.l0[v.length]? =some d) (cost:Int × Int) (h:List SSt):QbJ_ P cost v h=Jr_ P cost v h d.1.toNat:=by
 unfold QbJ_;rw[hd];rfl
theorem HeapR.pop {P:Hn} {h:List SSt} (hh:HeapR P h):HeapR P (Vr_ h):=fun x hx=>hh x (Qhn_ hx)
theorem Gg_ {P:Hn} (hP:PcR P):ValR P (Ui_ P.l0):=⟨Nat.le_of_eq (VC_ _),fun y hy=>by
 obtain⟨d,hd,rfl⟩:=List.mem_map.1 hy;have h1:=hP.rule d hd;have h2:=hP.few d hd;omega⟩
theorem qS_ {P:Hn} (hP:PcR P):∀(n:Nat) (best:LI) (cost:Int × Int) (h:List SSt),ValR P best->best.length=P.l0.length->HeapR P h->ValR P (KJ_ P n best cost h).1/\(KJ_ P n best cost h).1.length=P.l0.length:=by
 intro n
 induction n with
 |zero=>intro best cost h a hl b;unfold KJ_;split<;>exact⟨a,hl⟩
 |succ n e=>
  intro best cost h a hl b;unfold KJ_
  cases h with
  |nil=>exact⟨a,hl⟩
  |cons x r=>
   dsimp only;have d:=b x sm_;split
   ·rename_i he;split
    ·exact e _ _ _ d he b.pop
    ·exact e _ _ _ a hl b.pop
   ·rename_i he;have c:x.1.length < P.l0.length:=(by have:=d.1;omega);have hd:=List.getElem?_eq_getElem c;rw[JZ_ hd];exact e _ _ _ a hl (b.pop.open_ hP d hd (lr_ _))
theorem G5_ {P:Hn} (hP:PcR P) (b:Int):ValR P (KU_ P b).1/\(KU_ P b).1.length=P.l0.length:=
 qS_ hP _ _ _ _ (Gg_ hP) (VC_ _) (fun x hx=>by obtain rfl:=ms1_.1 hx;exact⟨lz_ _,fun y hy=>by cases hy⟩)
theorem G6_ (P:Hn) (b:Int):(KU_ P b).2=1\/(KU_ P b).2=2:=by
 have:∀(n:Nat) (best:LI) (cost:Int × Int) (h:List SSt),(KJ_ P n best cost h).2=1\/(KJ_ P n best cost h).2=2:=by
  intro n
  induction n with
  |zero=>intro best cost h;unfold KJ_;split<;>simp
  |succ n ih=>
   intro best cost h;unfold KJ_
   cases h with
   |nil=>simp
   |cons x r=>
    dsimp only;split
    ·split<;>exact ih _ _ _
    ·exact ih _ _ _
 exact this _ _ _ _
/-! ### How much text -/
def szL (l:List BA):Nat:=(l.map (fun s=>s.size+1)).sum
theorem VP_ (s:BA) (l:List BA):szL (s::l)=s.size+1+szL l:=by simp[szL]
theorem Qez_ (a b:List BA):szL (a++b)=szL a+szL b:=by simp[szL]
theorem Ya_ (l:List BA):l.length<=szL l:=by
 induction l with
 |nil=>exact lz_ _
 |cons s l ih=>rw[VP_,List.length_cons];omega
theorem QbO_ {m:Int} {v:LI} (hm:0<=m/\m<=60):∀(l:List ChunkD) (s:BA),(∀c∈l,0<=c.2.2.2.2/\c.2.2.2.2<=40)->szL (Y6_ m v l s)<=s.size+1+(KB_ l+l.length * 102):=by
 intro l
 induction l with
 |nil=>intro s _;show s.size+1+0<=_;omega
 |cons c r ih=>
  intro s hc;have h1:=hc c sm_;have hr:∀d∈r,0<=d.2.2.2.2/\d.2.2.2.2<=40:=fun d hd=>hc d (by simp[hd])
  have e:KB_ (c::r)=c.1.size+KB_ r:=by simp[KB_]
  rw[e,List.length_cons,Nat.add_mul];unfold Y6_;split
  ·rw[VP_,bs_];show _+0<=_;omega
  ·split
   ·rw[VP_,bs_];have h2:=ih (QK_ (m+c.2.2.2.2)) hr;rw[Kc_]at h2;omega
   ·have h2:=ih (s++c.1++(if c.2.2.2.1=true then ⟨#[32]⟩else ⟨#[]⟩)) hr;have h3:(s++c.1++(if c.2.2.2.1=true then (⟨#[32]⟩:BA)else ⟨#[]⟩)).size<=s.size+c.1.size+1:=by
     rw[bs_,bs_];split
     ·exact lr_ _
     ·exact Nat.le_add_right _ _
    omega
theorem xq_ {P:Hn} (a:PcR P) (v:LI):szL (YI_ P.m P.l1 v)<=KB_ P.l1+8300:=by
 have h1:=QbO_ (v:=v) a.m P.l1 (QK_ P.m) a.nest;rw[Kc_]at h1;have h2:=a.m;have h3:=a.n1;unfold YI_;omega
def XS_ (k:Int):Prop:=(12<=k/\k<=17)\/k=19\/k=20\/k=21
inductive StF (ps:List PN):Int->LI->Prop
 |note:StF ps 19 []
 |var0:StF ps 12 []
 |var1 (v:Int) (hv:QI_ (Qc_ ps v)):StF ps 12 [v]
 |set_ (v:Int) (hv:QI_ (Qc_ ps v)):StF ps 13 [v]
 |do_ (v:Int) (hv:QI_ (Qc_ ps v)):StF ps 14 [v]
 |ret0:StF ps 15 []
 |ret1 (v:Int) (hv:QI_ (Qc_ ps v)):StF ps 15 [v]
 |if2 (v b:Int) (hv:QI_ (Qc_ ps v)) (hb:Qc_ ps b=18):StF ps 16 [v,b]
 |if3 (v b c:Int) (hv:QI_ (Qc_ ps v)) (hb:Qc_ ps b=18) (hc:Qc_ ps c=18):StF ps 16 [v,b,c]
 |while_ (v b:Int) (hv:QI_ (Qc_ ps v)) (hb:Qc_ ps b=18):StF ps 17 [v,b]
 |meth (l:LI) (b:Int) (hn:∀u∈l,Qc_ ps u=1) (hb:Qc_ ps b=18):StF ps 20 (l++[b])
 |cls (l:LI) (h:∀v∈l,XS_ (Qc_ ps v)):StF ps 21 l
theorem x5_ {ps:List PN} {l:LI} (h:(Qe_ ps l).all (isK 18)=true):∀v∈l,Qc_ ps v=18:=fun v hv=>by
 have:=List.all_eq_true.1 h _ (List.mem_map.2 ⟨v,hv,rfl⟩);simpa[isK]using this
theorem zF_ {k:Int} (h:Ka_ k=true):XS_ k:=by
 unfold Ka_ at h;unfold XS_;simp only[Bool.or_eq_true,beq_iff_eq]at h;omega
theorem Qf5_ {k:Int} (h:ZR_ k=true):XS_ k:=by
 unfold ZR_ VW_ at h;unfold XS_;simp only[Bool.or_eq_true,beq_iff_eq]at h;rcases h with h|h
 ·have:=Yl_ h;omega
 ·omega
theorem QhS_ {k:Int} (h:xR_ k=true):XS_ k:=by
 unfold xR_ at h;simp only[Bool.or_eq_true,beq_iff_eq]at h;rcases h with h|h
 ·exact zF_ h
 ·unfold XS_;omega
theorem x6_ {ps:List PN} {p:Int->Bool} (hp:∀k,p k=true->XS_ k) {l:LI} (h:(Qe_ ps l).all p=true):∀v∈l,XS_ (Qc_ ps v):=fun v hv=>
 hp _ (List.all_eq_true.1 h _ (List.mem_map.2 ⟨v,hv,rfl⟩))
theorem Qem_ {ps:List PN} {k:Nat} {x:PN} (hb:Za_ ps k=true) (hx:ps[k]? =some x) (hv:XS_ x.kind):StF ps x.kind x.kids:=by
 have a:=(K0_ hb hx).2.1;obtain⟨kd,t,l,z⟩:=x;simp only at a hv |-
 have hl:(Qe_ ps l).length=l.length:=List.length_map ..;have h2:kd=12\/kd=13\/kd=14\/kd=15\/kd=16\/kd=17\/kd=19\/kd=20\/kd=21:=by unfold XS_ at hv;omega
 rcases h2 with rfl|rfl|rfl|rfl|rfl|rfl|rfl|rfl|rfl<;>simp only[kfB,Int.reduceEq,or_self,or_true,true_or,or_false,false_or,if_true,if_false,hl,Bool.and_eq_true,decide_eq_true_eq]at a
 ·obtain⟨h1,d⟩:=a;have g:=Z5_ d
  match l,h1 with
  |[],_=>exact .var0
  |[v],_=>exact .var1 v (g v sm_)
 ·obtain⟨h1,d⟩:=a;have g:=Z5_ d
  match l,h1 with
  |[v],_=>exact .set_ v (g v sm_)
 ·obtain⟨h1,d⟩:=a;have g:=Z5_ d
  match l,h1 with
  |[v],_=>exact .do_ v (g v sm_)
 ·obtain⟨h1,d⟩:=a;have g:=Z5_ d
  match l,h1 with
  |[],_=>exact .ret0
  |[v],_=>exact .ret1 v (g v sm_)
 ·obtain⟨⟨h1,d⟩,h⟩:=a
  match l,h1 with
  |[v,b],_=>
   have f:=x5_ (ps:=ps) (l:=[b]) h;exact .if2 v b (Yx_ d) (f b sm_)
  |[v,b,c],_=>
   have f:=x5_ (ps:=ps) (l:=[b,c]) h;exact .if3 v b c (Yx_ d) (f b sm_) (f c sm_)
 ·obtain⟨⟨h1,d⟩,h⟩:=a
  match l,h1 with
  |[v,b],_=>
   have f:=x5_ (ps:=ps) (l:=[b]) h;exact .while_ v b (Yx_ d) (f b sm_)
 ·obtain rfl:l=[]:=ln_ a;exact .note
 ·rcases List.eq_nil_or_concat l with rfl|⟨r,v,rfl⟩
  ·simp[YF_,Qe_]at a
  ·have d:YF_ (isK 18) (Qe_ ps (r++[v]))=(isK 18 (Qc_ ps v)&&((Qe_ ps (r++[v])).take r.length).all (isK 1)):=Yo_ (by simp[Qe_]) (by simp[Qe_]);rw[List.concat_eq_append]at a |-
   rw[d,Bool.and_eq_true]at a;refine .meth r v (fun u hu=>?_) (by simpa[isK]using a.1);have e:(Qe_ ps (r++[v])).take r.length=Qe_ ps r:=(by simp[Qe_]);rw[e]at a;have f:=List.all_eq_true.1 a.2 (Qc_ ps u) (List.mem_map.2 ⟨u,hu,rfl⟩);simpa[isK]using f
 ·exact .cls l (x6_ (fun k=>zF_) a)
theorem QaH_ {ps:List PN} {k:Nat} {x:PN} (hb:Za_ ps k=true) (hx:ps[k]? =some x) (a:x.kind=18):∀v∈x.kids,XS_ (Qc_ ps v):=by
 have b:=(K0_ hb hx).2.1;rw[a]at b;simp only[kfB,Int.reduceEq,or_self,or_true,true_or,or_false,false_or,if_true,if_false]at b;exact x6_ (fun k=>Qf5_) b
theorem zs_ {ps:List PN} {k:Nat} {x:PN} (hb:Za_ ps k=true) (hx:ps[k]? =some x) (a:x.kind=22):∀v∈x.kids,XS_ (Qc_ ps v):=by
 have b:=(K0_ hb hx).2.1;rw[a]at b;simp only[kfB,Int.reduceEq,or_self,or_true,true_or,or_false,false_or,if_true,if_false]at b;exact x6_ (fun k=>QhS_) b
/-! ### How deep -/
theorem zq_ {ps:List PN} {m:Nat} {l:LI} (h:QX_ ps m=some l):∀i,i < m->l[i]? =some (Kt_ ps i):=by
 induction m generalizing l with
 |zero=>intro i hi;omega
 |succ m ih=>
  intro i hi;have hn:=h;unfold QX_ at h
  cases hd:QX_ ps m with
  |none=>rw[hd]at h;cases h
  |some l0=>
   rw[hd]at h
   cases hx:ps[m]? with
   |none=>rw[hx]at h;cases h
   |some x=>
    rw[hx]at h;simp only at h;split at h
    ·obtain rfl:=oi_ h;have b:=(ZL_ hd).1;by_cases a:i < m
     ·rw[List.getElem?_append_left oo];exact ih hd i a
     ·obtain rfl:i=m:=oo;have hg:(l0++[mxK l0 x.kids x.kids.length+1])[i]? =some (mxK l0 x.kids x.kids.length+1):=(by rw[List.getElem?_append_right oo,b];simp);rw[hg,Gk_ hn hg]
    ·cases h
theorem kz_ (g:Int->Int):∀(l:LI) (d:Int),d<=l.foldl (fun d v=>max d (g v)) d/\∀v∈l,g v<=l.foldl (fun d v=>max d (g v)) d:=by
 intro l
 induction l with
 |nil=>intro d;exact⟨Int.le_refl _,fun v b=>by cases b⟩
 |cons a l ih=>
  intro d;obtain⟨h1,h2⟩:=ih (max d (g a));rw[List.foldl_cons];refine⟨oo,fun v b=>?_⟩;rcases List.mem_cons.1 b with rfl|b
  ·omega
  ·exact h2 v b
def QgB_ (ps:List PN) (m:Nat):Prop:=∃l,QX_ ps (m+1)=some l
theorem qi_ {ps:List PN} (h:Yb_ ps=true):∃m,TreeF ps m/\QgB_ ps m:=by
 obtain⟨m,hF⟩:=QiZ_ h;refine⟨m,hF,?_⟩;unfold Yb_ at h;simp only[Bool.and_eq_true]at h;have a:=h.2.2.1;rw[hF.tree.len,Nat.add_sub_cancel]at a
 cases hd:QX_ ps (m+1)with
 |some l=>exact⟨l,hd⟩
 |none=>rw[Gj_ hd (lr_ _)]at a;cases a
theorem X1_ {ps:List PN} {m k:Nat} (hD:QgB_ ps m) (hk:k < m+1) {x:PN} (hx:ps[k]? =some x):(1<=Kt_ ps k/\Kt_ ps k<=14)/\∀v∈x.kids,v.toNat < k->Kt_ ps v.toNat+1<=Kt_ ps k:=by
 obtain⟨l,hl⟩:=hD;have h1:∃b,QX_ ps (k+1)=some b:=by
  cases hd:QX_ ps (k+1)with
  |some b=>exact⟨b,rfl⟩
  |none=>rw[YC_ hd (oo:k+1<=m+1)]at hl;cases hl
 obtain⟨b,hl'⟩:=h1;have c:=zq_ hl' k oo;refine⟨(ZL_ hl').2 _ (lm_ c),fun v hv f=>?_⟩;have a:=hl';unfold QX_ at a
 cases hd:QX_ ps k with
 |none=>rw[hd]at a;cases a
 |some l0=>
  rw[hd,hx]at a;simp only at a;split at a
  ·obtain rfl:=oi_ a;have e:=(ZL_ hd).1;rw[List.getElem?_append_right oo,e,Nat.sub_self]at c;have d:=oi_ c;have h2:=(kz_ (fun v=>l0.getD v.toNat 0) x.kids 0).2 v hv;have h3:=zq_ hd v.toNat f;rw[<-d];unfold mxK;rw[List.take_of_length_le (lr_ _)];rw[List.getD_eq_getElem?_getD,h3]at h2;exact Int.add_le_add_right h2 1
  ·cases a
/-! ### How much text -/
def wE (W:Nat) (ps:List PN):Wv->Nat
 |.line t=>61+t.size
 |.val pre k post=>10000+pre.size+post.size+Kk_ ps k.toNat * W
 |.all l=>l.length+Kv_ (Kk_ ps) l * W
def wW (W:Nat) (ps:List PN) (es:List Wv):Nat:=(es.map (wE W ps)).sum
theorem vk_ (W:Nat) (ps:List PN) (e:Wv) (es:List Wv):wW W ps (e::es)=wE W ps e+wW W ps es:=by simp[wW]
theorem Va_ (s:Ws) (ls:List BA) (st:Int):szL (WX_ s ls st).1=szL s.1+szL ls:=Qez_ _ _
theorem ve_ (t:BA):szL [t]=t.size+1:=by rw[VP_];rfl
theorem Qbm_ {a:Int} (ha:a<=60) (t:BA):szL [QK_ a++t]<=61+t.size:=by
 rw[ve_,bs_,Kc_];omega
structure Wk (Q:Wp):Prop where
 F:TreeF Q.ps Q.m
 P:PNs Q.ps
 D:QgB_ Q.ps Q.m
theorem UM_ {Q:Wp} (h:Wk Q) (W:Nat) (hW:2100000<=W) (s:Ws) {c b:BA} {k a:Int} (ha:0<=a/\a<=60) (hp:QV_ c=true) (h1:c.size<=40) (h2:b.size<=40) (hk:0<=k/\k < (Q.m+1:Int)) (hv:QI_ (Qc_ Q.ps k)) (d:Kk_ Q.ps k.toNat<=300):PcR (KZ_ Q c k b a)/\szL (valW Q s c k b a).1<=szL s.1+wE W Q.ps (.val c k b):=by
 obtain⟨q,rfl⟩:=eo_ hk.1;have h3:=UO_ h.F h.P (Q.m+1) c q;have h4:Kk_ Q.ps q<=300:=d;have e:=VD_ h.F (f:=Q.m+1) (lr_ _) hp (k:=q) oo hv;have h5:Kk_ Q.ps q * 2000000<=300 * 2000000:=Nat.mul_le_mul_right _ h4;have hr:PcR (KZ_ Q c (q:Int) b a):=Qfn_ e ha (by unfold Xj_;omega);refine⟨hr,?_⟩;have h6:=xq_ hr (KU_ (KZ_ Q c (q:Int) b a) Q.budget).1;have h7:KB_ (KZ_ Q c (q:Int) b a).l1<=tot (XZ_ Q.ps (Q.m+1) c (q:Int))+b.size:=by
  show KB_ (_++[_])<=_;rw[GP_];unfold tot;show _+(_++b:BA).size<=_;rw[bs_];omega
 have h8:Kk_ Q.ps q * 2000000<=Kk_ Q.ps q * W:=Nat.mul_le_mul_left _ oo;unfold valW;dsimp only;rw[Va_];show _<=_+(10000+c.size+b.size+Kk_ Q.ps (q:Int).toNat * W);rw[it_];omega
theorem Xb_ {ps:List PN} {m:Nat} (a:TreeF ps m) {b:Int} (hb:0<=b/\b < (m+1:Int)):(QC_ ps b).length<=12/\Kk_ ps b.toNat=1+Kv_ (Kk_ ps) (QC_ ps b):=by
 obtain⟨x,c⟩:∃x,ps[b.toNat]? =some x:=⟨_,gE (by rw[a.tree.len];omega)⟩;have e:QC_ ps b=x.kids:=by unfold QC_;rw[X7_ c]
 rw[e];exact⟨(a.tree.good _ _ c).1,Vz_ a.tree.good c⟩
theorem UU_ {W:Nat} {Q:Wp} (h:Wk Q) (hW:2100000<=W) {k:Nat} {x:PN} (j:Q.ps[k]? =some x) (hs:XS_ x.kind):wW W Q.ps (evsW Q.ps x)<=Kk_ Q.ps k * W:=by
 have f:=h.F;have m:=f.tree.good;have o:k < Q.m+1:=by have:=(gs_.1 j).1;rw[f.tree.len]at this;exact this
 have g:=Vz_ m j;have p:=(h.P x (lm_ j)).1;have n:=(m k x j).1;have d:∀v∈x.kids,0<=v/\v < (Q.m+1:Int):=fun v h=>by have h1:=(m k x j).2 v h;omega
 have i:∀v∈x.kids,1<=Kk_ Q.ps v.toNat:=fun v h=>by
  have h1:=(m k x j).2 v h;have h2:=Vz_ m (k:=v.toNat) (List.getElem?_eq_getElem (by rw[f.tree.len];omega));omega
 have hV:=Qem_ (f.node k o) j hs;obtain⟨kd,t,l,z⟩:=x;dsimp only at hV g p n i d;rw[g,Nat.add_mul,Nat.one_mul];have e:∀(a b:BA),(a++b).size=a.size+b.size:=fun _ _=>bs_
 cases hV with
 |note=>show 61+t.size+0<=_;omega
 |var0=>show 61+((⟨#[118,97,114,32]⟩++t++⟨#[59]⟩:BA)).size+0<=_;rw[e,e];show 61+(4+t.size+1)+0<=_;omega
 |var1 v g=>show 10000+(⟨#[118,97,114,32]⟩++t++⟨#[32,61]⟩:BA).size+1+Kk_ Q.ps v.toNat * W+0<=_;rw[e,e,KC_,Nat.add_mul];show 10000+(4+t.size+2)+1+Kk_ Q.ps v.toNat * W+0<=_;omega
 |set_ v g=>show 10000+(t++⟨#[32,61]⟩:BA).size+1+Kk_ Q.ps v.toNat * W+0<=_;rw[e,KC_,Nat.add_mul];show 10000+(t.size+2)+1+Kk_ Q.ps v.toNat * W+0<=_;omega
 |do_ v g=>show 10000+0+1+Kk_ Q.ps v.toNat * W+0<=_;rw[KC_,Nat.add_mul];omega
 |ret0=>show 61+7+0<=_;omega
 |ret1 v g=>show 10000+7+1+Kk_ Q.ps v.toNat * W+0<=_;rw[KC_,Nat.add_mul];omega
 |if2 v b g hb=>
  have h1:=Xb_ f (d b sm_);show 10000+4+3+Kk_ Q.ps v.toNat * W+((QC_ Q.ps b).length+Kv_ (Kk_ Q.ps) (QC_ Q.ps b) * W+(61+1+0))<=_;rw[KC_,KC_,h1.2,Nat.add_mul,Nat.add_mul,Nat.add_mul];omega
 |if3 v b c g hb hc=>
  have h1:=Xb_ f (d b sm_);have h2:=Xb_ f (d c sm_);show 10000+4+3+Kk_ Q.ps v.toNat * W+((QC_ Q.ps b).length+Kv_ (Kk_ Q.ps) (QC_ Q.ps b) * W+(61+8+((QC_ Q.ps c).length+Kv_ (Kk_ Q.ps) (QC_ Q.ps c) * W+(61+1+0))))<=_;rw[KC_,KC_,KC_,h1.2,h2.2,Nat.add_mul,Nat.add_mul,Nat.add_mul,Nat.add_mul,Nat.add_mul];omega
 |while_ v b g hb=>
  have h1:=Xb_ f (d b sm_);show 10000+7+3+Kk_ Q.ps v.toNat * W+((QC_ Q.ps b).length+Kv_ (Kk_ Q.ps) (QC_ Q.ps b) * W+(61+1+0))<=_;rw[KC_,KC_,h1.2,Nat.add_mul,Nat.add_mul,Nat.add_mul];omega
 |meth r b hn hb=>
  have h1:=Xb_ f (d b sm_);have e1:(r++[b]).length - 1=r.length:=by simp
  have e2:(r++[b]).take r.length=r:=by simp
  have e3:k_ (r++[b]) r.length=b:=by simp[k_]
  have h3:=Wc_ (W:=1048576) (r.map (QE_ Q.ps)) (fun t p=>by obtain⟨u,_,rfl⟩:=List.mem_map.1 p;exact Yt_ h.P _);rw[List.length_map]at h3;have h4:=vE_ (ps:=Q.ps) (l:=r) (fun u hu=>i u (by simp[hu]));have h5:r.length * (1048576+2)<=Kv_ (Kk_ Q.ps) r * W:=Nat.mul_le_mul h4 oo;have e5:Kv_ (Kk_ Q.ps) [b]=Kk_ Q.ps b.toNat:=by simp[Kv_]
  show 61+(t++⟨#[40]⟩++Q5_ (((r++[b]).take ((r++[b]).length - 1)).map (QE_ Q.ps))++⟨#[41,32,123]⟩:BA).size+((QC_ Q.ps (k_ (r++[b]) ((r++[b]).length - 1))).length+Kv_ (Kk_ Q.ps) (QC_ Q.ps (k_ (r++[b]) ((r++[b]).length - 1))) * W+(61+1+0))<=_;rw[e1,e2,e3,e,e,e,UQ_,e5,h1.2,Nat.add_mul,Nat.add_mul];show 61+(t.size+1+(Q5_ (r.map (QE_ Q.ps))).size+3)+_<=_;omega
 |cls l hl=>show 61+(⟨#[99,108,97,115,115,32]⟩++t++⟨#[32,123]⟩:BA).size+(l.length+Kv_ (Kk_ Q.ps) l * W+(61+1+0))<=_;rw[e,e];show 61+(6+t.size+2)+_<=_;omega
def okW (Q:Wp) (f:Nat) (a:Int):Wv->Prop
 |.line _=>True
 |.val pre k post=>(QV_ pre=true/\pre.size<=40)/\(QV_ post=true/\post.size<=40)/\(0<=k/\k < (f:Int))/\QI_ (Qc_ Q.ps k)
 |.all l=>∀v∈l,(0<=v/\v < (f:Int))/\XS_ (Qc_ Q.ps v)/\a+2+2 * Kt_ Q.ps v.toNat<=28
theorem GX_ {ps:List PN} {v:Int} (h:0<=v):Qc_ ps v=Qc_ ps ((v.toNat:Nat):Int):=by rw[Int.toNat_of_nonneg h]
theorem Qcy_ {Q:Wp} (h:Wk Q) {f:Nat} {a:Int} {k:Nat} {x:PN} (j:Q.ps[k]? =some x) (hk:k < f+1) (ha:a+2 * Kt_ Q.ps k<=28) {b:Int} (hb:b∈x.kids) (c:Qc_ Q.ps b=18):okW Q f a (.all (QC_ Q.ps b)):=by
 have hg:=h.F.tree.good;have i:k < Q.m+1:=by have:=(gs_.1 j).1;rw[h.F.tree.len]at this;exact this
 have h1:=(hg k x j).2 b hb;obtain⟨y,d⟩:∃y,Q.ps[b.toNat]? =some y:=⟨_,gE (by rw[h.F.tree.len];omega)⟩;have e:QC_ Q.ps b=y.kids:=by unfold QC_;rw[X7_ d]
 have l:y.kind=18:=by rw[GX_ oo,Qr_ d]at c;exact c
 have m:=(X1_ h.D i j).2 b hb oo;intro v g;rw[e]at g;have h2:=(hg b.toNat y d).2 v g;have n:=(X1_ h.D oo d).2 v g oo;exact⟨oo,QaH_ (h.F.node b.toNat oo) d l v g,oo⟩
theorem QcK_ {Q:Wp} (h:Wk Q) {f:Nat} {a:Int} {k:Nat} {x:PN} (o:Q.ps[k]? =some x) (hs:XS_ x.kind) (hk:k < f+1) (ha:a+2 * Kt_ Q.ps k<=28):∀e∈evsW Q.ps x,okW Q f a e:=by
 have hg:=h.F.tree.good;have m:k < Q.m+1:=by have:=(gs_.1 o).1;rw[h.F.tree.len]at this;exact this
 have g:∀v∈x.kids,0<=v/\v < (f:Int):=fun v i=>by have h1:=(hg k x o).2 v i;omega
 have p:=fun b s j=>Qcy_ h o hk ha (b:=b) s j
 have q:=(X1_ h.D m o).2;have n:=(K0_ (h.F.node k m) o).1;have hV:=Qem_ (h.F.node k m) o hs;obtain⟨kd,t,l,z⟩:=x;dsimp only at hV p n g q;have nm:(kd=12\/kd=13)->QV_ t=true/\t.size<=30:=fun y=>zM_ (by
  unfold Zi_ at n;rwa[ip_ oo]at n)
 cases hV with
 |note=>intro e d;obtain rfl:=ms1_.1 d;trivial
 |var0=>intro e d;obtain rfl:=ms1_.1 d;trivial
 |var1 v i=>
  intro e d;obtain rfl:=ms1_.1 d;obtain⟨h1,h2⟩:=nm (.inl rfl);refine⟨⟨Zh_ (Zh_ rfl h1) rfl,?_⟩,⟨rfl,by show 1<=40;omega⟩,g v sm_,i⟩;rw[bs_,bs_];show 4+t.size+2<=40;omega
 |set_ v i=>
  intro e d;obtain rfl:=ms1_.1 d;obtain⟨h1,h2⟩:=nm (.inr rfl);refine⟨⟨Zh_ h1 rfl,?_⟩,⟨rfl,by show 1<=40;omega⟩,g v sm_,i⟩;rw[bs_];show t.size+2<=40;omega
 |do_ v i=>intro e d;obtain rfl:=ms1_.1 d;exact⟨⟨rfl,by show 0<=40;omega⟩,⟨rfl,by show 1<=40;omega⟩,g v sm_,i⟩
 |ret0=>intro e d;obtain rfl:=ms1_.1 d;trivial
 |ret1 v i=>intro e d;obtain rfl:=ms1_.1 d;exact⟨⟨rfl,by show 7<=40;omega⟩,⟨rfl,by show 1<=40;omega⟩,g v sm_,i⟩
 |if2 v b i j=>
  intro e d;have d:e∈[Wv.val ⟨#[105,102,32,40]⟩ v ⟨#[41,32,123]⟩,.all (QC_ Q.ps b),.line brT]:=d;simp only[List.mem_cons,List.not_mem_nil,or_false]at d;rcases d with rfl|rfl|rfl
  ·exact⟨⟨rfl,by show 4<=40;omega⟩,⟨rfl,by show 3<=40;omega⟩,g v sm_,i⟩
  ·exact p b sm_ j
  ·trivial
 |if3 v b c i j h19=>
  intro e d;have d:e∈[Wv.val ⟨#[105,102,32,40]⟩ v ⟨#[41,32,123]⟩,.all (QC_ Q.ps b),.line ⟨#[125,32,101,108,115,101,32,123]⟩,.all (QC_ Q.ps c),.line brT]:=d;simp only[List.mem_cons,List.not_mem_nil,or_false]at d;rcases d with rfl|rfl|rfl|rfl|rfl
  ·exact⟨⟨rfl,by show 4<=40;omega⟩,⟨rfl,by show 3<=40;omega⟩,g v sm_,i⟩
  ·exact p b sm_ j
  ·trivial
  ·exact p c sm_ h19
  ·trivial
 |while_ v b i j=>
  intro e d;have d:e∈[Wv.val ⟨#[119,104,105,108,101,32,40]⟩ v ⟨#[41,32,123]⟩,.all (QC_ Q.ps b),.line brT]:=d;simp only[List.mem_cons,List.not_mem_nil,or_false]at d;rcases d with rfl|rfl|rfl
  ·exact⟨⟨rfl,by show 7<=40;omega⟩,⟨rfl,by show 3<=40;omega⟩,g v sm_,i⟩
  ·exact p b sm_ j
  ·trivial
 |meth r b hn j=>
  intro e d;have e1:(r++[b]).length - 1=r.length:=by simp
  have e3:k_ (r++[b]) ((r++[b]).length - 1)=b:=by rw[e1];simp[k_]
  have d:e∈[Wv.line (t++⟨#[40]⟩++Q5_ (((r++[b]).take ((r++[b]).length - 1)).map (QE_ Q.ps))++⟨#[41,32,123]⟩),.all (QC_ Q.ps (k_ (r++[b]) ((r++[b]).length - 1))),.line brT]:=d;rw[e3]at d;simp only[List.mem_cons,List.not_mem_nil,or_false]at d;rcases d with rfl|rfl|rfl
  ·trivial
  ·exact p b sm_ j
  ·trivial
 |cls l hl=>
  intro e d;have d:e∈[Wv.line (⟨#[99,108,97,115,115,32]⟩++t++⟨#[32,123]⟩),.all l,.line brT]:=d;simp only[List.mem_cons,List.not_mem_nil,or_false]at d;rcases d with rfl|rfl|rfl
  ·trivial
  ·intro v i;have h1:=(hg k _ o).2 v i;have h2:=q v i oo;exact⟨g v i,hl v i,oo⟩
  ·trivial
def kb_ (Q:Wp) (f:Nat) (go:Nat->Int->Ws->Ws):Prop:=∀(j:Nat) (a:Int) (s:Ws),j < f->XS_ (Qc_ Q.ps (j:Int))->(0<=a/\a+2 * Kt_ Q.ps j<=28)->szL s.1+Kk_ Q.ps j * 2100000<=632000000->szL (go j a s).1<=szL s.1+Kk_ Q.ps j * 2100000
theorem QfK_ {Q:Wp} {f:Nat} {go:Nat->Int->Ws->Ws} (b:kb_ Q f go) {a:Int} {s:Ws} {v:Int} (ha:0<=a) (c:(0<=v/\v < (f:Int))/\XS_ (Qc_ Q.ps v)/\a+2 * Kt_ Q.ps v.toNat<=28) (hz:szL s.1+1+Kk_ Q.ps v.toNat * 2100000<=632000000):szL (oneW Q go a s v).1<=szL s.1+1+Kk_ Q.ps v.toNat * 2100000:=by
 have h1:szL (if X4_ Q.ps v=true then WX_ s [⟨#[]⟩] 1 else s).1<=szL s.1+1:=by
  split
  ·rw[Va_,ve_];exact lr_ _
  ·omega
 have h2:=b v.toNat a (if X4_ Q.ps v=true then WX_ s [⟨#[]⟩] 1 else s) oo (by rw[<-GX_ c.1.1];exact c.2.1) ⟨ha,c.2.2⟩ oo;unfold oneW;omega
theorem xa_ {Q:Wp} {f:Nat} {b:Nat->Int->Ws->Ws} (c:kb_ Q f b) {a:Int} (ha:0<=a):∀(l:LI) (s:Ws),(∀v∈l,(0<=v/\v < (f:Int))/\XS_ (Qc_ Q.ps v)/\a+2 * Kt_ Q.ps v.toNat<=28)->szL s.1+(l.length+Kv_ (Kk_ Q.ps) l * 2100000)<=632000000->szL (Wg_ Q b a s l).1<=szL s.1+(l.length+Kv_ (Kk_ Q.ps) l * 2100000):=by
 intro l
 induction l with
 |nil=>intro s _ _;exact Nat.le_add_right _ _
 |cons v l ih=>
  intro s hv hz;have e:Kv_ (Kk_ Q.ps) (v::l)=Kk_ Q.ps v.toNat+Kv_ (Kk_ Q.ps) l:=by simp[Kv_]
  rw[e,Nat.add_mul,List.length_cons]at hz;have h1:=QfK_ c (s:=s) ha (hv v sm_) oo;have h2:=ih (oneW Q b a s v) (fun u hu=>hv u (List.mem_cons_of_mem _ hu)) oo;rw[e,Nat.add_mul,List.length_cons];show szL (Wg_ Q b a (oneW Q b a s v) l).1<=_;omega
theorem xH_ {Q:Wp} (h:Wk Q) {f:Nat} (hf:f<=Q.m+1) {go:Nat->Int->Ws->Ws} (b:kb_ Q f go) {a:Int} (ha:0<=a/\a<=26) {s:Ws} {e:Wv} (he:okW Q f a e) (hz:szL s.1+wE 2100000 Q.ps e<=632000000):szL (Qen_ Q go a s e).1<=szL s.1+wE 2100000 Q.ps e:=by
 cases e with
 |line t=>
  show szL (WX_ s [QK_ a++t] 1).1<=szL s.1+(61+t.size);rw[Va_];have:=Qbm_ (a:=a) oo t;omega
 |val pre k post=>
  obtain⟨⟨h1,h2⟩,⟨h3,h4⟩,h5,h6⟩:=he;have c:szL s.1+(10000+pre.size+post.size+Kk_ Q.ps k.toNat * 2100000)<=632000000:=hz;exact(UM_ h 2100000 (lr_ _) s (a:=a) ⟨oo,oo⟩ h1 h2 h4 oo h6 oo).2
 |all l=>exact xa_ b oo l s (fun v hv=>he v hv) hz
theorem QfT_ {Q:Wp} (h:Wk Q) {f:Nat} (hf:f<=Q.m+1) {b:Nat->Int->Ws->Ws} (c:kb_ Q f b) {a:Int} (ha:0<=a/\a<=26):∀(es:List Wv) (s:Ws),(∀e∈es,okW Q f a e)->szL s.1+wW 2100000 Q.ps es<=632000000->szL (runW Q b a s es).1<=szL s.1+wW 2100000 Q.ps es:=by
 intro es
 induction es with
 |nil=>intro s _ _;exact Nat.le_add_right _ _
 |cons e es ih=>
  intro s he hz;rw[vk_]at hz |-
  have h1:=xH_ h hf c ha (he e sm_) (s:=s) oo;rw[Qd5_];have h2:=ih (Qen_ Q b a s e) (fun u hu=>he u (List.mem_cons_of_mem _ hu)) oo;omega
theorem vG_ {Q:Wp} (h:Wk Q) {k:Nat} (hk:k < Q.m+1):1<=Kt_ Q.ps k:=by
 obtain⟨x,hx⟩:∃x,Q.ps[k]? =some x:=⟨_,gE (by rw[h.F.tree.len];omega)⟩;exact(X1_ h.D hk hx).1.1
theorem Wq_ {Q:Wp} (h:Wk Q):∀f,f<=Q.m+1->kb_ Q f (ZN_ Q f):=by
 intro f
 induction f with
 |zero=>intro _ j a s hj;omega
 |succ f ih=>
  intro hf j a s hj hs ha hz;obtain⟨x,b⟩:∃x,Q.ps[j]? =some x:=⟨_,gE (by rw[h.F.tree.len];omega)⟩;have h1:=vG_ h (k:=j) oo;rw[zK_ b];rw[Qr_ b]at hs;have hw:=UU_ h (lr_ 2100000) b hs;have h2:=QfT_ h oo (ih oo) (a:=a) ⟨ha.1,oo⟩ (evsW Q.ps x) s (QcK_ h b hs hj ha.2) oo;omega
end Go.Proofs.YtbiijipkgfpgoaaGreatDoor

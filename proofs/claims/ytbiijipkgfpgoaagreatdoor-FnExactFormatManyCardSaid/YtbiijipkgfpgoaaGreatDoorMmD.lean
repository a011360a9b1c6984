/-
  Put together by program.
-/
import Derived.Test.YtbiijipkgfpgoaaGreatDoorMmC
import Derived.Lib.AppendIntMem
import Derived.Lib.ItoaLen
import Derived.Deep.RegionHeld3
import Derived.Laws.AppendOwnNone
set_option maxRecDepth 100000
set_option linter.all false
set_option maxHeartbeats 25600000
open Go.Proofs.Tryz
open Go.Value renaming int→I_,slice→S_,string→T_,bool→B_,pointer→P_,agg→A_,tuple→U_
open Go.IntKind renaming i64→j_
open Go.Obj renaming cells→C_
open Go.Ending renaming returned→R_
open List renaming length→η
open Go renaming World→Ω,Calls→Δ,Value→Υ
open Go.Proofs.Tryz renaming prog→π
open Go.RowKit renaming Hid→Ψ
open Bool renaming true→τ,false→φ,and_eq_true→τa,true_and→τb,or_true→τo,and_true→τc,and_false→φb
open Option renaming none→ν,some→σ
namespace Go.Proofs.YtbiijipkgfpgoaaGreatDoor
open Go.RowKit
variable (m:Int)(e:OA)(f q:Nat)(g:BA)(w:Ω)(h:List SgP)(i:Int)(j:BA)(o:Int)(d:Bool)(p:Int)(r:List PN){s:BA}{v:Bool}{a b n:Int}{l:LI}{t:List PN}{k u:Nat}{y:OA}{x:PN}{c:UInt8}{z:Ω}
def Kv_ (g:Nat->Nat) (l:LI):Nat:=(l.map (λj=>g j.toNat)).sum
def UQ_ (g:Nat->Nat) (a b:LI):Kv_ g (a++b)=Kv_ g a+Kv_ g b:=by simp[Kv_]
def visF (ps:List PN):Nat->Nat->Nat
 |0,_=>0
 |f+1,k=>match ps[k]? with|none=>0|some p=>1+Kv_ (visF ps f) p.kids
def QeO_ (hg:Good t):∀(f k:Nat),k<f->visF t f k=visF t (k+1) k:=by
 intro f
 induction f using Nat.strongRecOn with
 |ind f c=>
  intro k hk;obtain⟨a,rfl⟩:∃a,f=a+1:=⟨f-1,oo⟩
  cases b:t[k]? with
  |none=>simp[visF,b]
  |some p=>
   have hp:=(hg k p b).2;simp only[visF,b];congr 1;unfold Kv_;congr 1;apply List.map_congr_left;intro v hv;have d:=hp v hv;rw[c a oo v.toNat oo];by_cases e:k=a
   ·subst e;rw[c k oo v.toNat oo]
   rw[c k oo v.toNat oo]
def Kk_ (ps:List PN) (k:Nat):Nat:=visF ps (k+1) k
def Vz_ (hg:Good t) {k:Nat} (hx:t[k]? =σ x):Kk_ t k=1+Kv_ (Kk_ t) x.kids:=by
 have:Kk_ t k=1+Kv_ (visF t k) x.kids:=by
  show visF t (k+1) k=_;simp only[visF,hx]
 rw[this];congr 1;unfold Kv_;congr 1;apply List.map_congr_left;intro v hv;have:=(hg k x hx).2 v hv;exact QeO_ hg k v.toNat oo
def sumV (ps:List PN) (m:Nat):Nat:=((List.range m).map (Kk_ ps)).sum
def xK_ (m:Nat):sumV r (m+1)=sumV r m+Kk_ r m:=by unfold sumV;rw[List.range_succ];simp
def Qex_ (hg:Good t):∀m,m<=η t->sumV t m=m+Kv_ (Kk_ t) (QU_ t m):=by
 intro m
 induction m with
 |zero=>intro _;simp[sumV,Kv_,QU_]
 |succ m ih=>
  intro hm;obtain⟨p,hx⟩:∃p,t[m]? =σ p:=⟨_,gE oo⟩;rw[xK_,ih oo,XN_ hx,UQ_,Vz_ hg hx];omega
def Qbh_ (hg:Good t):∀m v,v∈QU_ t m->0<=v/\v+1<(m:Int)+0\/0<=v/\v<(m:Int)-1:=by
 intro m
 induction m with
 |zero=>intro v a;simp[QU_]at a
 |succ m ih=>
  intro v a
  cases b:t[m]? with
  |none=>
   have:QU_ t (m+1)=QU_ t m:=(by unfold QU_;rw[List.take_add_one,b];simp);rw[this]at a;have:=ih v a;omega
  |some p=>
   rw[XN_ b]at a;rcases List.mem_append.1 a with a|a
   ·have:=ih v a;omega
   have:=(hg m p b).2 v a;omega
def jM_:((List.range f).map (λ(j:Nat)=>(j:Int))).count (q:Int)=if q<f then 1 else 0:=by
 induction f with
 |zero=>simp
 |succ f ih=>
  rw[List.range_succ,List.map_append,List.count_append,ih];simp only[List.map_cons,List.map_nil,List.count_singleton];by_cases h:q=f
  ·subst h;simp
  have:((f:Int)==(q:Int))=φ:=(by rw[bn_];omega);rw[this];simp only[Bool.false_eq_true,if_false,Nat.add_zero];by_cases h2:q<f
  ·rw[ip_ h2,ip_ oo]
  rw[in_ h2,in_ oo]
def QfN_ {l r:List Nat} (h:l.Perm r):l.sum=r.sum:=by
 induction h with
 |nil=>rfl
 |cons x _ ih=>simp[ih]
 |swap x y l=>simp only[List.sum_cons];omega
 |trans _ _ ih1 ih2=>rw[ih1,ih2]
def Qdh_ (hg:Good t) (hu:Uf_ t (k+1) k):(QU_ t (k+1)).Perm ((List.range k).map (λ(j:Nat)=>(j:Int))):=by
 rw[List.perm_iff_count];intro a;by_cases ha:0<=a/\a<(k:Int)
 ·obtain⟨q,rfl⟩:=eo_ ha.1;have h1:=hu q oo;rw[h1];rw[jM_,ip_ oo]
 have h1:(QU_ t (k+1)).count a=0:=by
  rw[List.count_eq_zero];intro b;have:=Qbh_ hg (k+1) a b;omega
 have h2:((List.range k).map (λ(j:Nat)=>(j:Int))).count a=0:=by
  rw[List.count_eq_zero];intro b;obtain⟨j,hj,rfl⟩:=List.mem_map.1 b;rw[List.mem_range]at hj;omega
 rw[h1,h2]
def xW_ (hg:Good t) (hl:η t=k+1) (hu:Uf_ t (k+1) k):Kk_ t k=k+1:=by
 have h1:=Qex_ hg (k+1) oo;have h2:Kv_ (Kk_ t) (QU_ t (k+1))=sumV t k:=by
  unfold Kv_ sumV;rw[QfN_ ((Qdh_ hg hu).map (λj:Int=>Kk_ t j.toNat)),List.map_map]
  rfl
 rw[h2,xK_]at h1;omega
def vZ_ (l:List UInt8):∀a:List (List UInt8),(X6_ a l).length<=η l:=by
 intro a
 induction a with
 |nil=>simp[X6_]
 |cons m a ih=>
  by_cases b:m.isPrefixOf l=τ
  ·rw[Vn_ b];exact(List.isPrefixOf_iff_prefix.1 b).length_le
  rw[JS_ b];exact ih
def QfX_ (l:List UInt8) (q:Nat):(Kq_ l q).2.2.2<=η l:=by
 unfold Kq_;split
 ·exact v7_ l
 split
 ·exact lz_ _
 split
 ·split
  ·exact lz_ _
  exact K3_ _ _
 split
 ·split
  ·exact lz_ _
  exact K3_ _ _
 split
 ·exact QdY_ _
 exact vZ_ _ _
def vm_ (w:Ω) (R:List SgP × Int × Bool) (e:Ending) (w':Ω):Prop:=
 ∃(A:OA) (c:Nat),e=R_ (U_ #[S_ A R.1.length c,I_ j_ R.2.1,B_ R.2.2])/\Mine w' w.heap.size 89 4 A R.1.length c (R.1.flatMap ZP_)/\Λ w w'
def Qgx_ (w:Ω) (a:Int) (b:BA) (c:Int) (d:Bool) (t:TypeId):∀j v,[I_ j_ a,T_ b,I_ j_ c,B_ d][j]? =σ v->(w.alloc (C_ #[I_ j_ a,T_ b,I_ j_ c,B_ d] t)).cell? ((⟨w.heap.size,0,ν⟩:Addr).add j)=σ v:=by
 intro j v e;have f:=Blk.new w t #[I_ j_ a,T_ b,I_ j_ c,B_ d]
 match j,e with
 |0,e=>obtain rfl:=oi_ e;exact f.cell 0
 |1,e=>obtain rfl:=oi_ e;exact f.cell 1
 |2,e=>obtain rfl:=oi_ e;exact f.cell 2
 |3,e=>obtain rfl:=oi_ e;exact f.cell 3
 |j+4,e=>simp at e
def Qgy_:∀u∈[I_ j_ m,T_ g,I_ j_ i,B_ d],u.oneCell'=τ:=by
 intro u hu;simp at hu;rcases hu with rfl|rfl|rfl|rfl<;>rfl
def Qef_:(h++[(i,j,o,d)]).flatMap ZP_=h.flatMap ZP_++[I_ j_ i,T_ j,I_ j_ o,B_ d]:=by
 simp[ZP_]
def Qgi_ {w:Ω} {B:Nat} {e:TypeId} {s:Nat} {v:Υ} {n:Nat} {xs:List Υ} (h:w.ownsRow B e s v n xs) {g:Nat} (hg:v.ownBlock=σ g):B<=g:=by
 rcases h.2 with⟨rfl,_⟩|⟨g',cap,a,rfl,b,_⟩
 ·simp[Value.ownBlock]at hg
 simp[Value.ownBlock]at hg;omega
def Qda_:(prog.info? 89).map (λi=>(i.zero,i.size,i.bytes))=σ (σ (A_ #[I_ j_ 0,T_ ⟨#[]⟩,I_ j_ 0,B_ φ]),4,40):=by kernel_rfl
def vw_ (h:c=32):((c.toNat:Int)==32)=τ:=by rw[h];rfl
def vx_ (h:¬c=32):((c.toNat:Int)==32)=φ:=by
 rw[bn_];intro e;apply h;apply UInt8.toNat_inj.1;show c.toNat=32;omega
def Qdp_ (h:c=10):((c.toNat:Int)==10)=τ:=by rw[h];rfl
def WM_ (hs:g.size<=1048576):Δ π 50 #[T_ g] w (vm_ w (KV_ g)):=by
 by_cases h3:3000<g.size
 ·rw[zV_ h3];have t:=ZA_ w 89 4;go_in;go_wp2;refine bodyPost_ret rs_ rfl ?_;exact⟨_,_,rfl,t,grow_⟩
 have y:Ψ (KO_ g 0 0 [] (KV_ g)):=G7_ oo;have h4:g.size<=3000:=oo;generalize KV_ g=R at y |-
 obtain⟨i0,hi,p,H,Q⟩:=info_parts Qda_;have S:=h_<|ai_ hi<|ai_ p<|ai_ H Q;have t:Ψ (Mine (w.alloc (C_ #[] 89)) w.heap.size 89 4 (σ ⟨w.heap.size,0,ν⟩) ([]:List SgP).length 0 (([]:List SgP).flatMap ZP_)):=ZA_ w 89 4;have E:Λ w (w.alloc (C_ #[] 89)):=grow_;go_in;go_wp2;generalize w.alloc (C_ #[] 89)=w1 at t E |-
 go_loopw [5,6,7] (λo i b wr=>∃(k br:Nat) (acc:List SgP) (A:OA) (c:Nat),k<=g.size/\br<=k/\η acc<=k/\o=S_ A (η acc) c/\i=I_ j_ k/\b=I_ j_ br/\Ψ (KO_ g k br acc R)/\Ψ (Mine wr w.heap.size 89 4 A (η acc) c (acc.flatMap ZP_))/\Λ w wr) (λ_ i _ _=>g.size-(intOf i).toNat)
 ·exact⟨0,0,[],_,_,oo,oo,by simp,rfl,rfl,rfl,y,t,E⟩
 obtain⟨k,br,acc,A,c,hk,ac,Y,rfl,rfl,rfl,v,B,D⟩:=hrel;obtain⟨m,T⟩:=ex_ (η acc);rw[T]at B Y;rw[T];have j:=h_ T;by_cases l:k<g.size
 ·by_cases a:g[k]=32
  ·have K:Ψ (KO_ g (k+1) br acc R):=J5_ v l a;have X:=vw_ a;go_wp2;go_roundw
   ·exact⟨k+1,br,acc,A,c,oo,oo,by have:=j.o;omega,by rw[j.o],by go_num,rfl,K,by rw[j.o];exact B,D⟩
   exact ms_
  have X:=vx_ a;by_cases d:g[k]=10
  ·have K:Ψ (KO_ g (k+1) (br+1) acc R):=G8_ v l d;have V:=Qdp_ d;go_wp2;go_roundw
   ·exact⟨k+1,br+1,acc,A,c,oo,oo,by have:=j.o;omega,by rw[j.o],by go_num,by go_num,K,by rw[j.o];exact B,D⟩
   exact ms_
  have V:=Qhp_ d;have L:=h_ (λhz=>WF_ v l a d hz);have M:Ψ (∀(kd:Int) (x:BA) (q:Int) (z:Nat),Kq_ (g.data.toList.drop k) k=(kd,x,q,z)->0<z->KO_ g (k+z) 0 (acc++[(kd,x,q,decide (1<br))]) R):=(show ∀(kd:Int) (x:BA) (q:Int) (z:Nat),_->_->_ from λkd x q z h h0=>G9_ v l a d h h0);have I:=h_ (λW=>xE_ g k W l hs);have r:=QfX_ (g.data.toList.drop k) k;rw[Zl_]at r;revert L M I r;generalize Kq_ (g.data.toList.drop k) k=Z;obtain⟨kd,x,q,z⟩:=Z;intro L M I r;simp only at r;by_cases p:z=0
  ·subst p;obtain rfl:=L.o rfl;go_wp2_with fail;refine mb_ (I.o _) ?_;intro w2 J;have f:=Qb_ D J;have O:=f.size;have t:=ZA_ (w2.alloc (C_ #[I_ j_ kd,T_ x,I_ j_ q,B_ φ] 89)) 89 4;simp only[ws_]at t;go_wp2;refine bodyPost_ret rs_ rfl ?_;exact⟨_,_,rfl,Mine.more (B':=w.heap.size) t oo,grow_⟩
  have K:Ψ (KO_ g (k+z) 0 (acc++[(kd,x,q,decide (1<br))]) R):=M.o kd x q z rfl oo;go_wp2_with fail;refine mb_ (I.o _) ?_;intro w2 J;have f:=Qb_ D J;have O:=f.size;have C:=h_ (B.o.next J);have H:¬(z:Int)=0:=oo;have P:decide (1<br)=decide ((1:Int)<br):=by
   by_cases h:1<br
   ·rw[dt_ h,dt_ oo]
   rw[df_ h,df_ oo]
  rw[P]at K;have F:=Qgx_ (w2.alloc (C_ #[I_ j_ kd,T_ x,I_ j_ q,B_ (decide ((1:Int)<br))] 89)) kd x q (decide ((1:Int)<br)) 89;rw[ws_]at F;have HC:=h_ F;have ad:0<z:=oo;go_wp2_with (at_builtin;(refine wpList_append_own _ rfl (.tmp 46) (.tmp 48) _ rfl w.heap.size 89 i0 (A_ #[I_ j_ 0,T_ ⟨#[]⟩,I_ j_ 0,B_ φ]) 4 40 underlying77 S.o.1 S.o.2.1 S.o.2.2.1 S.o.2.2.2 rfl dc_ _ _ _ rfl (Mine.alloc (Mine.alloc C.o _) _) ⟨w2.heap.size+1,0,ν⟩ 1 1 [I_ j_ kd,T_ x,I_ j_ q,B_ (decide ((1:Int)<br))] rfl rfl HC.o (Qgy_ _ _ _ _) mx_ oo (by have:=f.size;simp only[ws_];omega) ?_);intro v' w3 n N G);have aa:Λ w w3:=Below.grown (show Λ w ((w2.alloc (C_ #[I_ j_ kd,T_ x,I_ j_ q,B_ (decide ((1:Int)<br))] 89)).alloc (C_ #[I_ j_ kd,T_ x,I_ j_ q,B_ (decide ((1:Int)<br))] 89))from grow_) N (by have:=f.size;simp only[ws_];omega) (λs hg=>Qgi_ C.o hg);obtain⟨A3,c3,rfl,m3⟩:=Mine.of n;rw[<-Qef_]at m3;have U:=h_ m3;go_wp2;go_roundw
  ·exact⟨k+z,0,acc++[(kd,x,q,decide ((1:Int)<br))],A3,c3,oo,oo,by rw[lA,j.o];simp;omega,by rw[lA,j.o];rfl,by go_num,rfl,K,by rw[lA,j.o];exact U,aa⟩
  exact ms_
 obtain rfl:=WG_ v oo;go_wp2;refine bodyPost_ret rs_ rfl ?_;exact⟨A,c,by rw[j.o],by rw[j.o];exact B.o,D⟩
def U4_ (hs:g.size<=1048576):Δ π 101 #[T_ g] w (vm_ w (KV_ g)):=by
 by_cases h3:3000<g.size
 ·rw[zV_ h3];go_in;go_wp2;refine bodyPost_ret rs_ rfl ?_;exact⟨_,_,rfl,Mine.mk_nil _ _ _ _,grow_⟩
 have v:Ψ (KO_ g 0 0 [] (KV_ g)):=G7_ oo;have h4:g.size<=3000:=oo;generalize KV_ g=R at v |-
 obtain⟨i0,hi,r,t,J⟩:=info_parts Qda_;have K:=h_<|ai_ hi<|ai_ r<|ai_ t J;have M0:Ψ (Mine w w.heap.size 89 4 ν ([]:List SgP).length 0 (([]:List SgP).flatMap ZP_)):=Mine.mk_nil _ _ _ _;have G:Λ w w:=br;go_in;go_wp2;go_loopw [5,6,7] (λo b i wr=>∃(k br:Nat) (acc:List SgP) (A:OA) (c:Nat),k<=g.size/\br<=k/\η acc<=k/\o=S_ A (η acc) c/\i=I_ j_ k/\b=I_ j_ br/\Ψ (KO_ g k br acc R)/\Ψ (Mine wr w.heap.size 89 4 A (η acc) c (acc.flatMap ZP_))/\Λ w wr) (λ_ _ i _=>g.size-(intOf i).toNat)
 ·exact⟨0,0,[],_,_,oo,oo,by simp,rfl,rfl,rfl,v,M0,G⟩
 obtain⟨k,br,acc,A,c,hk,aa,U,rfl,rfl,rfl,C,D,F⟩:=hrel;obtain⟨m,L⟩:=ex_ (η acc);rw[L]at D U;rw[L];have j:=h_ L;by_cases p:k<g.size
 ·by_cases d:g[k]=32
  ·have E:Ψ (KO_ g (k+1) br acc R):=J5_ C p d;have S:=vw_ d;go_wp2;go_roundw
   ·exact⟨k+1,br,acc,A,c,oo,oo,by have:=j.o;omega,by rw[j.o],by go_num,rfl,E,by rw[j.o];exact D,F⟩
   exact ms_
  have S:=vx_ d;by_cases f:g[k]=10
  ·have E:Ψ (KO_ g (k+1) (br+1) acc R):=G8_ C p f;have Q:=Qdp_ f;go_wp2;go_roundw
   ·exact⟨k+1,br+1,acc,A,c,oo,oo,by have:=j.o;omega,by rw[j.o],by go_num,by go_num,E,by rw[j.o];exact D,F⟩
   exact ms_
  have Q:=Qhp_ f;have M:=h_ (λhz=>WF_ C p d f hz);have N:Ψ (∀(kd:Int) (x:BA) (q:Int) (z:Nat),Kq_ (g.data.toList.drop k) k=(kd,x,q,z)->0<z->KO_ g (k+z) 0 (acc++[(kd,x,q,decide (1<br))]) R):=(show ∀(kd:Int) (x:BA) (q:Int) (z:Nat),_->_->_ from λkd x q z h h0=>G9_ C p d f h h0);have P:=h_ (λW=>kI_ (g.extract k g.size) W so_ (by unfold maxLen;simp;omega));rw[GR_]at P;have gk:(k:Int)<=g.size:=oo;go_wp2_with fail;refine(P.o _).mono ?_;rintro e w2 ⟨kd,x,z,ok,rfl,a,X,T⟩;rw[Zl_]at X;have y:=Qb_ F T;have Z:=y.size;have n:=h_<|D.o.next T;unfold SgOk at a
  cases ok with
  |false=>
   rw[in_ dc_]at a;obtain rfl:=M.o (a k);go_wp2;refine bodyPost_ret rs_ rfl ?_;exact⟨_,_,rfl,Mine.mk_nil _ _ _ _,y⟩
  |true=>
   rw[ip_ rfl]at a;obtain⟨r,t,a⟩:=a;have E:Ψ (KO_ g (k+z) 0 (acc++[(kd,x,(k:Int),decide (1<br))]) R):=N.o kd x k z (a k) r;have I:decide (1<br)=decide ((1:Int)<br):=by
    by_cases h:1<br
    ·rw[dt_ h,dt_ oo]
    rw[df_ h,df_ oo]
   rw[I]at E;have HC:=h_<|Qgx_ w2 kd x k (decide ((1:Int)<br)) 89;go_wp2_with (at_builtin;(refine wpList_append_own _ rfl (.tmp 44) (.tmp 51) _ rfl w.heap.size 89 i0 (A_ #[I_ j_ 0,T_ ⟨#[]⟩,I_ j_ 0,B_ φ]) 4 40 underlying77 K.o.1 K.o.2.1 K.o.2.2.1 K.o.2.2.2 rfl dc_ _ _ _ rfl (Mine.alloc n.o _) ⟨w2.heap.size,0,ν⟩ 1 1 [I_ j_ kd,T_ x,I_ j_ k,B_ (decide ((1:Int)<br))] rfl rfl HC.o (Qgy_ _ _ _ _) mx_ oo (by simp only[ws_];omega) ?_);intro v' w3 l H B)
   have V:Λ w w3:=Below.grown (show Λ w (w2.alloc (C_ #[I_ j_ kd,T_ x,I_ j_ k,B_ (decide ((1:Int)<br))] 89))from grow_) H (by simp only[ws_];omega) (λs hg=>Qgi_ n.o hg);obtain⟨A3,c3,rfl,Y⟩:=Mine.of l;rw[<-Qef_]at Y;have O:=h_ Y;go_wp2;go_roundw
   ·exact⟨k+z,0,acc++[(kd,x,(k:Int),decide ((1:Int)<br))],A3,c3,oo,oo,by rw[lA,j.o];simp;omega,by rw[lA,j.o];rfl,by go_num,rfl,E,by rw[lA,j.o];exact O,V⟩
   exact ms_
 obtain rfl:=WG_ C oo;go_wp2;refine bodyPost_ret rs_ rfl ?_;exact⟨A,c,by rw[j.o],by rw[j.o];exact D.o,F⟩
def QeT_ (w:Ω) (l:LI) (e:Ending) (w':Ω):Prop:=
 ∃(A:OA) (c:Nat),e=R_ (S_ A (η l) c)/\Mine w' w.heap.size 3 1 A (η l) c (Qa_ l)/\Λ w w'
def ndZ:PN:=⟨0,⟨#[]⟩,[],φ⟩
def ndAt (ps:List PN) (k:Nat):PN:=ps.getD k ndZ
def X7_ (h:t[k]? =σ x):ndAt t k=x:=by unfold ndAt;rw[List.getD_eq_getElem?_getD,h];rfl
open Go.Sort
section
variable {α:Type} [Inhabited α] {lt:α->α->Bool} {tg:α->Nat}
omit [Inhabited α]in
omit [Inhabited α]in
omit [Inhabited α]in
end
open Go.Sort
section
variable {α:Type} [Inhabited α]
variable {lt:α->α->Bool} {tg:α->Nat}
omit [Inhabited α]in
omit [Inhabited α]in
omit [Inhabited α]in
omit [Inhabited α]in
end
open Go.Sort
section
variable {α:Type} [Inhabited α]
variable {lt:α->α->Bool} {tg:α->Nat}
omit [Inhabited α]in
end
structure Tree (ps:List PN) (m:Nat):Prop where
 good:Good ps
 len:η ps=m+1
 used:Uf_ ps (m+1) m
structure TreeF (ps:List PN) (m:Nat):Prop where
 tree:Tree ps m
 few:m+1<=300
 node:∀j,j<m+1->Za_ ps j=τ
 root:∃x,ps[m]? =σ x/\x.kind=22/\x.text=⟨#[]⟩/\x.blank=φ
def K0_ (a:Za_ t k=τ) (hx:t[k]? =σ x):Zi_ x.kind x.text=τ/\kfB x.kind (Qe_ t x.kids)=τ/\(Gf_ x.kind||!x.blank)=τ:=by
 unfold Za_ at a;rw[hx]at a;simp only[τa]at a;exact⟨a.1.1.2,a.2.1,a.2.2.2⟩
def QiZ_ (h:Yb_ t=τ):∃m,TreeF t m:=by
 unfold Yb_ at h;simp only[τa]at h;obtain⟨h1,h2,h3,d⟩:=h;have l:=od_ h1;obtain⟨m,hm⟩:∃m,η t=m+1:=⟨η t-1,oo⟩;have hd:¬Kt_ t (η t-1)=0:=by
  intro e;rw[e]at h3;cases h3
 have a:∀j,j<m+1->Za_ t j=τ:=λj hj=>vF_ hd j oo
 obtain⟨x,g⟩:∃x,t[m]? =σ x:=⟨_,gE oo⟩;have e1:((η t:Int)-1)=(m:Int):=oo;rw[e1,Qr_ g]at h2;have b:x.kind=22:=by simpa using h2
 have f:=K0_ (a m oo) g;rw[b]at f;refine⟨m,⟨jl_ hd,hm,λi hi=>?_⟩,oo,a,x,g,b,?_,?_⟩
 ·unfold Gc_ at d;rw[List.all_eq_true,hm]at d;have:=d i (List.mem_range.2 oo);simpa using this
 ·have c:x.text.size=0:=od_ f.1;apply VY_;rw[ln_ (show η x.text.data.toList=0 by rw[QF_];exact c)]
 have c:(!x.blank)=τ:=f.2.2
 cases k:x.blank with
 |false=>rfl
 |true=>rw[k]at c;cases c
abbrev RuleD:=Int × Int
def Q0_ (d:RuleD):List Υ:=[I_ j_ (d.1),I_ j_ (d.2)]
def J0_ (d:RuleD):(Q0_ d).length=2:=rfl
def Xo_ {l:List RuleD} (h:Rd z 2 y k (l.flatMap Q0_)) (hk:u<k) (hd:l[u]? =σ (a,b)):
  ∃w off,y=σ ⟨w,off,ν⟩/\w<z.heap.size/\z.cell? ⟨w,off+u*2,ν⟩=σ (I_ j_ a)/\z.cell? ⟨w,off+u*2+1,ν⟩=σ (I_ j_ b):=by
 obtain⟨w,off,e,hb,hc⟩:=h.at_ oo;exact⟨w,off,e,hb,hc _ _ (Kw_ Q0_ J0_ hd (j:=0) rfl),hc _ _ (Kw_ Q0_ J0_ hd (j:=1) rfl)⟩
def vP_:(prog.info? 192).map (λi=>(i.zero,i.size,i.bytes))=σ (σ (A_ #[I_ j_ 0,I_ j_ 0]),2,16):=by kernel_rfl
abbrev ChunkD:=BA × Int × Int × Bool × Int
def Qo_ (d:ChunkD):List Υ:=[T_ (d.1),I_ j_ (d.2.1),I_ j_ (d.2.2.1),B_ (d.2.2.2.1),I_ j_ (d.2.2.2.2)]
def Zx_ (d:ChunkD):(Qo_ d).length=5:=rfl
def Zk_ {l:List ChunkD} (h:Rd z 5 y k (l.flatMap Qo_)) (hk:u<k) (hd:l[u]? =σ (s,a,b,v,n)):
  ∃A off,y=σ ⟨A,off,ν⟩/\A<z.heap.size/\z.cell? ⟨A,off+u*5,ν⟩=σ (T_ s)/\z.cell? ⟨A,off+u*5+1,ν⟩=σ (I_ j_ a)/\z.cell? ⟨A,off+u*5+2,ν⟩=σ (I_ j_ b)/\z.cell? ⟨A,off+u*5+3,ν⟩=σ (B_ v)/\z.cell? ⟨A,off+u*5+4,ν⟩=σ (I_ j_ n):=by
 obtain⟨A,off,e,hb,w⟩:=h.at_ oo;exact⟨A,off,e,hb,w _ _ (Kw_ Qo_ Zx_ hd (j:=0) rfl),w _ _ (Kw_ Qo_ Zx_ hd (j:=1) rfl),w _ _ (Kw_ Qo_ Zx_ hd (j:=2) rfl),w _ _ (Kw_ Qo_ Zx_ hd (j:=3) rfl),w _ _ (Kw_ Qo_ Zx_ hd (j:=4) rfl)⟩
def Vh_:(prog.info? 178).map (λi=>(i.zero,i.size,i.bytes))=σ (σ (A_ #[T_ ⟨#[]⟩,I_ j_ 0,I_ j_ 0,B_ φ,I_ j_ 0]),5,48):=by kernel_rfl
abbrev SpanD:=Int × Int × Int
def QJ_ (d:SpanD):List Υ:=[I_ j_ (d.1),I_ j_ (d.2.1),I_ j_ (d.2.2)]
def YQ_ (d:SpanD):(QJ_ d).length=3:=rfl
def WJ_ {l:List SpanD} (h:Rd z 3 y k (l.flatMap QJ_)) (hk:u<k) (hd:l[u]? =σ (a,b,n)):
  ∃A off,y=σ ⟨A,off,ν⟩/\A<z.heap.size/\z.cell? ⟨A,off+u*3,ν⟩=σ (I_ j_ a)/\z.cell? ⟨A,off+u*3+1,ν⟩=σ (I_ j_ b)/\z.cell? ⟨A,off+u*3+2,ν⟩=σ (I_ j_ n):=by
 obtain⟨A,off,e,hb,w⟩:=h.at_ oo;exact⟨A,off,e,hb,w _ _ (Kw_ QJ_ YQ_ hd (j:=0) rfl),w _ _ (Kw_ QJ_ YQ_ hd (j:=1) rfl),w _ _ (Kw_ QJ_ YQ_ hd (j:=2) rfl)⟩
def qx_:(prog.info? 213).map (λi=>(i.zero,i.size,i.bytes))=σ (σ (A_ #[I_ j_ 0,I_ j_ 0,I_ j_ 0]),3,24):=by kernel_rfl
abbrev TieD:=Int × Int
def KF_ (d:TieD):List Υ:=[I_ j_ (d.1),I_ j_ (d.2)]
def Ue_ (d:TieD):(KF_ d).length=2:=rfl
def Qax_ {l:List TieD} (h:Rd z 2 y k (l.flatMap KF_)) (hk:u<k) (hd:l[u]? =σ (a,b)):
  ∃w off,y=σ ⟨w,off,ν⟩/\w<z.heap.size/\z.cell? ⟨w,off+u*2,ν⟩=σ (I_ j_ a)/\z.cell? ⟨w,off+u*2+1,ν⟩=σ (I_ j_ b):=by
 obtain⟨w,off,e,hb,hc⟩:=h.at_ oo;exact⟨w,off,e,hb,hc _ _ (Kw_ KF_ Ue_ hd (j:=0) rfl),hc _ _ (Kw_ KF_ Ue_ hd (j:=1) rfl)⟩
def Qdb_:(prog.info? 215).map (λi=>(i.zero,i.size,i.bytes))=σ (σ (A_ #[I_ j_ 0,I_ j_ 0]),2,16):=by kernel_rfl
def RdP (w:Ω) (A0:OA) (n0:Nat) (l0:List RuleD) (A1:OA) (n1:Nat) (l1:List ChunkD) (A2:OA) (n2:Nat) (l2:List SpanD) (A3:OA) (n3:Nat) (l3:List TieD):Prop:=
 Rd w 2 A0 n0 (l0.flatMap Q0_)/\Rd w 5 A1 n1 (l1.flatMap Qo_)/\Rd w 3 A2 n2 (l2.flatMap QJ_)/\Rd w 2 A3 n3 (l3.flatMap KF_)
def LenP (n0:Nat) (l0:List RuleD) (n1:Nat) (l1:List ChunkD) (n2:Nat) (l2:List SpanD) (n3:Nat) (l3:List TieD):Prop:=η l0=n0/\η l1=n1/\η l2=n2/\η l3=n3
section
variable {w w' w2:Ω} {o o':Obj} {A0:OA} {n0:Nat} {l0:List RuleD} {A1:OA} {n1:Nat} {l1:List ChunkD} {A2:OA} {n2:Nat} {l2:List SpanD} {A3:OA} {n3:Nat} {l3:List TieD}
def RdP.next (h:RdP w A0 n0 l0 A1 n1 l1 A2 n2 l2 A3 n3 l3) (a:Λ w w'):RdP w' A0 n0 l0 A1 n1 l1 A2 n2 l2 A3 n3 l3:=⟨h.1.next a,h.2.1.next a,h.2.2.1.next a,h.2.2.2.next a⟩
def RdP.alloc (h:RdP w A0 n0 l0 A1 n1 l1 A2 n2 l2 A3 n3 l3) (o:Obj):RdP (w.alloc o) A0 n0 l0 A1 n1 l1 A2 n2 l2 A3 n3 l3:=h.next (br.alloc (lr_ _) o)
end
def AllK {α:Type} (p:Nat->α->Bool) (l:List α) (k:Nat):Prop:=∀j d,j<k->l[j]? =σ d->p j d=τ
def KG_ {α:Type} (p:Nat->α->Bool) (l:List α):Bool:=(List.range (η l)).all (λj=>match l[j]? with|some d=>p j d|none=>τ)
def Z9_ {α:Type} (p:Nat->α->Bool) (l:List α):AllK p l 0:=λj d hj=>absurd hj oo
def ZK_ {α:Type} {p:Nat->α->Bool} {l:List α} {k:Nat} {d:α} (h:AllK p l k) (hd:l[k]? =σ d) (hp:p k d=τ):AllK p l (k+1):=λj e hj a=>by
 by_cases q:j=k
 ·subst q;rw[hd]at a;obtain rfl:=oi_ a;exact hp
 exact h j e oo a
def XV_ {α:Type} {p:Nat->α->Bool} {l:List α} {k:Nat} (h:AllK p l k) (hk:k=η l):KG_ p l=τ:=by
 unfold KG_;rw[List.all_eq_true];intro j hj;have a:j<η l:=List.mem_range.1 hj;rw[List.getElem?_eq_getElem a];exact h j _ oo<|List.getElem?_eq_getElem a
def XF_ {α:Type} {p:Nat->α->Bool} {l:List α} {k:Nat} {d:α} (hd:l[k]? =σ d) (hp:p k d=φ):KG_ p l=φ:=by
 unfold KG_;refine List.all_eq_false.2 ⟨k,List.mem_range.2 (gs_.1 hd).1,?_⟩;rw[hd];simp[hp]
def vr_ {α:Type} {p:Nat->α->Bool} {l:List α} {k:Nat} {d:α} (h:KG_ p l=τ) (hd:l[k]? =σ d):p k d=τ:=by
 cases hp:p k d with
 |true=>rfl
 |false=>rw[XF_ hd hp]at h;cases h
def pl (c:UInt8):Bool:=decide (32<=(c.toNat:Int)/\(c.toNat:Int)<=126)
def QV_ (s:BA):Bool:=s.data.toList.all pl
def PlTo (s:BA) (k:Nat):Prop:=(s.data.toList.take k).all pl=τ
def xo_:PlTo g 0:=by simp[PlTo]
def xn_ (h:PlTo s k) (hk:k<s.size) (hc:pl s[k]=τ):PlTo s (k+1):=by
 unfold PlTo at h |-
 rw[List.take_succ_eq_append_getElem (by simpa using hk),List.all_append,h];simp only[List.all_cons,List.all_nil,τc,τb];exact hc
def jJ_ (hk:k<s.size) (hc:pl s[k]=φ):QV_ s=φ:=by
 unfold QV_;rw[List.all_eq_false];exact⟨s[k],by rw[show s[k]=s.data.toList[k]'(by simpa using hk)from rfl];exact List.getElem_mem _,by simp[hc]⟩
def Qaa_ (h:PlTo s k) (hk:k=s.size):QV_ s=τ:=by
 unfold PlTo at h;unfold QV_;rwa[List.take_of_length_le (by simp[hk])]at h
def YE_ (hs:g.size<=maxLen):Δ π 157 #[T_ g] w (RS_ (B_ (QV_ g)) w):=by
 unfold maxLen at hs;go_in;go_wp2
 go_loop [3] (λi=>∃k:Nat,k<=g.size/\PlTo g k/\i=I_ j_ k) (λi=>g.size-(intOf i).toNat)
 ·exact⟨0,lz_ _,xo_ g,rfl⟩
 obtain⟨k,hk,ha,rfl⟩:=hrel;by_cases a:k<g.size
 ·by_cases h1:(g[k].toNat:Int)<32
  ·have b:=h_<|jJ_ a (by unfold pl;exact df_ oo);go_wp2;go_ret;exact⟨Qg_ b.o.symm,rfl⟩
  by_cases h2:(126:Int)<g[k].toNat
  ·have b:=h_<|jJ_ a (by unfold pl;exact df_ oo);go_wp2;go_ret;exact⟨Qg_ b.o.symm,rfl⟩
  have b:=xn_ ha a (by unfold pl;exact dt_ oo);go_wp2;exact⟨⟨k+1,oo,b,by go_num⟩,ms_⟩
 have b:=h_<|Qaa_ ha oo;go_wp2;go_ret;exact⟨Qg_ b.o.symm,rfl⟩
def YJ_ (k:Nat) (d:RuleD):Bool:=inB d.1 2 3&&inB d.2 0 9
def X3_ (l0:List RuleD):Bool:=KG_ YJ_ l0&&decide (η l0<=8)
def jP_ (l0:List RuleD) (A1:OA) (n1 c1:Nat) (l1:List ChunkD) (A2:OA) (n2 c2:Nat) (l2:List SpanD) (A3:OA) (n3 c3:Nat) (l3:List TieD) (w:Ω) (hl:Ψ (LenP f l0 n1 l1 n2 l2 n3 l3)) (hr:RdP w e f l0 A1 n1 l1 A2 n2 l2 A3 n3 l3) (hn:f<=1048576):
  Δ π 264 #[A_ #[I_ j_ m,S_ e f q,S_ A1 n1 c1,S_ A2 n2 c2,S_ A3 n3 c3]] w (RB_ (B_ (X3_ l0)) w):=by
 have HR:=h_ (λW (hW:Λ w W)=>hr.next hW);have g:Ψ (X3_ l0=(KG_ YJ_ l0&&decide (η l0<=8))):=rfl;have n:=h_ hl.o.1;go_in;go_wp2;go_loopw [8] (λi wr=>∃k:Nat,k<=f/\AllK YJ_ l0 k/\i=I_ j_ k/\Blk wr w.heap.size 149 #[I_ j_ m,S_ e f q,S_ A1 n1 c1,S_ A2 n2 c2,S_ A3 n3 c3]/\Λ w wr) (λi _=>f-(intOf i).toNat)
 ·exact⟨0,lz_ _,Z9_ _ _,rfl,Blk.new _ _ _,grow_⟩
 obtain⟨k,hk,A0,rfl,K,o⟩:=hrel;by_cases p:k<f
 ·obtain⟨⟨x0,x1⟩,hd⟩:∃d,l0[k]? =σ d:=⟨_,gE (by have:=n.o;omega)⟩;obtain⟨b,off,hA,r,q,c1⟩:=Xo_ (HR.o _ o).1 p hd;have HA:=h_ A0;have a:=h_ hd;have j:Ψ (YJ_ k (x0,x1)=(inB x0 2 3&&inB x1 0 9)):=rfl;have zK:=K.lt;have hz:=o.size;subst hA
  cases l:inB x0 2 3 with
  |false=>
   have c:=h_ (show X3_ l0=φ by rw[g.o,XF_ a.o (by rw[j.o,l];rfl)];rfl);go_wp2_with (go_at_call 62;refine mb_ (QL_ _ _ _ _) ?_;rintro w1 rfl);go_ret;exact⟨Qg_ c.o.symm,grow_⟩
  |true=>
   cases h1:inB x1 0 9 with
   |false=>
    have c:=h_ (show X3_ l0=φ by rw[g.o,XF_ a.o (by rw[j.o,l,h1];rfl)];rfl);go_wp2_with (go_at_call 62;refine mb_ (QL_ _ _ _ _) ?_;rintro w1 rfl);go_ret;exact⟨Qg_ c.o.symm,grow_⟩
   |true=>
    have n0:=ZK_ HA.o a.o (by rw[j.o,l,h1];rfl);go_wp2_with (go_at_call 62;refine mb_ (QL_ _ _ _ _) ?_;rintro w1 rfl);exact⟨⟨k+1,oo,n0,by go_num,K.alloc _,grow_⟩,ms_⟩
 have c:=h_ (show X3_ l0=decide ((f:Int)<=8)by rw[g.o,XV_ A0 (by have:=n.o;omega),n.o,τb];congr 1;exact propext ⟨λh=>oo,λh=>oo⟩);have cK:=K.cell;have zK:=K.lt;go_wp2;go_ret;exact⟨Qg_ c.o.symm,o⟩
def vN_ (h0:0<=m) (h1:m<=1000):IntKind.i64.wrap (m-1)=m-1:=by
 rw[IntKind.wrap_i64];omega
def jk_ (l0:List RuleD) (r f:Int):Bool:=match l0[r.toNat]? with|some d=>inB f 1 (d.1-1)|none=>φ
def KW_ (l0:List RuleD) (r f q:Int):Bool:=inB r 0 ((η l0:Int)-1)&&inB q 0 40&&jk_ l0 r f
def vK_ {l0:List RuleD} (h:l0[k]? =σ (b,n)):jk_ l0 (k:Int) a=inB a 1 (b-1):=by
 unfold jk_;rw[show((k:Int)).toNat=k from oo,h]
def Yl_ (h:inB a b n=τ):b<=a/\a<=n:=od_ h
def Qbc_ (l0:List RuleD) (A1:OA) (n1 c1:Nat) (l1:List ChunkD) (A2:OA) (n2 c2:Nat) (l2:List SpanD) (A3:OA) (n3 c3:Nat) (l3:List TieD) (i:Int) (w:Ω) (hn:f<=1048576):
  Δ π 266 #[A_ #[I_ j_ m,S_ e f q,S_ A1 n1 c1,S_ A2 n2 c2,S_ A3 n3 c3],I_ j_ i] w λA0 w'=>A0=R_ (B_ (inB i 0 ((f:Int)-1)))/\Λ w w':=by
 go_in;go_wp2_with (go_at_call 62;refine mb_ (QL_ _ _ _ _) ?_;rintro w1 rfl);exact Ξ
def vb_ (l0:List RuleD) (A1:OA) (n1 c1:Nat) (l1:List ChunkD) (A2:OA) (n2 c2:Nat) (l2:List SpanD) (A3:OA) (n3 c3:Nat) (l3:List TieD) (r A0:Int) (s:Bool) (n0:Int) (w:Ω) (hl:Ψ (LenP f l0 n1 l1 n2 l2 n3 l3)) (hr:RdP w e f l0 A1 n1 l1 A2 n2 l2 A3 n3 l3) (hn:f<=8) (hv:Ψ (KG_ YJ_ l0=τ)):
  Δ π 283 #[A_ #[I_ j_ m,S_ e f q,S_ A1 n1 c1,S_ A2 n2 c2,S_ A3 n3 c3],A_ #[I_ j_ r,I_ j_ A0,B_ s,I_ j_ n0]] w (RB_ (B_ (KW_ l0 r A0 n0)) w):=by
 have i:Ψ (KW_ l0 r A0 n0=(inB r 0 ((f:Int)-1)&&inB n0 0 40&&jk_ l0 r A0)):=by
  have:=hl.o.1;exact h_ (by unfold KW_;rw[this])
 have hL:=h_ hl.o.1;have hR:=hr.1
 cases g:inB r 0 ((f:Int)-1)with
 |false=>
  have c:=h_ (show KW_ l0 r A0 n0=φ by rw[i.o,g];rfl);go_in;go_wp2_with (go_at_call 62;refine mb_ (QL_ _ _ _ _) ?_;rintro w1 rfl);go_ret;exact⟨Qg_ c.o.symm,grow_⟩
 |true=>
  cases h1:inB n0 0 40 with
  |false=>
   have c:=h_ (show KW_ l0 r A0 n0=φ by rw[i.o,g,h1];rfl);go_in;go_wp2_with (go_at_call 62;refine mb_ (QL_ _ _ _ _) ?_;rintro w1 rfl);go_ret;exact⟨Qg_ c.o.symm,grow_⟩
  |true=>
   obtain⟨r1,r2⟩:=Yl_ g;obtain⟨k,rfl⟩:=eo_ r1;have j:k<f:=oo;obtain⟨⟨x0,x1⟩,hd⟩:∃d,l0[k]? =σ d:=⟨_,gE (by have:=hL.o;omega)⟩;have a:=vr_ hv.o hd;have c:=h_ (show KW_ l0 (k:Int) A0 n0=inB A0 1 (x0-1)by rw[i.o,g,h1,vK_ hd];rfl);have l:2<=x0/\x0<=3:=by
    unfold YJ_ at a;have:=(τa _ _).mp a;exact Yl_ this.1
   obtain⟨v0,v1⟩:=l;have n:IntKind.i64.wrap (x0-1)=x0-1:=vN_ x0 oo oo;have hW:=h_ n;obtain⟨b,off,hA,o,q,c1⟩:=Xo_ ((hR.alloc (C_ #[I_ j_ m,S_ e f q,S_ A1 n1 c1,S_ A2 n2 c2,S_ A3 n3 c3] 149)).alloc (C_ #[I_ j_ (k:Int),I_ j_ A0,B_ s,I_ j_ n0] 176)) j hd;subst hA;have p:(0:Int)<=(k:Int):=oo;have t:(k:Int)<(f:Int):=oo;go_in;go_wp2_with (go_at_call 62;refine mb_ (QL_ _ _ _ _) ?_;rintro w1 rfl);have n:=hW.o;go_quiet ((go_at_call 62;exact Calls.quiet_of_same ((QL_ _ _ _ _).mono λ_ _ h=>⟨h.1,h.2.symm⟩)));go_wp2;go_ret;exact⟨Qg_ c.o.symm,grow_⟩
def ZT_ (l0:List RuleD) (n k:Nat) (d:ChunkD):Bool:=QV_ d.1&&(decide (n<=k+1)||KW_ l0 d.2.1 d.2.2.1 d.2.2.2.2)
def GM_ (d:ChunkD):Bool:=decide (d.2.1=0)&&decide (d.2.2.1=0)&&!d.2.2.2.1&&decide (d.2.2.2.2=0)
def Vm_ (l1:List ChunkD):Bool:=match l1[η l1-1]? with|some d=>GM_ d|none=>φ
def KS_ (l0:List RuleD) (l1:List ChunkD):Bool:=inB (η l1) 1 80&&KG_ (ZT_ l0 (η l1)) l1&&Vm_ l1
def ko_ (l0:List RuleD) (A1:OA) (n1 c1:Nat) (l1:List ChunkD) (A2:OA) (n2 c2:Nat) (l2:List SpanD) (A3:OA) (n3 c3:Nat) (l3:List TieD) (w:Ω) (hl:Ψ (LenP f l0 n1 l1 n2 l2 n3 l3)) (hr:RdP w e f l0 A1 n1 l1 A2 n2 l2 A3 n3 l3) (hn:f<=8) (M:n1<=1048576) (hv:Ψ (KG_ YJ_ l0=τ)) (hs:Ψ (∀d∈l1,d.1.size<=maxLen)):
  Δ π 265 #[A_ #[I_ j_ m,S_ e f q,S_ A1 n1 c1,S_ A2 n2 c2,S_ A3 n3 c3]] w (RB_ (B_ (KS_ l0 l1)) w):=by
 have A:=h_ (λW (hW:Λ w W)=>hr.next hW);have r:Ψ (KS_ l0 l1=(inB (n1:Int) 1 80&&KG_ (ZT_ l0 n1) l1&&Vm_ l1)):=by
  have:=hl.o.2.1;exact h_ (by unfold KS_;rw[this])
 have v:=h_ hl.o.2.1
 cases hi:inB (n1:Int) 1 80 with
 |false=>
  have A0:=h_ (show KS_ l0 l1=φ by rw[r.o,hi];rfl);go_in;go_wp2_with (go_at_call 62;refine mb_ (QL_ _ _ _ _) ?_;rintro w1 rfl);go_ret;exact⟨Qg_ A0.o.symm,grow_⟩
 |true=>
  obtain⟨i1,i2⟩:=Yl_ hi;have z:=h_ hi;go_in;go_wp2_with (go_at_call 62;refine mb_ (QL_ _ _ _ _) ?_;rintro w1 rfl);go_loopw [4,15] (λ_ i wr=>∃k:Nat,k<=n1/\AllK (ZT_ l0 n1) l1 k/\i=I_ j_ k/\Blk wr w.heap.size 149 #[I_ j_ m,S_ e f q,S_ A1 n1 c1,S_ A2 n2 c2,S_ A3 n3 c3]/\Λ w wr) (λ_ i _=>n1-(intOf i).toNat)
  ·exact⟨0,lz_ _,Z9_ _ _,rfl,Blk.new _ _ _,grow_⟩
  obtain⟨k,hk,x,rfl,K,c⟩:=hrel;by_cases G:k<n1
  ·obtain⟨⟨x0,x1,l,y,n⟩,hd⟩:∃d,l1[k]? =σ d:=⟨_,gE (by have:=v.o;omega)⟩;obtain⟨b,off,hA,p,q,c1,c2,c3,c4⟩:=Zk_ (A.o _ c).2.1 G hd;have B:=h_ (hs.o _ (lm_ hd));have HA:=h_ x;have h:=h_ hd;have s:Ψ (ZT_ l0 n1 k (x0,x1,l,y,n)=(QV_ x0&&(decide (n1<=k+1)||KW_ l0 x1 l n))):=rfl;have C:=K.cell;have zK:=K.lt;have hz:=c.size;subst hA
   cases t:QV_ x0 with
   |false=>
    have A0:=h_ (show KS_ l0 l1=φ by rw[r.o,z.o,XF_ h.o (by rw[s.o,t];rfl)];rfl);go_wp2_with (go_at_call 157;refine mb_ (YE_ _ _ B.o) ?_;rintro w1 rfl);go_ret;exact⟨Qg_ A0.o.symm,grow_⟩
   |true=>
    by_cases g:n1<=k+1
    ·have j:=ZK_ HA.o h.o (by rw[s.o,t,dt_ g];rfl);have hq:¬((k:Int)<(n1:Int)-1):=oo;go_wp2_with (go_at_call 157;refine mb_ (YE_ _ _ B.o) ?_;rintro w1 rfl);exact⟨⟨k+1,oo,j,by go_num,K.alloc _,grow_⟩,ms_⟩
    have hq:((k:Int)<(n1:Int)-1):=oo;have H:=h_<|A.o _ c;go_wp2_with (go_at_call 157;refine mb_ (YE_ _ _ B.o) ?_;rintro w1 rfl)
    refine mb_ (vb_ _ _ _ _ _ _ _ _ _ _ _ _ _ _ _ _ _ _ _ _ _ _ hl (H.o.alloc _) hn hv) ?_;intro w2 h2;have o:=Q7_ c h2;have K2:=K.next1 h2
    cases h1:KW_ l0 x1 l n with
    |false=>
     have A0:=h_ (show KS_ l0 l1=φ by rw[r.o,z.o,XF_ h.o (by rw[s.o,t,h1,df_ g];rfl)];rfl);go_wp2;go_ret;exact⟨Qg_ A0.o.symm,o⟩
    |true=>
     have j:=ZK_ HA.o h.o (by rw[s.o,t,h1];simp);go_wp2;exact⟨⟨k+1,oo,j,by go_num,K2,o⟩,ms_⟩
  obtain⟨⟨x0,x1,l,y,n⟩,hd⟩:∃d,l1[n1-1]? =σ d:=⟨_,gE (by have:=v.o;omega)⟩;have n0:n1-1<n1:=oo;obtain⟨b,off,hA,p,q,c1,c2,c3,c4⟩:=Zk_ (A.o _ c).2.1 n0 hd;have A0:=h_ (show KS_ l0 l1=GM_ (x0,x1,l,y,n)by rw[r.o,z.o,XV_ x (by have:=v.o;omega)];unfold Vm_;rw[v.o,hd];rfl);have C:=K.cell;have zK:=K.lt;have hz:=c.size;subst hA;have j0:((n1-1:Nat):Int)=(n1:Int)-1:=oo;have J0:=h_ j0;by_cases D:x1=0
  ·subst D;by_cases E:l=0
   ·subst E
    cases y with
    |true=>
     have a:=h_ (show KS_ l0 l1=φ by rw[A0.o];simp[GM_]);go_wp2;go_ret;exact⟨Qg_ a.o.symm,c⟩
    |false=>
     by_cases F:n=0
     ·subst F;have a:=h_ (show KS_ l0 l1=τ by rw[A0.o];rfl);go_wp2;go_ret;exact⟨Qg_ a.o.symm,c⟩
     ·
      have a:=h_ (show KS_ l0 l1=φ by rw[A0.o];simp[GM_,F]);have L:(n==0)=φ:=bn_.2 F;go_wp2;go_ret;exact⟨Qg_ a.o.symm,c⟩
   ·
    have a:=h_ (show KS_ l0 l1=φ by rw[A0.o];simp[GM_,E]);have J:(l==0)=φ:=bn_.2 E;go_wp2;go_ret;exact⟨Qg_ a.o.symm,c⟩
  ·
   have a:=h_ (show KS_ l0 l1=φ by rw[A0.o];simp[GM_,D]);have I:(x1==0)=φ:=bn_.2 D;go_wp2;go_ret;exact⟨Qg_ a.o.symm,c⟩
def Y8_ (n1:Nat) (k:Nat) (d:SpanD):Bool:=decide (0<=d.1)&&(decide (d.1<=d.2.1)&&(decide (d.2.1<(n1:Int)-1)&&inB d.2.2 0 9))
def ka_ (n0:Nat) (k:Nat) (d:TieD):Bool:=inB d.1 0 ((n0:Int)-1)&&(inB d.2 0 ((n0:Int)-1)&&!decide (d.1=d.2))
def GS_ (m:Int) (l0:List RuleD) (l1:List ChunkD) (l2:List SpanD) (l3:List TieD):Bool:=inB m 0 60&&(X3_ l0&&(KS_ l0 l1&&(decide (η l2<=40)&&decide (η l3<=20))))
def Kf_ (m:Int) (l0:List RuleD) (l1:List ChunkD) (l2:List SpanD) (l3:List TieD):Bool:=GS_ m l0 l1 l2 l3&&(KG_ (Y8_ (η l1)) l2&&KG_ (ka_ (η l0)) l3)
def Qd3_ {l0:List RuleD} (h:X3_ l0=τ):η l0<=8/\KG_ YJ_ l0=τ:=by
 unfold X3_ at h;rw[τa]at h;exact⟨od_ h.2,h.1⟩
def QaN_ {l0:List RuleD} {l1:List ChunkD} (h:KS_ l0 l1=τ):1<=η l1/\η l1<=80:=by
 unfold KS_ at h;rw[τa,τa]at h;have:=Yl_ h.1.1;omega
def U3_ (l0:List RuleD) (A1:OA) (n1 c1:Nat) (l1:List ChunkD) (A2:OA) (n2 c2:Nat) (l2:List SpanD) (A3:OA) (n3 c3:Nat) (l3:List TieD) (w:Ω) (hl:Ψ (LenP f l0 n1 l1 n2 l2 n3 l3)) (hr:RdP w e f l0 A1 n1 l1 A2 n2 l2 A3 n3 l3) (hn:f<=1048576/\n1<=1048576/\n2<=1048576/\n3<=1048576) (hs:Ψ (∀d∈l1,d.1.size<=maxLen)):
  Δ π 247 #[A_ #[I_ j_ m,S_ e f q,S_ A1 n1 c1,S_ A2 n2 c2,S_ A3 n3 c3]] w (RB_ (B_ (Kf_ m l0 l1 l2 l3)) w):=by
 have c0:=h_ (λW (hW:Λ w W)=>hr.next hW);obtain⟨q0,q1,q2,q3⟩:=hn;have n:Ψ (Kf_ m l0 l1 l2 l3=(GS_ m l0 l1 l2 l3&&(KG_ (Y8_ n1) l2&&KG_ (ka_ f) l3))):=by
  have r:=hl.o.1;have t:=hl.o.2.1;exact h_ (by unfold Kf_;rw[r,t])
 have y:Ψ (GS_ m l0 l1 l2 l3=(inB m 0 60&&(X3_ l0&&(KS_ l0 l1&&(decide (n2<=40)&&decide (n3<=20)))))):=by
  have r:=hl.o.2.2.1;have t:=hl.o.2.2.2;exact h_ (by unfold GS_;rw[r,t])
 have A:=h_ (λ(b:Bool) (a:X3_ l0=b) (W:Ω) (Z:RdP W e f l0 A1 n1 l1 A2 n2 l2 A3 n3 l3)=>show Δ π 264 #[A_ #[I_ j_ m,S_ e f q,S_ A1 n1 c1,S_ A2 n2 c2,S_ A3 n3 c3]] W λA0 w'=>A0=R_ (B_ b)/\Λ W w' by rw[<-a];exact jP_ m e f q l0 A1 n1 c1 l1 A2 n2 c2 l2 A3 n3 c3 l3 W hl Z q0);have N:=h_ (λ(aa:X3_ l0=τ) (b:Bool) (a:KS_ l0 l1=b) (W:Ω) (Z:RdP W e f l0 A1 n1 l1 A2 n2 l2 A3 n3 l3)=>show Δ π 265 #[A_ #[I_ j_ m,S_ e f q,S_ A1 n1 c1,S_ A2 n2 c2,S_ A3 n3 c3]] W λA0 w'=>A0=R_ (B_ b)/\Λ W w' by
  rw[<-a];have Y:=Qd3_ aa;rw[hl.o.1]at Y;exact ko_ m e f q l0 A1 n1 c1 l1 A2 n2 c2 l2 A3 n3 c3 l3 W hl Z Y.1 q1 Y.2 hs)
 have HI:=h_ (λ(i:Int) (W:Ω)=>Qbc_ m e f q l0 A1 n1 c1 l1 A2 n2 c2 l2 A3 n3 c3 l3 i W q0)
 cases O:inB m 0 60 with
 |false=>
  have n0:=h_ (show Kf_ m l0 l1 l2 l3=φ by rw[n.o,y.o,O];rfl);go_in;go_wp2_with (go_at_call 62;refine mb_ (QL_ _ _ _ _) ?_;rintro w1 rfl);go_ret;exact⟨Qg_ n0.o.symm,grow_⟩
 |true=>
 cases h1:X3_ l0 with
 |false=>
  have n0:=h_ (show Kf_ m l0 l1 l2 l3=φ by rw[n.o,y.o,O,h1];rfl);have H:=h_<|A.o _ h1;go_in;go_wp2_with (go_at_call 62;refine mb_ (QL_ _ _ _ _) ?_;rintro w1 rfl)
  refine mb_ (H.o _ (c0.o _ grow_)) ?_;intro w2 c;have a:=Q7_ br c;have g:=(Blk.fresh c).cell;have j:=(Blk.fresh c).lt;go_wp2;go_ret;exact⟨Qg_ n0.o.symm,a⟩
 |true=>
 cases c:KS_ l0 l1 with
 |false=>
  have n0:=h_ (show Kf_ m l0 l1 l2 l3=φ by rw[n.o,y.o,O,h1,c];rfl);have B:=h_<|A.o _ h1;have D:=h_<|N.o h1 _ c;go_in;go_wp2_with (go_at_call 62;refine mb_ (QL_ _ _ _ _) ?_;rintro w1 rfl)
  refine mb_ (B.o _ (c0.o _ grow_)) ?_;intro w2 c;have K:=Blk.fresh c;have a:=Q7_ br c;have g:=K.cell;have j:=K.lt;go_wp2_with fail;refine mb_ (D.o _ (c0.o _ grow_)) ?_;intro w3 l;replace a:=Qb_ a l;go_wp2;go_ret;exact⟨Qg_ n0.o.symm,a⟩
 |true=>
  have z:=QaN_ c;rw[hl.o.2.1]at z;obtain⟨i1,i2⟩:=z;have o:=h_ (show GS_ m l0 l1 l2 l3=(decide (n2<=40)&&decide (n3<=20))by rw[y.o,O,h1,c];rfl);have B:=h_<|A.o _ h1;have D:=h_<|N.o h1 _ c;by_cases l:n2<=40
  ·by_cases G:n3<=20
   ·have E:=h_ (show GS_ m l0 l1 l2 l3=τ by rw[o.o,dt_ l,dt_ G];rfl);go_in;go_wp2_with (go_at_call 62;refine mb_ (QL_ _ _ _ _) ?_;rintro w1 rfl);refine mb_ (B.o _ (c0.o _ grow_)) ?_;intro w2 c;have K:=Blk.fresh c;have a:=Q7_ br c;have g:=K.cell;have j:=K.lt;go_wp2_with fail;refine mb_ (D.o _ (c0.o _ grow_)) ?_;intro w3 l;replace a:=Qb_ a l;replace K:=K.next l;have g:=K.cell;have j:=K.lt;go_wp2;go_loopw [36] (λi wr=>∃k:Nat,k<=n2/\AllK (Y8_ n1) l2 k/\i=I_ j_ k/\Blk wr w.heap.size 149 #[I_ j_ m,S_ e f q,S_ A1 n1 c1,S_ A2 n2 c2,S_ A3 n3 c3]/\Λ w wr) (λi _=>n2-(intOf i).toNat)
    ·exact⟨0,lz_ _,Z9_ _ _,rfl,K,a⟩
    obtain⟨k,hk,v,rfl,K,a⟩:=hrel;by_cases L:k<n2
    ·obtain⟨⟨x0,x1,T⟩,hd⟩:∃d,l2[k]? =σ d:=⟨_,gE (by have:=hl.o.2.2.1;omega)⟩;obtain⟨b,off,hA,P,q,c1,c2⟩:=WJ_ (c0.o _ a).2.2.1 L hd;have C:=h_ v;have p:=h_ hd;have s:Ψ (Y8_ n1 k (x0,x1,T)=(decide (0<=x0)&&(decide (x0<=x1)&&(decide (x1<(n1:Int)-1)&&inB T 0 9)))):=rfl;have x:=h_ (λ(h:Y8_ n1 k (x0,x1,T)=φ)=>show Kf_ m l0 l1 l2 l3=φ by rw[n.o,E.o,XF_ p.o h];rfl);have g:=K.cell;have j:=K.lt;have hz:=a.size;subst hA;by_cases r:0<=x0
     ·by_cases t:x0<=x1
      ·by_cases F:x1<(n1:Int)-1
       ·cases V:inB T 0 9 with
        |false=>
         have n0:=h_<|x.o (by rw[s.o,V];simp);go_wp2_with (go_at_call 62;refine mb_ (QL_ _ _ _ _) ?_;rintro w1 rfl)
         go_ret;exact⟨Qg_ n0.o.symm,grow_⟩
        |true=>
         have M:=ZK_ C.o p.o (by rw[s.o,V,dt_ r,dt_ t,dt_ F];rfl);go_wp2_with (go_at_call 62;refine mb_ (QL_ _ _ _ _) ?_;rintro w1 rfl);exact⟨⟨k+1,oo,M,by go_num,K.alloc _,grow_⟩,ms_⟩
       have n0:=h_<|x.o (by rw[s.o,df_ F];simp);have ae:(n1:Int)-1<=x1:=oo;go_wp2;go_ret;exact⟨Qg_ n0.o.symm,grow_⟩
      have n0:=h_<|x.o (by rw[s.o,df_ t];simp);have ad:x1<x0:=oo;go_wp2;go_ret;exact⟨Qg_ n0.o.symm,grow_⟩
     have n0:=h_<|x.o (by rw[s.o,df_ r];simp);have ac:x0<0:=oo;go_wp2;go_ret;exact⟨Qg_ n0.o.symm,grow_⟩
    have HS:=h_<|XV_ v (by have:=hl.o.2.2.1;omega);have g:=K.cell;have j:=K.lt;go_wp2;obtain⟨wO,ab⟩:∃wO,wO=wr:=⟨_,rfl⟩;subst ab;go_loopw [69] (λi wr=>∃k:Nat,k<=n3/\AllK (ka_ f) l3 k/\i=I_ j_ k/\Blk wr w.heap.size 149 #[I_ j_ m,S_ e f q,S_ A1 n1 c1,S_ A2 n2 c2,S_ A3 n3 c3]/\Λ w wr) (λi _=>n3-(intOf i).toNat)
    ·exact⟨0,lz_ _,Z9_ _ _,rfl,K,a⟩
    obtain⟨k,hk,v,rfl,K,a⟩:=hrel;by_cases L:k<n3
    ·obtain⟨⟨x0,x1⟩,hd⟩:∃d,l3[k]? =σ d:=⟨_,gE (by have:=hl.o.2.2.2;omega)⟩;obtain⟨b,off,hA,P,q,c1⟩:=Qax_ (c0.o _ a).2.2.2 L hd;have C:=h_ v;have p:=h_ hd;have s:Ψ (ka_ f k (x0,x1)=(inB x0 0 ((f:Int)-1)&&(inB x1 0 ((f:Int)-1)&&!decide (x0=x1)))):=rfl;have x:=h_ (λ(h:ka_ f k (x0,x1)=φ)=>show Kf_ m l0 l1 l2 l3=φ by rw[n.o,E.o,HS.o,XF_ p.o h];rfl);have g:=K.cell;have j:=K.lt;have hz:=a.size;subst hA;go_wp2_with fail;refine mb_ (HI.o _ _) ?_;intro w4 G;have I:=Q7_ a G;have R:=K.next1 G;have Q:=Blk.fresh G;have g:=R.cell;have j:=R.lt;have cB:=Q.cell;have zB:=Q.lt
     cases r:inB x0 0 ((f:Int)-1)with
     |false=>
      have n0:=h_<|x.o (by rw[s.o,r];rfl);go_wp2;go_ret;exact⟨Qg_ n0.o.symm,I⟩
     |true=>
     go_wp2_with fail;refine mb_ (HI.o _ _) ?_;intro w5 S;have J:=Qb_ I S;have U:=R.next S;have B5:=Q.next S;have g:=U.cell;have j:=U.lt;have cB:=B5.cell;have zB:=B5.lt
     cases t:inB x1 0 ((f:Int)-1)with
     |false=>
      have n0:=h_<|x.o (by rw[s.o,r,t];rfl);go_wp2;go_ret;exact⟨Qg_ n0.o.symm,J⟩
     |true=>
     by_cases F:x0=x1
     ·have n0:=h_<|x.o (by rw[s.o,r,t,dt_ F];rfl);subst F;go_wp2;go_ret;exact⟨Qg_ n0.o.symm,J⟩
     have M:=ZK_ C.o p.o (by rw[s.o,r,t,df_ F];rfl);have V:(x0==x1)=φ:=bn_.2 F;go_wp2;exact⟨⟨k+1,oo,M,by go_num,U,J⟩,ms_⟩
    have n0:=h_ (show Kf_ m l0 l1 l2 l3=τ by rw[n.o,E.o,HS.o,XV_ v (by have:=hl.o.2.2.2;omega)];rfl);go_wp2;go_ret;exact⟨Qg_ n0.o.symm,a⟩
   have n0:=h_ (show Kf_ m l0 l1 l2 l3=φ by rw[n.o,o.o,df_ G];simp);have X:(20:Int)<(n3:Int):=oo;go_in;go_wp2_with (go_at_call 62;refine mb_ (QL_ _ _ _ _) ?_;rintro w1 rfl);refine mb_ (B.o _ (c0.o _ grow_)) ?_;intro w2 c;have K:=Blk.fresh c;have a:=Q7_ br c;have g:=K.cell;have j:=K.lt;go_wp2_with fail;refine mb_ (D.o _ (c0.o _ grow_)) ?_;intro w3 l;replace a:=Qb_ a l;replace K:=K.next l;have g:=K.cell;have j:=K.lt;go_wp2;go_ret;exact⟨Qg_ n0.o.symm,a⟩
  have n0:=h_ (show Kf_ m l0 l1 l2 l3=φ by rw[n.o,o.o,df_ l];simp);have X:(40:Int)<(n2:Int):=oo;go_in;go_wp2_with (go_at_call 62;refine mb_ (QL_ _ _ _ _) ?_;rintro w1 rfl);refine mb_ (B.o _ (c0.o _ grow_)) ?_;intro w2 c;have K:=Blk.fresh c;have a:=Q7_ br c;have g:=K.cell;have j:=K.lt;go_wp2_with fail;refine mb_ (D.o _ (c0.o _ grow_)) ?_;intro w3 l;replace a:=Qb_ a l;replace K:=K.next l;have g:=K.cell;have j:=K.lt;go_wp2;go_ret;exact⟨Qg_ n0.o.symm,a⟩
def plI (c:Int):Bool:=decide (32<=c/\c<=126)
def kX_:Δ π 106 #[I_ .u8 m] w (RS_ (B_ (plI m)) w):=by
 by_cases h1:32<=m
 ·by_cases h2:m<=126
  ·go_in;go_wp2;go_ret;exact⟨Qg_ (show τ=plI m from(dt_ ⟨h1,h2⟩).symm),rfl⟩
  go_in;go_wp2;go_ret;exact⟨Qg_ (show φ=plI m from(df_ oo).symm),rfl⟩
 have a:m<32:=oo;go_in;go_wp2;go_ret;exact⟨Qg_ (show φ=plI m from(df_ oo).symm),rfl⟩
def Vl_ (hs:g.size<=maxLen):Δ π 134 #[T_ g] w (RS_ (B_ (QV_ g)) w):=by
 unfold maxLen at hs;go_in;go_wp2
 go_loop [3] (λi=>∃k:Nat,k<=g.size/\PlTo g k/\i=I_ j_ k) (λi=>g.size-(intOf i).toNat)
 ·exact⟨0,lz_ _,xo_ g,rfl⟩
 obtain⟨k,hk,ha,rfl⟩:=hrel;by_cases d:k<g.size
 ·have s:=h_ (λ(b:Bool) (hb:pl g[k]=b) (W:Ω)=>show Δ π 106 #[I_ .u8 (g[k].toNat:Int)] W λe w'=>e=R_ (B_ b)/\W=w' by rw[<-hb];exact kX_ _ W)
  cases c:pl g[k]with
  |false=>
   have f:=h_<|jJ_ d c;have a:=h_<|s.o _ c;go_wp2_with (go_at_call 106;refine mb_ (a.o _) ?_;rintro w1 rfl)
   go_ret;exact⟨Qg_ f.o.symm,rfl⟩
  |true=>
   have f:=xn_ ha d c;have a:=h_<|s.o _ c;go_wp2_with (go_at_call 106;refine mb_ (a.o _) ?_;rintro w1 rfl)
   exact⟨⟨k+1,oo,f,by go_num⟩,ms_⟩
 have f:=h_<|Qaa_ ha oo;go_wp2;go_ret;exact⟨Qg_ f.o.symm,rfl⟩
def Ks_ (h:inB a b n=v) (w:Ω):Δ π 34 #[I_ j_ a,I_ j_ b,I_ j_ n] w λe w'=>e=R_ (B_ v)/\w'=w:=by
 rw[<-h];exact(KH_ a b n w).mono λ_ _ h=>⟨h.1,h.2.symm⟩
def k6_ (l0:List RuleD) (A1:OA) (n1 c1:Nat) (l1:List ChunkD) (A2:OA) (n2 c2:Nat) (l2:List SpanD) (A3:OA) (n3 c3:Nat) (l3:List TieD) (r A0:Int) (s:Bool) (n0:Int) (w:Ω) (hl:Ψ (LenP f l0 n1 l1 n2 l2 n3 l3)) (hr:RdP w e f l0 A1 n1 l1 A2 n2 l2 A3 n3 l3) (hn:f<=8) (hv:Ψ (KG_ YJ_ l0=τ)):
  Δ π 191 #[A_ #[I_ j_ m,S_ e f q,S_ A1 n1 c1,S_ A2 n2 c2,S_ A3 n3 c3],A_ #[I_ j_ r,I_ j_ A0,B_ s,I_ j_ n0]] w (RB_ (B_ (KW_ l0 r A0 n0)) w):=by
 have HD:Ψ (KW_ l0 r A0 n0=(inB r 0 ((f:Int)-1)&&inB n0 0 40&&jk_ l0 r A0)):=by
  have:=hl.o.1;exact h_ (by unfold KW_;rw[this])
 have hL:=h_ hl.o.1;have hR:=hr.1;have k0:IntKind.i64.wrap ((f:Int)-1)=(f:Int)-1:=by rw[IntKind.wrap_i64];omega
 have j:=h_ k0
 cases g:inB r 0 ((f:Int)-1)with
 |false=>
  have h:=h_ (show KW_ l0 r A0 n0=φ by rw[HD.o,g];rfl);go_in;go_wp2;have k0:=j.o;go_quiet ((go_at_call 34;first|(with_reducible exact Calls.quiet_of_same (Ks_ g _))|exact Calls.quiet_of_same (Ks_ rfl _)));go_wp2;go_ret;exact⟨Qg_ h.o.symm,grow_⟩
 |true=>
  obtain⟨r1,r2⟩:=Yl_ g;obtain⟨k,rfl⟩:=eo_ r1;have l:k<f:=oo;obtain⟨⟨x0,x1⟩,hd⟩:∃d,l0[k]? =σ d:=⟨_,gE (by have:=hL.o;omega)⟩;have a:=vr_ hv.o hd;have h:=h_ (show KW_ l0 (k:Int) A0 n0=(inB n0 0 40&&inB A0 1 (x0-1))by rw[HD.o,g,vK_ hd,τb]);have n:2<=x0/\x0<=3:=by
   unfold YJ_ at a;have:=(τa _ _).mp a;exact Yl_ this.1
  obtain⟨v0,v1⟩:=n;have i:IntKind.i64.wrap (x0-1)=x0-1:=vN_ x0 oo oo;have hW:=h_ i;obtain⟨b,off,hA,o,q,c1⟩:=Xo_ ((hR.alloc (C_ #[I_ j_ m,S_ e f q,S_ A1 n1 c1,S_ A2 n2 c2,S_ A3 n3 c3] 149)).alloc (C_ #[I_ j_ (k:Int),I_ j_ A0,B_ s,I_ j_ n0] 176)) l hd;subst hA;have p:(0:Int)<=(k:Int):=oo;have t:(k:Int)<(f:Int):=oo
  cases h1:inB A0 1 (x0-1)with
  |false=>
   have c:=h_ (show KW_ l0 (k:Int) A0 n0=φ by rw[h.o,h1,φb]);go_in;go_wp2;have k0:=j.o;have i:=hW.o;go_quiet ((go_at_call 34;first|(with_reducible exact Calls.quiet_of_same (Ks_ g _))|(with_reducible exact Calls.quiet_of_same (Ks_ h1 _))|exact Calls.quiet_of_same (Ks_ rfl _)));go_wp2;go_ret;exact⟨Qg_ c.o.symm,grow_⟩
  |true=>
   have c:=h_ (show KW_ l0 (k:Int) A0 n0=inB n0 0 40 by rw[h.o,h1,τc]);go_in;go_wp2;have k0:=j.o;have i:=hW.o;go_quiet ((go_at_call 34;first|(with_reducible exact Calls.quiet_of_same (Ks_ g _))|(with_reducible exact Calls.quiet_of_same (Ks_ h1 _))|exact Calls.quiet_of_same (Ks_ rfl _)));go_wp2;go_ret;exact⟨Qg_ c.o.symm,grow_⟩
def Jl_ (h:QV_ s=v) (hs:s.size<=maxLen) (w:Ω):Δ π 134 #[T_ s] w (RS_ (B_ v) w):=by
 rw[<-h];exact Vl_ s w hs
def QdR_ (l0:List RuleD) (l1:List ChunkD) (l2:List SpanD) (l3:List TieD):
  Kf_ m l0 l1 l2 l3=(inB m 0 60&&(decide (η l0<=8)&&(inB (η l1) 1 80&&(decide (η l2<=40)&&(decide (η l3<=20)&&(KG_ YJ_ l0&&(KG_ (ZT_ l0 (η l1)) l1&&(Vm_ l1&&(KG_ (Y8_ (η l1)) l2&&KG_ (ka_ (η l0)) l3))))))))):=by
 unfold Kf_ GS_ X3_ KS_;generalize inB m 0 60=b0;generalize decide (η l0<=8)=b1;generalize inB (η l1) 1 80=b2;generalize decide (η l2<=40)=b3;generalize decide (η l3<=20)=b4;generalize KG_ YJ_ l0=b5;generalize KG_ (ZT_ l0 (η l1)) l1=b6;generalize Vm_ l1=b7;generalize KG_ (Y8_ (η l1)) l2=b8;generalize KG_ (ka_ (η l0)) l3=b9
 ac_rfl
def QfY_:Y8_ f q (i,o,p)=(inB o 0 ((f:Int)-2)&&(inB i 0 o&&inB p 0 9)):=by
 unfold Y8_ inB;rw[Bool.eq_iff_iff];simp only[τa,decide_eq_true_eq];constructor
 ·rintro⟨a,b,c,d⟩;exact⟨oo,oo,d⟩
 rintro⟨a,b,c⟩;exact⟨oo,oo,oo,c⟩
def WL_ (l0:List RuleD) (A1:OA) (n1 c1:Nat) (l1:List ChunkD) (A2:OA) (n2 c2:Nat) (l2:List SpanD) (A3:OA) (n3 c3:Nat) (l3:List TieD) (w:Ω) (hl:Ψ (LenP f l0 n1 l1 n2 l2 n3 l3)) (hr:RdP w e f l0 A1 n1 l1 A2 n2 l2 A3 n3 l3) (hn:f<=1048576/\n1<=1048576/\n2<=1048576/\n3<=1048576) (hs:Ψ (∀d∈l1,d.1.size<=maxLen)):
  Δ π 139 #[A_ #[I_ j_ m,S_ e f q,S_ A1 n1 c1,S_ A2 n2 c2,S_ A3 n3 c3]] w (RB_ (B_ (Kf_ m l0 l1 l2 l3)) w):=by
 have U:=h_ (λW (hW:Λ w W)=>hr.next hW);obtain⟨q0,q1,q2,q3⟩:=hn;have F:Ψ (Kf_ m l0 l1 l2 l3=(inB m 0 60&&(decide (f<=8)&&(inB n1 1 80&&(decide (n2<=40)&&(decide (n3<=20)&&(KG_ YJ_ l0&&(KG_ (ZT_ l0 n1) l1&&(Vm_ l1&&(KG_ (Y8_ n1) l2&&KG_ (ka_ f) l3)))))))))):=by
  obtain⟨o,v,E,e3⟩:=hl.o;have h:=QdR_ m l0 l1 l2 l3;rw[o,v,E,e3]at h;exact h_ h
 have t:=h_ (λ(h8:f<=8) (hv:KG_ YJ_ l0=τ) (x1 n:Int) (C:Bool) (c0:Int) (b:Bool) (g:KW_ l0 x1 n c0=b) (W:Ω) (hR:RdP W e f l0 A1 n1 l1 A2 n2 l2 A3 n3 l3)=>show Δ π 191 #[A_ #[I_ j_ m,S_ e f q,S_ A1 n1 c1,S_ A2 n2 c2,S_ A3 n3 c3],A_ #[I_ j_ x1,I_ j_ n,B_ C,I_ j_ c0]] W λA0 w'=>A0=R_ (B_ b)/\Λ W w' by rw[<-g];exact k6_ m e f q l0 A1 n1 c1 l1 A2 n2 c2 l2 A3 n3 c3 l3 x1 n C c0 W hl hR h8 (h_ hv))
 cases h0:inB m 0 60 with
 |false=>
  have c:=h_ (show Kf_ m l0 l1 l2 l3=φ by rw[F.o,h0];rfl);go_in;go_wp2_with (go_at_call 34;refine mb_ (KH_ _ _ _ _) ?_;rintro w1 rfl);go_ret;exact⟨Qg_ c.o.symm,grow_⟩
 |true=>
 by_cases h1:f<=8
 rotate_left
 ·
  have c:=h_ (show Kf_ m l0 l1 l2 l3=φ by rw[F.o,df_ h1];simp);have aG:(8:Int)<(f:Int):=oo;go_in;go_wp2_with (go_at_call 34;refine mb_ (KH_ _ _ _ _) ?_;rintro w1 rfl);go_ret;exact⟨Qg_ c.o.symm,grow_⟩
 cases O:inB (n1:Int) 1 80 with
 |false=>
  have c:=h_ (show Kf_ m l0 l1 l2 l3=φ by rw[F.o,O];simp);go_in;go_wp2_with (go_at_call 34;refine mb_ (KH_ _ _ _ _) ?_;rintro w1 rfl);go_ret;exact⟨Qg_ c.o.symm,grow_⟩
 |true=>
 by_cases h3:n2<=40
 rotate_left
 ·
  have c:=h_ (show Kf_ m l0 l1 l2 l3=φ by rw[F.o,df_ h3];simp);have aH:(40:Int)<(n2:Int):=oo;go_in;go_wp2_with (go_at_call 34;refine mb_ (KH_ _ _ _ _) ?_;rintro w1 rfl);go_ret;exact⟨Qg_ c.o.symm,grow_⟩
 by_cases h4:n3<=20
 rotate_left
 ·
  have c:=h_ (show Kf_ m l0 l1 l2 l3=φ by rw[F.o,df_ h4];simp);have aI:(20:Int)<(n3:Int):=oo;go_in;go_wp2_with (go_at_call 34;refine mb_ (KH_ _ _ _ _) ?_;rintro w1 rfl);go_ret;exact⟨Qg_ c.o.symm,grow_⟩
 have I:=h_ (show Kf_ m l0 l1 l2 l3=(KG_ YJ_ l0&&(KG_ (ZT_ l0 n1) l1&&(Vm_ l1&&(KG_ (Y8_ n1) l2&&KG_ (ka_ f) l3))))by rw[F.o,h0,O,dt_ h1,dt_ h3,dt_ h4];simp);obtain⟨i1,i2⟩:=Yl_ O;go_in;go_wp2_with (go_at_call 34;refine mb_ (KH_ _ _ _ _) ?_;rintro w1 rfl);go_loopw [4] (λi wr=>∃k:Nat,k<=f/\AllK YJ_ l0 k/\i=I_ j_ k/\Blk wr w.heap.size 149 #[I_ j_ m,S_ e f q,S_ A1 n1 c1,S_ A2 n2 c2,S_ A3 n3 c3]/\Λ w wr) (λi _=>f-(intOf i).toNat)
 ·exact⟨0,lz_ _,Z9_ _ _,rfl,Blk.new _ _ _,grow_⟩
 case round=>
 obtain⟨k,hk,p,rfl,K,g⟩:=hrel;by_cases A:k<f
 ·obtain⟨⟨x0,x1⟩,hd⟩:∃d,l0[k]? =σ d:=⟨_,gE (by have:=hl.o.1;omega)⟩;obtain⟨b,off,hA,n0,P,Q⟩:=Xo_ (U.o _ g).1 A hd;have x:=h_ p;have j:=h_ hd;have r:Ψ (YJ_ k (x0,x1)=(inB x0 2 3&&inB x1 0 9)):=rfl;have G:=h_ (λ(h:YJ_ k (x0,x1)=φ)=>show Kf_ m l0 l1 l2 l3=φ by rw[I.o,XF_ j.o h];rfl);have N:=K.cell;have D:=K.lt;subst hA
  cases o:inB x0 2 3 with
  |false=>
   have c:=h_<|G.o (by rw[r.o,o];rfl);go_wp2_with (go_at_call 34;refine mb_ (KH_ _ _ _ _) ?_;rintro w1 rfl)
   go_ret;exact⟨Qg_ c.o.symm,g⟩
  |true=>
  cases v:inB x1 0 9 with
  |false=>
   have c:=h_<|G.o (by rw[r.o,o,v];rfl);go_wp2_with (go_at_call 34;refine mb_ (KH_ _ _ _ _) ?_;rintro w1 rfl)
   go_ret;exact⟨Qg_ c.o.symm,g⟩
  |true=>
   have B:=ZK_ x.o j.o (by rw[r.o,o,v];rfl);go_wp2_with (go_at_call 34;refine mb_ (KH_ _ _ _ _) ?_;rintro w1 rfl);exact⟨⟨k+1,oo,B,by go_num,K,g⟩,ms_⟩
 have S:=XV_ p (by have:=hl.o.1;omega);have J:=h_ (show Kf_ m l0 l1 l2 l3=(KG_ (ZT_ l0 n1) l1&&(Vm_ l1&&(KG_ (Y8_ n1) l2&&KG_ (ka_ f) l3)))by rw[I.o,S];rfl);have aa:=h_<|t.o h1 S;have N:=K.cell;have D:=K.lt;go_wp2;obtain⟨wO,ar⟩:∃wO,wO=wr:=⟨_,rfl⟩;subst ar;go_loopw [5] (λi wr=>∃k:Nat,k<=n1/\AllK (ZT_ l0 n1) l1 k/\i=I_ j_ k/\Blk wr w.heap.size 149 #[I_ j_ m,S_ e f q,S_ A1 n1 c1,S_ A2 n2 c2,S_ A3 n3 c3]/\Λ w wr) (λi _=>n1-(intOf i).toNat)
 ·exact⟨0,lz_ _,Z9_ _ _,rfl,K,g⟩
 case round=>
 obtain⟨k,hk,p,rfl,K,g⟩:=hrel;by_cases A:k<n1
 ·obtain⟨⟨x0,x1,n,C,c0⟩,hd⟩:∃d,l1[k]? =σ d:=⟨_,gE (by have:=hl.o.2.1;omega)⟩;have HX:=h_ (hs.o _ (lm_ hd));have x:=h_ p;have j:=h_ hd;have r:Ψ (ZT_ l0 n1 k (x0,x1,n,C,c0)=(QV_ x0&&(decide (n1<=k+1)||KW_ l0 x1 n c0))):=rfl;have G:=h_ (λ(h:ZT_ l0 n1 k (x0,x1,n,C,c0)=φ)=>show Kf_ m l0 l1 l2 l3=φ by rw[J.o,XF_ j.o h];rfl);obtain⟨b,off,hA,n0,P,Q,V,y3,y4⟩:=Zk_ (U.o _ g).2.1 A hd;have Z:=h_ (U.o _ g);subst hA;have D:=K.lt;have k0:wr.cell? ⟨w.heap.size,0,ν⟩=σ (I_ j_ m):=K.cell 0;have k1:wr.cell? ⟨w.heap.size,1,ν⟩=σ (S_ e f q):=K.cell 1;have k2:wr.cell? ⟨w.heap.size,2,ν⟩=σ (S_ (σ ⟨b,off,ν⟩) n1 c1):=K.cell 2;have k3:wr.cell? ⟨w.heap.size,3,ν⟩=σ (S_ A2 n2 c2):=K.cell 3;have k4:wr.cell? ⟨w.heap.size,4,ν⟩=σ (S_ A3 n3 c3):=K.cell 4;have aJ:(0:Int)<=(k:Int):=oo;have aK:(k:Int)<(n1:Int):=oo;have wk:IntKind.i64.wrap ((k:Int)+1)=(k:Int)+1:=by rw[IntKind.wrap_i64];omega
  have WK:=h_ wk
  -- what the test comes to
  have T:∃(bad:Bool),(bad=τ->ZT_ l0 n1 k (x0,x1,n,C,c0)=φ)/\(bad=φ->ZT_ l0 n1 k (x0,x1,n,C,c0)=τ)/\bad=!ZT_ l0 n1 k (x0,x1,n,C,c0):=⟨_,by cases ZT_ l0 n1 k (x0,x1,n,C,c0)<;>simp,by cases ZT_ l0 n1 k (x0,x1,n,C,c0)<;>simp,rfl⟩;obtain⟨bad,af,ag,ah⟩:=T;have al:=h_ af;have am:=h_ ag;have R:=h_ ah;go_upto_region 12 with fail
  go_cut [94] (λs wx=>s=B_ bad/\Λ wr wx)
  ·
   have wk:=WK.o
   cases o:QV_ x0 with
   |false=>
    have a:bad=τ:=(by rw[R.o,r.o,o];rfl);have X:=h_ a;go_quiet ((go_at_call 134;(with_reducible exact Calls.quiet_of_same ((Jl_ o HX.o _).mono λ_ _ h=>⟨h.1,h.2.symm⟩))))
    all_goals (go_wp2_with fail;go_meet;exact⟨by rw[X.o],grow_⟩)
   |true=>
    by_cases H:n1<=k+1
    ·have a:bad=φ:=(by rw[R.o,r.o,o,dt_ H];rfl);have X:=h_ a;have hq:¬((k:Int)+1<(n1:Int)):=oo;go_quiet ((go_at_call 134;(with_reducible exact Calls.quiet_of_same ((Jl_ o HX.o _).mono λ_ _ h=>⟨h.1,h.2.symm⟩))))
     all_goals (go_wp2_with fail;go_meet;exact⟨by rw[X.o],grow_⟩)
    have hq:((k:Int)+1<(n1:Int)):=oo;have a:bad=!KW_ l0 x1 n c0:=(by rw[R.o,r.o,o,df_ H];simp);have X:=h_ a
    go_region_held3 (λw'=>w'.cell? ⟨w.heap.size,0,ν⟩=σ (I_ j_ m)/\w'.cell? ⟨w.heap.size,1,ν⟩=σ (S_ e f q)/\w'.cell? ⟨w.heap.size,2,ν⟩=σ (S_ (σ ⟨b,off,ν⟩) n1 c1)/\w'.cell? ⟨w.heap.size,3,ν⟩=σ (S_ A2 n2 c2)/\w'.cell? ⟨w.heap.size,4,ν⟩=σ (S_ A3 n3 c3)/\w'.cell? ⟨b,off+k*5,ν⟩=σ (T_ x0)/\w'.cell? ⟨b,off+k*5+1,ν⟩=σ (I_ j_ x1)/\w'.cell? ⟨b,off+k*5+2,ν⟩=σ (I_ j_ n)/\w'.cell? ⟨b,off+k*5+3,ν⟩=σ (B_ C)/\w'.cell? ⟨b,off+k*5+4,ν⟩=σ (I_ j_ c0)) (first|exact⟨k0,k1,k2,k3,k4,P,Q,V,y3,y4⟩|exact⟨u0,u1,u2,u3,u4,u5,u6,u7,u8,u9⟩|go_keep) (first|(go_at_call 134;(with_reducible refine(Jl_ o HX.o _).mono ?_);rintro A0 w8 ⟨rfl,rfl⟩)|(go_at_call 191;refine mb_ (aa.o _ _ _ _ _ rfl _ (by first|exact Z.o|exact Z.o.drew)) ?_;intro w9 h9;have l:Λ wr w9:=Qb_ grow_ h9;have u0:=((QW_ l).1 _ _ D).trans k0;have u1:=((QW_ l).1 _ _ D).trans k1;have u2:=((QW_ l).1 _ _ D).trans k2;have u3:=((QW_ l).1 _ _ D).trans k3;have u4:=((QW_ l).1 _ _ D).trans k4;have u5:=((QW_ l).1 _ _ n0).trans P;have u6:=((QW_ l).1 _ _ n0).trans Q;have u7:=((QW_ l).1 _ _ n0).trans V;have u8:=((QW_ l).1 _ _ n0).trans y3;have u9:=((QW_ l).1 _ _ n0).trans y4))
    all_goals (go_wp2_with fail;go_meet;exact⟨by rw[X.o],l⟩)
  case rest=>
  obtain⟨rfl,O⟩:=hcut;have ab:=Qb_ g O;have K2:=K.next O
  cases a:bad with
  |true=>
   have c:=h_<|G.o<|al.o a;go_wp2;go_ret;exact⟨Qg_ c.o.symm,ab⟩
  |false=>
   have B:=ZK_ x.o j.o<|am.o a;go_wp2;exact⟨⟨k+1,oo,B,by go_num,K2,ab⟩,ms_⟩
 have ac:=XV_ p (by have:=hl.o.2.1;omega);have Y:=h_ (show Kf_ m l0 l1 l2 l3=(Vm_ l1&&(KG_ (Y8_ n1) l2&&KG_ (ka_ f) l3))by rw[J.o,ac];rfl);obtain⟨⟨x0,x1,n,C,c0⟩,hd⟩:∃d,l1[n1-1]? =σ d:=⟨_,gE (by have:=hl.o.2.1;omega)⟩;have ad:n1-1<n1:=oo;obtain⟨b,off,hA,n0,P,Q,V,y3,y4⟩:=Zk_ (U.o _ g).2.1 ad hd;have y:=h_ (show Kf_ m l0 l1 l2 l3=(GM_ (x0,x1,n,C,c0)&&(KG_ (Y8_ n1) l2&&KG_ (ka_ f) l3))by rw[Y.o];unfold Vm_;rw[hl.o.2.1,hd]);have c:=h_ (λ(h:GM_ (x0,x1,n,C,c0)=φ)=>show Kf_ m l0 l1 l2 l3=φ by rw[y.o,h];rfl);have N:=K.cell;have D:=K.lt;have j0:((n1-1:Nat):Int)=(n1:Int)-1:=oo;have J0:=h_ j0;subst hA;by_cases v:x1=0
 rotate_left
 ·
  have z:=h_<|c.o (by simp[GM_,v]);have aD:(x1==0)=φ:=bn_.2 v;go_wp2;go_ret;exact⟨Qg_ z.o.symm,g⟩
 subst v;by_cases E:n=0
 rotate_left
 ·
  have z:=h_<|c.o (by simp[GM_,E]);have aE:(n==0)=φ:=bn_.2 E;go_wp2;go_ret;exact⟨Qg_ z.o.symm,g⟩
 subst E
 cases C with
 |true=>
  have z:=h_<|c.o (by simp[GM_]);go_wp2;go_ret;exact⟨Qg_ z.o.symm,g⟩
 |false=>
 by_cases e4:c0=0
 rotate_left
 ·
  have z:=h_<|c.o (by simp[GM_,e4]);have aF:(c0==0)=φ:=bn_.2 e4;go_wp2;go_ret;exact⟨Qg_ z.o.symm,g⟩
 subst e4;have L:=h_ (show Kf_ m l0 l1 l2 l3=(KG_ (Y8_ n1) l2&&KG_ (ka_ f) l3)by rw[y.o];rfl);go_wp2;obtain⟨wP,av⟩:∃wP,wP=wr:=⟨_,rfl⟩;subst av;go_loopw [6] (λi wr=>∃k:Nat,k<=n2/\AllK (Y8_ n1) l2 k/\i=I_ j_ k/\Blk wr w.heap.size 149 #[I_ j_ m,S_ e f q,S_ (σ ⟨b,off,ν⟩) n1 c1,S_ A2 n2 c2,S_ A3 n3 c3]/\Λ w wr) (λi _=>n2-(intOf i).toNat)
 ·exact⟨0,lz_ _,Z9_ _ _,rfl,K,g⟩
 case round=>
 obtain⟨k,hk,p,rfl,K,g⟩:=hrel;by_cases A:k<n2
 ·obtain⟨⟨x0,x1,n⟩,hd⟩:∃d,l2[k]? =σ d:=⟨_,gE (by have:=hl.o.2.2.1;omega)⟩;obtain⟨b',ai,hA,n0,P,Q,V⟩:=WJ_ (U.o _ g).2.2.1 A hd;have x:=h_ p;have j:=h_ hd;have r:=h_ (QfY_ n1 k x0 x1 n);have G:=h_ (λ(h:Y8_ n1 k (x0,x1,n)=φ)=>show Kf_ m l0 l1 l2 l3=φ by rw[L.o,XF_ j.o h];rfl);have N:=K.cell;have D:=K.lt;have hz:=g.size;subst hA
  cases o:inB x1 0 ((n1:Int)-2)with
  |false=>
   have c:=h_<|G.o (by rw[r.o,o];rfl);go_wp2_with (go_at_call 34;refine mb_ (KH_ _ _ _ _) ?_;rintro w1 rfl)
   go_ret;exact⟨Qg_ c.o.symm,grow_⟩
  |true=>
  cases v:inB x0 0 x1 with
  |false=>
   have c:=h_<|G.o (by rw[r.o,o,v];rfl);go_wp2_with (go_at_call 34;refine mb_ (KH_ _ _ _ _) ?_;rintro w1 rfl)
   go_ret;exact⟨Qg_ c.o.symm,grow_⟩
  |true=>
  cases E:inB n 0 9 with
  |false=>
   have c:=h_<|G.o (by rw[r.o,o,v,E];rfl);go_wp2_with (go_at_call 34;refine mb_ (KH_ _ _ _ _) ?_;rintro w1 rfl)
   go_ret;exact⟨Qg_ c.o.symm,grow_⟩
  |true=>
   have B:=ZK_ x.o j.o (by rw[r.o,o,v,E];rfl);go_wp2_with (go_at_call 34;refine mb_ (KH_ _ _ _ _) ?_;rintro w1 rfl);exact⟨⟨k+1,oo,B,by go_num,K.alloc _,grow_⟩,ms_⟩
 have ae:=XV_ p (by have:=hl.o.2.2.1;omega);have M:=h_ (show Kf_ m l0 l1 l2 l3=KG_ (ka_ f) l3 by rw[L.o,ae];rfl);have N:=K.cell;have D:=K.lt;go_wp2;obtain⟨wQ,ax⟩:∃wQ,wQ=wr:=⟨_,rfl⟩;subst ax;go_loopw [8] (λi wr=>∃k:Nat,k<=n3/\AllK (ka_ f) l3 k/\i=I_ j_ k/\Blk wr w.heap.size 149 #[I_ j_ m,S_ e f q,S_ (σ ⟨b,off,ν⟩) n1 c1,S_ A2 n2 c2,S_ A3 n3 c3]/\Λ w wr) (λi _=>n3-(intOf i).toNat)
 ·exact⟨0,lz_ _,Z9_ _ _,rfl,K,g⟩
 case round=>
 obtain⟨k,hk,p,rfl,K,g⟩:=hrel;by_cases A:k<n3
 ·obtain⟨⟨x0,x1⟩,hd⟩:∃d,l3[k]? =σ d:=⟨_,gE (by have:=hl.o.2.2.2;omega)⟩;obtain⟨b',ai,hA,n0,P,Q⟩:=Qax_ (U.o _ g).2.2.2 A hd;have x:=h_ p;have j:=h_ hd;have r:Ψ (ka_ f k (x0,x1)=(inB x0 0 ((f:Int)-1)&&(inB x1 0 ((f:Int)-1)&&!decide (x0=x1)))):=rfl;have G:=h_ (λ(h:ka_ f k (x0,x1)=φ)=>show Kf_ m l0 l1 l2 l3=φ by rw[M.o,XF_ j.o h]);have N:=K.cell;have D:=K.lt;have hz:=g.size;subst hA
  cases o:inB x0 0 ((f:Int)-1)with
  |false=>
   have c:=h_<|G.o (by rw[r.o,o];rfl);go_wp2_with (go_at_call 34;refine mb_ (KH_ _ _ _ _) ?_;rintro w1 rfl)
   go_ret;exact⟨Qg_ c.o.symm,grow_⟩
  |true=>
  cases v:inB x1 0 ((f:Int)-1)with
  |false=>
   have c:=h_<|G.o (by rw[r.o,o,v];rfl);go_wp2_with (go_at_call 34;refine mb_ (KH_ _ _ _ _) ?_;rintro w1 rfl)
   go_ret;exact⟨Qg_ c.o.symm,grow_⟩
  |true=>
  by_cases E:x0=x1
  ·have c:=h_ (G.o (by rw[r.o,o,v,dt_ E];rfl));subst E;go_wp2_with (go_at_call 34;refine mb_ (KH_ _ _ _ _) ?_;rintro w1 rfl);go_ret;exact⟨Qg_ c.o.symm,grow_⟩
  have B:=ZK_ x.o j.o (by rw[r.o,o,v,df_ E];rfl);have e3:(x0==x1)=φ:=bn_.2 E;go_wp2_with (go_at_call 34;refine mb_ (KH_ _ _ _ _) ?_;rintro w1 rfl);exact⟨⟨k+1,oo,B,by go_num,K.alloc _,grow_⟩,ms_⟩
 have c:=h_ (show Kf_ m l0 l1 l2 l3=τ by rw[M.o,XV_ p (by have:=hl.o.2.2.2;omega)]);have N:=K.cell;have D:=K.lt;go_wp2;go_ret;exact⟨Qg_ c.o.symm,g⟩
def QcE_ (l:LI) (w:Ω) (hr:Rd w 1 e f (Qa_ l)) (hm:f<=1048576):
  Δ π 288 #[S_ e f q] w λA w'=>∃A3 c3,A=R_ (S_ A3 f c3)/\Mine w' w.heap.size 3 1 A3 f c3 (Qa_ l)/\Λ w w':=by
 have hl:η l=f:=by have:=hr.1;simpa[Qa_]using this
 by_cases h0:f=0
 ·subst h0;obtain rfl:l=[]:=ln_ hl
  cases e with
  |none=>
   refine mb_ (Tryz.slices_Clone_int_nil 0 q w) ?_;rintro w2 rfl;exact⟨ν,0,rfl,Mine.mk_nil _ _ _ _,br⟩
  |some a=>
   refine(Tryz.slices_Clone_int_zero a q w).mono ?_;rintro A w2 ⟨v',rfl,h1,_,d⟩;obtain⟨A3,c3,rfl,m⟩:=Mine.of h1;exact⟨A3,c3,rfl,m,d⟩
 obtain⟨b,off,rfl,hb,hc⟩:=hr.at_ oo;refine(Tryz.slices_Clone_int b off f q l w oo oo (λj hj=>?_)).mono ?_
 ·have:=hc j (I_ j_ (l.getD j 0)) (by
   unfold Qa_;rw[List.getElem?_map,List.getElem?_eq_getElem hj,List.getD_eq_getElem?_getD,List.getElem?_eq_getElem hj];rfl)
  exact this
 rintro A w2 ⟨v',rfl,h1,_,d⟩;rw[List.take_of_length_le oo]at h1;obtain⟨A3,c3,rfl,m⟩:=Mine.of h1;exact⟨A3,c3,rfl,m,d⟩
def Uw_ {P:Program} {w:Ω} {B:Array Oper} {rest:List Oper} {o:Oper} {a:Act} {Q:Exit->Act->Ω->Prop} (r:o.guard=ν) (s x:Operand) (t:TypeId)
  (ho:o.op=.call { callee:=.builtin .append,args:=#[s,x],argTypes:=#[t,t] })
  (base:Nat) (e:TypeId) (i:TypeInfo) (z:Υ) (size f:Nat) (ht:P.underlying t=σ (.slice e)) (hi:P.info? e=σ i) (hz:i.zero=σ z)
  (q:i.size=size) (F:i.bytes=f) (I:z.cells.size=size) (H:0<size)
  (v:Υ) (n:Nat) (xs:List Υ) (hs:a.eval s=v) (g:w.ownsRow base e size v n xs)
  (A:OA) (m c:Nat) (d:List Υ) (hx:a.eval x=S_ A m c) (C:Rd w size A m d) (hA:A=ν->m=0/\c=0) (h1:∀u∈d,u.oneCell'=τ)
  (E:n+m<=maxLen) (l:(n+m)*f<=140737488355328) (p:base<=w.heap.size)
  (h:∀v' w',w'.ownsRow base e size v' (n+m) (xs++d)->w.grownBy w' v.ownBlock->wpList P B Q rest (a.put o.dst v') w'):wpList P B Q (o::rest) a w:=by
 cases A with
 |none=>
  obtain⟨rfl,rfl⟩:=hA rfl;have e0:d=[]:=ln_ (by simpa using C.1);subst e0;exact wpList_append_own_none r s x t ho base e i size ht hi v n xs hs g hx<|h v w (by rw[List.append_nil];exact g) ⟨rfl,rfl,rfl,lr_ _,λk _ _=>rfl⟩
 |some ad=>
  refine Qi_ w r s x t ho base e i z size f ht hi hz q F I H v n xs hs g ad m c d hx C.1 (λj u hj=>?_) h1 E l p (λv' w' h2 h3 _=>h v' w' h2 h3);have y:=(gs_.1 hj).1;rw[C.1]at y;have h0:0<m:=Nat.pos_of_ne_zero (λe=>by subst e;simp at y);obtain⟨b,off,D,_,G⟩:=C.2 h0;injection D with D;subst D;have h7:=G j u hj;unfold Addr.add;split
  ·next e=>subst e;simpa using h7
  simpa using h7
def Below.grown {w wr W1 w3:Ω} {e:TypeId} {s:Nat} {A:OA} {n c:Nat} {xs:List Υ} (hm:Mine wr w.heap.size e s A n c xs) (hb:Λ w wr) (h1:Λ wr W1) (hg:W1.grownBy w3 (S_ A n c).ownBlock):Λ w w3:=by
 have h2:=Qb_ hb h1;rw[Q3_]at hg;exact XY_ h2 hg (λg e=>(Mine.blk hm e).1)
def zg_ {P:Program} {w:Ω} {H:Array Oper} {o:Oper} {a:Act} {K:Act->Ω->Prop} {Q:Exit->Act->Ω->Prop} {E:Prop} (M:o.guard=ν) (s x:Operand) (t:TypeId)
  (ho:o.op=.call { callee:=.builtin .append,args:=#[s,x],argTypes:=#[t,t] })
  (base:Nat) (e:TypeId) (i:TypeInfo) (z:Υ) (size f:Nat) (N:P.underlying t=σ (.slice e)) (hi:P.info? e=σ i) (hz:i.zero=σ z)
  (q:i.size=size) (B:i.bytes=f) (O:z.cells.size=size) (G:0<size)
  (v:Υ) (n:Nat) (xs:List Υ) (hs:a.eval s=v) (l:w.ownsRow base e size v n xs)
  (A:OA) (m c:Nat) (d:List Υ) (hx:a.eval x=S_ A m c) (D:Rd w size A m d) (hA:A=ν->m=0/\c=0) (h1:∀u∈d,u.oneCell'=τ)
  (y:n+m<=maxLen) (g:(n+m)*f<=140737488355328) (r:base<=w.heap.size)
  (h:∀v' w',w'.ownsRow base e size v' (n+m) (xs++d)->w.grownBy w' v.ownBlock->(v'.ownBlock=v.ownBlock\/v'.ownBlock=σ w.heap.size)->K (a.put o.dst v') w'):
  if Region.wanted o (yielded H a.tmps)=τ then Oper.wp P o a w K Q else E:=by
 have hw:Region.wanted o (yielded H a.tmps)=τ:=by simp[Region.wanted,M]
 rw[ip_ hw]
 cases A with
 |none=>
  obtain⟨rfl,rfl⟩:=hA rfl;have e0:d=[]:=ln_ (by simpa using D.1);subst e0;have F:=run_append_owned_none (P:=P) (w:=w) base t o.type e i size N hi v n xs l;unfold Oper.wp;simp[execOp,ho,resolve,invoke,builtin,hs,hx,F,Result.andThen];exact h v w (by rw[List.append_nil];exact l) ⟨rfl,rfl,rfl,lr_ _,λk _ _=>rfl⟩<|.inl rfl
 |some I=>
  have p:∀j u,d[j]? =σ u->w.cell? (I.add j)=σ u:=λj u hj=>by
   have C:=(gs_.1 hj).1;rw[D.1]at C;have h0:0<m:=Nat.pos_of_ne_zero (λe=>by subst e;simp at C);obtain⟨b,off,J,_,L⟩:=D.2 h0;injection J with J;subst J;have h7:=L j u hj;unfold Addr.add;split
   ·next e=>subst e;simpa using h7
   simpa using h7
  obtain⟨v',w',hr,h2,h3,_⟩:=run_append_own (P:=P) w base t o.type e i z size f N hi hz q B O G v n xs l I m c d D.1 p h1 y g r;have h4:=GO_ (P:=P) w base t o.type e i z size f N hi hz q B G v n xs l I m c d D.1 p h1 y g hr;unfold Oper.wp;simp[execOp,ho,resolve,invoke,builtin,hs,hx,hr,Result.andThen];exact h v' w' h2 h3 h4
def z1_ {r:Array Oper} {o:Oper} {a:Act} {K:Act->Ω->Prop} {Q:Exit->Act->Ω->Prop} {E:Prop} (s x:Operand) {A2:OA} {c m c2:Nat} {ks l:List BA}
  (j:Mine z k 9 1 y u c (Qm_ ks)) (HR:Mine z k 9 1 A2 m c2 (Qm_ l)) (hB:k<=z.heap.size) (B:o.guard=ν) (ho:o.op=.call { callee:=.builtin .append,args:=#[s,x],argTypes:=#[31,31] }) (hs:a.eval s=S_ y u c) (hx:a.eval x=S_ A2 m c2) (w1:u+m<=1000000000)
  (h:∀A' c' w',Ψ (Mine w' k 9 1 A' (u+m) c' (Qm_ (ks++l)))->Ψ (z.heap.size<=w'.heap.size/\∀g t cs,Blk z g t cs->t≠9->Blk w' g t cs)->Ψ (∀w0,Below k w0 z->Below k w0 w')->K (a.put o.dst (S_ A' (u+m) c')) w'):if Region.wanted o (yielded r a.tmps)=τ then Oper.wp π o a z K Q else E:=by
 obtain⟨i0,hi,n,p,q⟩:=info_parts qy_;refine zg_ B s x _ ho k 9 i0 (T_ ⟨#[]⟩) 1 16 underlying31 hi n p q rfl dc_ (S_ y u c) u (Qm_ ks) hs j A2 m c2 (Qm_ l) hx HR.rd (λe=>?_) (λb hu=>?_) mx_ oo hB ?_
 ·rcases HR.own with⟨_,h1,h2⟩|⟨g,e2,_⟩
  ·exact⟨h1,h2⟩
  rw[e]at e2;cases e2
 ·unfold Qm_ at hu;obtain⟨A,_,rfl⟩:=List.mem_map.1 hu
  rfl
 intro v' w5 f d _;obtain⟨A5,c5,rfl,m5⟩:=Mine.of f;have m6:Mine w5 k 9 1 A5 (u+m) c5 (Qm_ (ks++l)):=by
  have:Qm_ (ks++l)=Qm_ ks++Qm_ l:=(by simp[Qm_]);rw[this];exact m5
 refine h A5 c5 w5 m6 ⟨d.size,λg t cs i ht=>?_⟩ (λw0 i=>?_)
 ·refine i.grown d (λe=>?_);rw[Q3_]at e;obtain⟨v,b'⟩:=Qw_ j e.symm;exact Kj_ i b' ht rfl
 exact i.grown d hB (λg d=>by rw[Q3_]at d;exact(Mine.blk j d).1)
structure Pb where
 rules:List RuleD
 chunks:List ChunkD
 spans:List SpanD
 ties:List TieD
 text:BA
def Pb.put (s:Pb) (t:BA):Pb:=⟨s.rules,s.chunks,s.spans,s.ties,s.text++t⟩
def Q4_ (s:Pb):Int:=if η s.rules<8 then (η s.rules:Int)else -1
def Pb.rule (s:Pb) (v c:Int):Pb:=if η s.rules<8 then ⟨s.rules++[(v,c)],s.chunks,s.spans,s.ties,s.text⟩else s
def Pb.split (s:Pb) (r a:Int) (sp:Bool) (ne:Int):Pb:=
 if 0<=r/\η s.chunks<79 then ⟨s.rules,s.chunks++[(s.text,r,a,sp,min ne 40)],s.spans,s.ties,⟨#[]⟩⟩else if sp=τ then s.put ⟨#[32]⟩else s
def Pb.tie (s:Pb) (kid up:Int):Pb:=if 0<=kid/\0<=up/\η s.ties<20 then ⟨s.rules,s.chunks,s.spans,s.ties++[(kid,up)],s.text⟩else s
def Pb.span (s:Pb) (a:Nat):Pb:=if a<η s.chunks/\η s.spans<40 then ⟨s.rules,s.chunks,s.spans++[((a:Int),(η s.chunks:Int)-1,1)],s.ties,s.text⟩else s
inductive Bv
 |put (t:BA)
 |rule (v c:Int)
 |split (a:Int) (sp:Bool) (ne:Int)
 |kid (j ne:Int)
 |tied (j ne:Int) (ti sp:Bool)
def Jw_ (f:Nat->Int->Pb->Pb) (s:Pb) (r j ne:Int) (ti sp:Bool):Pb:=
 let s1:=f j.toNat ne s
 let s2:=if ti=τ then s1.tie (Q4_ s) r else s1
 if sp=τ then s2.span (η s.chunks) else s2
def Jv_ (f:Nat->Int->Pb->Pb) (s:Pb × Int):Bv->Pb × Int
 |.put t=>(s.1.put t,s.2)
 |.rule v c=>(s.1.rule v c,Q4_ s.1)
 |.split a sp ne=>(s.1.split s.2 a sp ne,s.2)
 |.kid j ne=>(f j.toNat ne s.1,s.2)
 |.tied j ne ti sp=>(Jw_ f s.1 s.2 j ne ti sp,s.2)
def VL_ (f:Nat->Int->Pb->Pb) (s:Pb × Int) (es:List Bv):Pb × Int:=es.foldl (Jv_ f) s
section
variable {f:Nat->Int->Pb->Pb} {s:Pb × Int} {es fs:List Bv} {e:Bv}
def XQ_:VL_ f s (e::es)=VL_ f (Jv_ f s e) es:=rfl
end
def Xp_ (g:Nat->Int->List Bv):Nat->LI->List Bv
 |_,[]=>[]
 |i,x::r=>g i x++Xp_ g (i+1) r
def YL_ {g:Nat->Int->List Bv} (h:l[k]? =σ a):Xp_ g k (l.drop k)=g k a++Xp_ g (k+1) (l.drop (k+1)):=by
 obtain⟨h1,h2⟩:=gs_.1 h;rw[List.drop_eq_getElem_cons h1,h2]
 rfl
def Xu_ {g:Nat->Int->List Bv} (h:η l<=k):Xp_ g k (l.drop k)=[]:=by rw[List.drop_of_length_le h];rfl
def inN (ne:Int):Int:=min (ne+4) 40
def XT_ (op en:BA) (l:LI) (a:Int):List Bv:=
 .put op::((if η l=0 then []else .rule (min (η l:Int) 2+1) 1::.split 1 φ (inN a)::
  (Xp_ (λi v=>(if 0<i then [.put ⟨#[44]⟩,.split (min (η l:Int) 2) τ (inN a)]else [])++[.kid v (inN a)]) 0 l++[.split 1 φ a]))++[.put en])
def ZB_ (k:Int):Bool:=decide (k=1\/k=2\/k=3)
def ZS_ (ps:List PN) (t:BA) (l:LI) (ne:Int):List Bv:=
 .rule 2 1::Xp_ (λi v=>(if 0<i then [.put (⟨#[32]⟩++t),.split 1 τ ne]else [])++[.tied v ne (decide (Qc_ ps v=7)) (!ZB_ (Qc_ ps v))]) 0 l
def Y4_ (ps:List PN) (l:LI) (ne:Int):List Bv:=
 .rule 2 1::Xp_ (λi v=>(if 0<i then [.split 1 τ ne,.put (if i=1 then ⟨#[63,32]⟩else ⟨#[58,32]⟩)]else [])++[.tied v ne (decide (Qc_ ps v=8)) φ]) 0 l
def Q5_:List BA->BA
 |[]=>⟨#[]⟩
 |x::r=>r.foldl (λa t=>a++⟨#[44,32]⟩++t) x
def QE_ (ps:List PN) (v:Int):BA:=(ndAt ps v.toNat).text
def fnE (ps:List PN) (l:LI) (ne:Int):List Bv:=
 [.put (⟨#[40]⟩++Q5_ ((l.take (η l-1)).map (QE_ ps))++⟨#[41,32,61,62]⟩),.rule 2 2,.split 1 τ ne,.kid (l.getD (η l-1) 0) ne]
def QcC_ (l:LI) (a:Int):List Bv:=
 .rule 2 1::.kid (l.getD 0 0) a::Xp_ (λ_ v=>[.split 1 φ (inN a),.put ⟨#[46,46]⟩,.kid v (inN a)]) 0 (l.drop 1)
def evsB (ps:List PN) (p:PN) (a:Int):List Bv:=
 if p.kind=11 then [.put ⟨#[40]⟩,.kid (p.kids.getD 0 0) a,.put ⟨#[41]⟩]
 else if p.kind=6 then [.kid (p.kids.getD 0 0) a,.put (⟨#[46]⟩++p.text)]
 else if p.kind=4 then XT_ ⟨#[91]⟩ ⟨#[93]⟩ p.kids a
 else if p.kind=5 then .kid (p.kids.getD 0 0) a::XT_ ⟨#[40]⟩ ⟨#[41]⟩ (p.kids.drop 1) a
 else if p.kind=7 then ZS_ ps p.text p.kids (inN a)
 else if p.kind=8 then Y4_ ps p.kids (inN a)
 else if p.kind=9 then fnE ps p.kids (inN a)
 else if p.kind=10 then QcC_ p.kids a
 else [.put p.text]
def QR_ (ps:List PN):Nat->Nat->Int->Pb->Pb
 |0,_,_,s=>s
 |f+1,k,ne,s=>match ps[k]? with|none=>s|some p=>(VL_ (QR_ ps f) (s,-1) (evsB ps p ne)).1
def KX_ (h:t[u]? =σ x) (ne:Int) (s:Pb):QR_ t (k+1) u ne s=(VL_ (QR_ t k) (s,-1) (evsB t x ne)).1:=by
 conv=>lhs;unfold QR_
 rw[h]
def ownN (ps:List PN) (k:Nat) (s:Pb):Int:=if (ndAt ps k).kind=7\/(ndAt ps k).kind=8 then Q4_ s else -1
/-! ### Rules: their number never falls; ν is made where there is no room. -/
def GrowR (s s':Pb):Prop:=(∃l,s'.rules=s.rules++l)/\(8<=η s.rules->s'.rules=s.rules)
def GrowR.refl (s:Pb):GrowR s s:=⟨⟨[],by simp⟩,λ_=>rfl⟩
def GrowR.trans {s s' s2:Pb} (h:GrowR s s') (k:GrowR s' s2):GrowR s s2:=by
 obtain⟨⟨l,h1⟩,h2⟩:=h;obtain⟨⟨l',k1⟩,k2⟩:=k;exact⟨⟨l++l',by rw[k1,h1,List.append_assoc]⟩,λa=>by rw[k2 (by rw[h2 a];exact a),h2 a]⟩
def GrowR.same {s s':Pb} (h:s'.rules=s.rules):GrowR s s':=⟨⟨[],by simp[h]⟩,λ_=>h⟩
def WP_ (s:Pb) (r a:Int) (sp:Bool) (ne:Int):(s.split r a sp ne).rules=s.rules:=by unfold Pb.split;split;rfl;split<;>rfl
def xO_ (s:Pb) (a b:Int):(s.tie a b).rules=s.rules:=by unfold Pb.tie;split<;>rfl
def zZ_ (s:Pb) (a:Nat):(s.span a).rules=s.rules:=by unfold Pb.span;split<;>rfl
def Qd2_ (s:Pb) (v c:Int):GrowR s (s.rule v c):=by
 unfold Pb.rule;split
 ·exact⟨⟨[(v,c)],rfl⟩,λh=>oo⟩
 exact .refl s
def QeH_ {f:Nat->Int->Pb->Pb} (hf:∀k a s,GrowR s (f k a s)) (s:Pb) (r j a:Int) (ti sp:Bool):GrowR s (Jw_ f s r j a ti sp):=by
 unfold Jw_;dsimp only;refine(hf j.toNat a s).trans ?_;generalize f j.toNat a s=s1;have h2:GrowR s1 (if ti=τ then s1.tie (Q4_ s) r else s1):=by
  split
  ·exact .same (xO_ _ _ _)
  exact .refl _
 refine h2.trans ?_;generalize (if ti=τ then s1.tie (Q4_ s) r else s1)=s2;split
 ·exact .same (zZ_ _ _)
 exact .refl _
def Qeo_ {f:Nat->Int->Pb->Pb} (hf:∀k b s,GrowR s (f k b s)) (s:Pb × Int) (e:Bv):GrowR s.1 (Jv_ f s e).1:=by
 cases e with
 |put t=>exact .same rfl
 |rule v c=>exact Qd2_ s.1 v c
 |split a sp b=>exact .same (WP_ _ _ _ _ _)
 |kid j b=>exact hf _ _ _
 |tied j b ti sp=>exact QeH_ hf _ _ _ _ _ _
def Qaj_ {f:Nat->Int->Pb->Pb} (hf:∀k ne s,GrowR s (f k ne s)):∀(es:List Bv) (s:Pb × Int),GrowR s.1 (VL_ f s es).1:=by
 intro es
 induction es with
 |nil=>intro s;exact .refl _
 |cons e es ih=>intro s;rw[XQ_];exact(Qeo_ hf s e).trans (ih _)
def q6_:∀f k a s,GrowR s (QR_ r f k a s):=by
 intro f
 induction f with
 |zero=>intro k a s;exact .refl s
 |succ f ih=>
  intro k a s;unfold QR_
  cases r[k]? with
  |none=>exact .refl s
  |some p=>exact Qaj_ ih _ (s,-1)
def xm_ {ps:List PN} {f k:Nat} (h:ps[k]? =σ x) (hk:x.kind=7\/x.kind=8) (c:Int) (s:Pb):((η s.rules:Int)<(QR_ ps (f+1) k c s).rules.length↔0<=Q4_ s)/\(0<=Q4_ s->Q4_ s=η s.rules):=by
 have h0:0<=Q4_ s->Q4_ s=η s.rules:=by unfold Q4_;split<;>omega
 refine⟨?_,h0⟩;have a:∃es,evsB ps x c=.rule 2 1::es:=by
  rcases hk with e|e
  ·exact⟨_,by unfold evsB;rw[e];rfl⟩
  exact⟨_,by unfold evsB;rw[e];rfl⟩
 obtain⟨es,a⟩:=a;rw[KX_ h,a,XQ_];have hg:=Qaj_ (f:=QR_ ps f) (q6_ ps f) es<|Jv_ (QR_ ps f) (s,-1)<|.rule 2 1;have hv:=q6_ ps (f+1) k c s;rw[KX_ h,a,XQ_]at hv;constructor
 ·intro b;unfold Q4_;split
  ·omega
  have:=hv.2 oo;rw[this]at b;omega
 intro hr;obtain⟨⟨l,hl⟩,_⟩:=hg;rw[hl];have:(Jv_ (QR_ ps f) (s,-1) (.rule 2 1)).1.rules.length=η s.rules+1:=by
  show(s.rule 2 1).rules.length=_;unfold Pb.rule Q4_ at *;split at hr
  ·rename_i h8;rw[ip_ h8];simp
  omega
 rw[lA,this];omega
def QI_ (k:Int):Prop:=1<=k/\k<=11
inductive ValF (ps:List PN):Int->LI->Prop
 |leaf (k:Int) (h:k=1\/k=2\/k=3):ValF ps k []
 |list (l:LI) (h:∀v∈l,QI_ (Qc_ ps v)):ValF ps 4 l
 |call (v:Int) (l:LI) (h0:QI_ (Qc_ ps v)) (h:∀v∈l,QI_ (Qc_ ps v)):ValF ps 5 (v::l)
 |dot (v:Int) (h0:QI_ (Qc_ ps v)):ValF ps 6 [v]
 |chain (l:LI) (h2:2<=η l) (h:∀v∈l,QI_ (Qc_ ps v)):ValF ps 7 l
 |pick (a b c:Int) (h:∀v∈[a,b,c],QI_ (Qc_ ps v)):ValF ps 8 [a,b,c]
 |fn (l:LI) (v:Int) (h0:QI_ (Qc_ ps v)) (hn:∀u∈l,Qc_ ps u=1):ValF ps 9 (l++[v])
 |casc (v:Int) (l:LI) (h1:1<=η l) (h0:QI_ (Qc_ ps v)) (h:∀v∈l,QI_ (Qc_ ps v)):ValF ps 10 (v::l)
 |par (v:Int) (h0:QI_ (Qc_ ps v)):ValF ps 11 [v]
def Yx_ (h:Qk_ a=τ):QI_ a:=(od_ (show decide (1<=a/\a<=11)=τ from h):1<=a/\a<=11)
def Z5_ (h:(Qe_ t l).all Qk_=τ):∀v∈l,QI_ (Qc_ t v):=λv hv=>
 Yx_ (List.all_eq_true.1 h _ (List.mem_map.2 ⟨v,hv,rfl⟩))
def vi_ (hb:Za_ t k=τ) (hx:t[k]? =σ x) (hv:QI_ x.kind):ValF t x.kind x.kids:=by
 have d:=(K0_ hb hx).2.1;obtain⟨kd,ps,l,z⟩:=x;simp only at d hv |-
 have hl:(Qe_ t l).length=η l:=List.length_map ..;have h2:kd=1\/kd=2\/kd=3\/kd=4\/kd=5\/kd=6\/kd=7\/kd=8\/kd=9\/kd=10\/kd=11:=by unfold QI_ at hv;omega
 rcases h2 with rfl|rfl|rfl|rfl|rfl|rfl|rfl|rfl|rfl|rfl|rfl<;>simp only[kfB,Int.reduceEq,or_self,or_true,true_or,or_false,false_or,if_true,if_false,hl,τa,decide_eq_true_eq]at d
 ·obtain rfl:l=[]:=ln_ d;exact .leaf 1 oo
 ·obtain rfl:l=[]:=ln_ d;exact .leaf 2 oo
 ·obtain rfl:l=[]:=ln_ d;exact .leaf 3 oo
 ·exact .list l (Z5_ d)
 ·obtain⟨h1,f⟩:=d;have g:=Z5_ f
  match l,h1 with
  |v::r,_=>exact .call v r (g v sm_) (λu h=>g u (by simp[h]))
 ·obtain⟨h1,f⟩:=d;have g:=Z5_ f
  match l,h1 with
  |[v],_=>exact .dot v (g v sm_)
 ·exact .chain l d.1 (Z5_ d.2)
 ·obtain⟨h1,f⟩:=d;have g:=Z5_ f
  match l,h1 with
  |[a,b,c],_=>exact .pick a b c g
 ·rcases List.eq_nil_or_concat l with rfl|⟨r,v,rfl⟩
  ·simp[YF_,Qe_]at d
  have f:YF_ Qk_ (Qe_ t (r++[v]))=(Qk_ (Qc_ t v)&&((Qe_ t (r++[v])).take (η r)).all (isK 1)):=Yo_ (by simp[Qe_]) (by simp[Qe_]);rw[List.concat_eq_append]at d |-
  rw[f,τa]at d;refine .fn r v (Yx_ d.1) (λu h=>?_);have e:(Qe_ t (r++[v])).take (η r)=Qe_ t r:=(by simp[Qe_]);rw[e]at d;have i:=List.all_eq_true.1 d.2 (Qc_ t u)<|List.mem_map.2 ⟨u,h,rfl⟩;simpa[isK]using i
 ·obtain⟨⟨h1,f⟩,h5⟩:=d
  match l,h1 with
  |v::r,h1=>
   refine .casc v r (by simp at h1;omega) (Yx_ f) (λu h=>?_);have i:=List.all_eq_true.1 h5 (Qc_ t u) (by simp[Qe_];exact⟨u,h,rfl⟩);have:Qc_ t u=5:=(by simpa[isK]using i);rw[this];exact⟨oo,oo⟩
 obtain⟨h1,f⟩:=d;have g:=Z5_ f
 match l,h1 with
 |[v],_=>exact .par v (g v sm_)
/-! ### How much text -/
def wB (W:Nat) (ps:List PN):Bv->Nat
 |.put t=>t.size
 |.rule _ _=>0
 |.split _ _ _=>1
 |.kid j _=>Kk_ ps j.toNat*W
 |.tied j _ _ _=>Kk_ ps j.toNat*W
def wS (W:Nat) (ps:List PN) (es:List Bv):Nat:=(es.map (wB W ps)).sum
def Ky_ (e:Bv) (es:List Bv):wS f r (e::es)=wB f r e+wS f r es:=by simp[wS]
def WU_ (a b:List Bv):wS f r (a++b)=wS f r a+wS f r b:=by simp[wS]
def Uh_ (W:Nat) (ps:List PN) (f:Nat->Int->Pb->Pb):Prop:=∀k ne s,(f k ne s).text.size<=s.text.size+Kk_ ps k*W
def Qga_ (s:Pb) (a b:Int):(s.tie a b).text=s.text:=by unfold Pb.tie;split<;>rfl
def Qeg_ (s:Pb) (a:Nat):(s.span a).text=s.text:=by unfold Pb.span;split<;>rfl
def xs_ (s:Pb) (a b:Int):(s.rule a b).text=s.text:=by unfold Pb.rule;split<;>rfl
def Qb6_ (s:Pb) (r a:Int) (sp:Bool) (ne:Int):(s.split r a sp ne).text.size<=s.text.size+1:=by
 unfold Pb.split;split
 ·show(0:Nat)<=_;omega
 split
 ·show(s.text++⟨#[32]⟩).size<=_;rw[bs_];exact lr_ _
 omega
def xP_ (f:Nat->Int->Pb->Pb) (s:Pb) (r j a:Int) (ti sp:Bool):(Jw_ f s r j a ti sp).text=(f j.toNat a s).text:=by
 unfold Jw_;dsimp only;generalize f j.toNat a s=s1;have h2:(if ti=τ then s1.tie (Q4_ s) r else s1).text=s1.text:=by split;exact Qga_ _ _ _;rfl
 rw[<-h2];generalize (if ti=τ then s1.tie (Q4_ s) r else s1)=s2;split
 ·exact Qeg_ _ _
 rfl
def xI_ {f:Nat->Int->Pb->Pb} (hf:Uh_ k t f) (s:Pb × Int) (e:Bv):(Jv_ f s e).1.text.size<=s.1.text.size+wB k t e:=by
 cases e with
 |put W=>show(s.1.text++W).size<=_;rw[bs_];exact lr_ _
 |rule v c=>show(s.1.rule v c).text.size<=_;rw[xs_];exact Nat.le_add_right _ _
 |split a sp b=>exact Qb6_ _ _ _ _ _
 |kid j b=>exact hf _ _ _
 |tied j b ti sp=>show(Jw_ f s.1 s.2 j b ti sp).text.size<=_;rw[xP_];exact hf _ _ _
def QfU_ {f:Nat->Int->Pb->Pb} (hf:Uh_ k t f):∀(es:List Bv) (s:Pb × Int),(VL_ f s es).1.text.size<=s.1.text.size+wS k t es:=by
 intro es
 induction es with
 |nil=>intro s;exact Nat.le_add_right _ _
 |cons e es ih=>
  intro s;rw[XQ_,Ky_];have h1:=ih<|Jv_ f s e;have h2:=xI_ hf s e;omega
def YM_ {W:Nat} {ps:List PN} {g:Nat->Int->List Bv} {c:Nat} (hg:∀i v,wS W ps (g i v)<=c+Kk_ ps v.toNat*W):∀(l:LI) (i:Nat),wS W ps (Xp_ g i l)<=η l*c+Kv_ (Kk_ ps) l*W:=by
 intro l
 induction l with
 |nil=>intro i;exact lz_ _
 |cons v l ih=>
  intro i;have h1:=ih<|i+1;have h2:=hg i v;unfold Xp_;rw[WU_,List.length_cons,show Kv_ (Kk_ ps) (v::l)=Kk_ ps v.toNat+Kv_ (Kk_ ps) l by simp[Kv_],Nat.add_mul,Nat.add_mul];omega
def Kr_ {a b:BA}:(a++b).size=a.size+b.size:=bs_
def Qbe_:∀(l:List BA) (a:BA),(∀t∈l,t.size<=k)->(l.foldl (λa t=>a++⟨#[44,32]⟩++t) a).size<=a.size+η l*(k+2):=by
 intro l
 induction l with
 |nil=>intro a _;simp
 |cons t l ih=>
  intro a h;have h1:=ih (a++⟨#[44,32]⟩++t) (λu hu=>h u (by simp[hu]));have h2:=h t sm_;have h3:(a++(⟨#[44,32]⟩:BA)++t).size=a.size+2+t.size:=by rw[Kr_,Kr_];rfl
  rw[List.foldl_cons,List.length_cons];rw[h3]at h1;rw[Nat.add_mul];omega
def Wc_ {W:Nat} (l:List BA) (h:∀t∈l,t.size<=W):(Q5_ l).size<=η l*(W+2):=by
 cases l with
 |nil=>exact lz_ _
 |cons t l=>
  have h1:=Qbe_ l t (λu hu=>h u (by simp[hu]));have h2:=h t sm_;show(l.foldl (λa t=>a++⟨#[44,32]⟩++t) t).size<=_;rw[List.length_cons,Nat.add_mul];omega
/-! ### At most 79 chunks -/
def Cap (f:Nat->Int->Pb->Pb):Prop:=∀k ne s,η s.chunks<=79->(f k ne s).chunks.length<=79
def GL_ (s:Pb) (a b:Int):(s.tie a b).chunks=s.chunks:=by unfold Pb.tie;split<;>rfl
def j0_ (s:Pb) (a:Nat):(s.span a).chunks=s.chunks:=by unfold Pb.span;split<;>rfl
def Wy_ (s:Pb) (a b:Int):(s.rule a b).chunks=s.chunks:=by unfold Pb.rule;split<;>rfl
def WQ_ (f:Nat->Int->Pb->Pb) (s:Pb) (r j a:Int) (ti sp:Bool):(Jw_ f s r j a ti sp).chunks=(f j.toNat a s).chunks:=by
 unfold Jw_;dsimp only;generalize f j.toNat a s=s1;have h2:(if ti=τ then s1.tie (Q4_ s) r else s1).chunks=s1.chunks:=by split;exact GL_ _ _ _;rfl
 rw[<-h2];generalize (if ti=τ then s1.tie (Q4_ s) r else s1)=s2;split
 ·exact j0_ _ _
 rfl
def Qap_ {f:Nat->Int->Pb->Pb} (hf:Cap f) (s:Pb × Int) (e:Bv) (h:s.1.chunks.length<=79):(Jv_ f s e).1.chunks.length<=79:=by
 cases e with
 |put t=>exact h
 |rule v c=>show(s.1.rule v c).chunks.length<=79;rw[Wy_];exact h
 |split a sp b=>
  show(s.1.split s.2 a sp b).chunks.length<=79;unfold Pb.split;split
  ·rename_i h1;show(s.1.chunks++_).length<=79;rw[lA];have:=h1.2;simp;omega
  split<;>exact h
 |kid j b=>exact hf _ _ _ h
 |tied j b ti sp=>show(Jw_ f s.1 s.2 j b ti sp).chunks.length<=79;rw[WQ_];exact hf _ _ _ h
def QhI_ {f:Nat->Int->Pb->Pb} (hf:Cap f):∀(es:List Bv) (s:Pb × Int),s.1.chunks.length<=79->(VL_ f s es).1.chunks.length<=79:=by
 intro es
 induction es with
 |nil=>intro s h;exact h
 |cons e es ih=>intro s h;rw[XQ_];exact ih _<|Qap_ hf s e h
def WS_:∀f,Cap (QR_ r f):=by
 intro f
 induction f with
 |zero=>intro k ne s h;exact h
 |succ f ih=>
  intro k ne s h;unfold QR_
  cases r[k]? with
  |none=>exact h
  |some p=>exact QhI_ ih _ (s,-1) h
def vE_ {ps:List PN}:∀{l:LI},(∀v∈l,1<=Kk_ ps v.toNat)->η l<=Kv_ (Kk_ ps) l:=by
 intro l
 induction l with
 |nil=>intro _;exact lz_ _
 |cons v l ih=>
  intro h;have h1:=h v sm_;have h2:=ih (λu hu=>h u (by simp[hu]));rw[show Kv_ (Kk_ ps) (v::l)=Kk_ ps v.toNat+Kv_ (Kk_ ps) l by simp[Kv_],List.length_cons];omega
def KC_ (l:LI):Kv_ (Kk_ t) (m::l)=Kk_ t m.toNat+Kv_ (Kk_ t) l:=by simp[Kv_]
def Yt_ (hp:PNs t) (k:Nat):(ndAt t k).text.size<=1048576:=by
 unfold ndAt;rw[List.getD_eq_getElem?_getD]
 cases h:t[k]? with
 |none=>exact lz_ _
 |some x=>exact(hp x (lm_ h)).1
def GY_ {W:Nat} {ps:List PN} {op en:BA} (h1:op.size=1) (h2:en.size=1) (l:LI) (a:Int):wS W ps (XT_ op en l a)<=4+η l*2+Kv_ (Kk_ ps) l*W:=by
 unfold XT_;rw[Ky_,WU_];have e1:wB W ps (.put op)=1:=h1;have e2:wS W ps [.put en]=1:=by rw[Ky_];show en.size+0=1;omega
 rw[e1,e2];split
 ·show 1+(0+1)<=_;omega
 rw[Ky_,Ky_,WU_];have h3:=YM_ (W:=W) (ps:=ps) (g:=λi v=>(if 0<i then [Bv.put ⟨#[44]⟩,.split (min (η l:Int) 2) τ (inN a)]else [])++[.kid v (inN a)]) (c:=2) (λi v=>by
  try dsimp only
  rw[WU_];have:wS W ps [Bv.kid v (inN a)]=Kk_ ps v.toNat*W:=(by rw[Ky_];rfl);rw[this];split
  ·show 1+(1+0)+_<=_;omega
  show 0+_<=_;omega) l 0
 have e3:wB W ps (.rule (min (η l:Int) 2+1) 1)=0:=rfl;have e4:wB W ps (.split 1 φ (inN a))=1:=rfl;have e5:wS W ps [Bv.split 1 φ a]=1:=rfl;rw[e3,e4,e5];omega
def vg_ (hF:TreeF t k) (hk:u<k+1) (hx:t[u]? =σ x) (h7:x.kind=7):x.text.size<=4:=by
 have h1:=(K0_ (hF.node u hk) hx).1;rw[h7]at h1;have a:Q1_ x.text=τ:=h1;unfold Q1_ at a;simp only[Bool.or_eq_true,beq_iff_eq]at a;have h3:η x.text.toList=x.text.size:=by rw[ByteArray.toList_eq,QF_]
 rcases a with((((((e|e)|e)|e)|e)|e)|e)<;>rw[e]at h3<;>simp at h3<;>omega
def Gn_ {W:Nat} {ps:List PN} {m k:Nat} (hW:2000000<=W) (r:TreeF ps m) (hp:PNs ps) (p:ps[k]? =σ x) (d:Int):wS W ps (evsB ps x d)<=Kk_ ps k*W:=by
 have y:=r.tree.good;have s:k<m+1:=by have:=(gs_.1 p).1;rw[r.tree.len]at this;exact this
 have A:=Vz_ y p;have C:=(hp x (lm_ p)).1;have j:=(y k x p).1;have n:∀v∈x.kids,1<=Kk_ ps v.toNat:=λv h=>by
  have h1:=(y k x p).2 v h;have h2:=Vz_ y (k:=v.toNat)<|List.getElem?_eq_getElem (by rw[r.tree.len];omega);omega
 have f:wS W ps [Bv.put x.text]<=Kk_ ps k*W:=by
  rw[Ky_,A,Nat.add_mul];show x.text.size+0<=_;omega
 by_cases o:QI_ x.kind
 ·have hV:=vi_ (r.node k s) p o;obtain⟨kd,t,l,z⟩:=x;simp only at hV A C j n f;rw[A,Nat.add_mul,Nat.one_mul];rw[A,Nat.add_mul,Nat.one_mul]at f
  cases hV with
  |leaf k h=>rcases h with rfl|rfl|rfl<;>exact f
  |list l h=>
   have:=GY_ (W:=W) (ps:=ps) (op:=⟨#[91]⟩) (en:=⟨#[93]⟩) rfl rfl l d;show wS W ps (XT_ _ _ l d)<=_;omega
  |call v l h0 h=>
   have:=GY_ (W:=W) (ps:=ps) (op:=⟨#[40]⟩) (en:=⟨#[41]⟩) rfl rfl l d;show wS W ps (.kid v d::XT_ _ _ l d)<=_;rw[Ky_,KC_,Nat.add_mul];show Kk_ ps v.toNat*W+_<=_;simp only[List.length_cons]at j;omega
  |dot v h0=>
   show wS W ps [.kid v d,.put (⟨#[46]⟩++t)]<=_;rw[Ky_,Ky_,KC_,Nat.add_mul];show Kk_ ps v.toNat*W+((⟨#[46]⟩++t:BA).size+0)<=_;rw[Kr_];have:(⟨#[46]⟩:BA).size=1:=rfl;omega
  |chain l h2 h=>
   show wS W ps (ZS_ ps t l (inN d))<=_;unfold ZS_;rw[Ky_];have q:=YM_ (W:=W) (ps:=ps) (g:=λi v=>(if 0<i then [Bv.put (⟨#[32]⟩++t),.split 1 τ (inN d)]else [])++[.tied v (inN d) (decide (Qc_ ps v=7)) (!ZB_ (Qc_ ps v))]) (c:=t.size+2) (λi v=>by
    try dsimp only
    rw[WU_];have:wS W ps [Bv.tied v (inN d) (decide (Qc_ ps v=7)) (!ZB_ (Qc_ ps v))]=Kk_ ps v.toNat*W:=(by rw[Ky_];rfl);rw[this];split
    ·have e:wS W ps [Bv.put (⟨#[32]⟩++t),.split 1 τ (inN d)]=t.size+2:=by
      show(⟨#[32]⟩++t:BA).size+(1+0)=_;rw[Kr_];have:(⟨#[32]⟩:BA).size=1:=rfl;omega
     omega
    show 0+_<=_;omega) l 0
   have B:=vg_ r s p rfl;have h5:η l*(t.size+2)<=12*6:=Nat.mul_le_mul j (by simp only at B;omega);have e0:wB W ps (.rule 2 1)=0:=rfl;rw[e0];omega
  |pick a b c h=>
   show wS W ps (Y4_ ps [a,b,c] (inN d))<=_;unfold Y4_;rw[Ky_];have q:=YM_ (W:=W) (ps:=ps) (g:=λi v=>(if 0<i then [Bv.split 1 τ (inN d),.put (if i=1 then ⟨#[63,32]⟩else ⟨#[58,32]⟩)]else [])++[.tied v (inN d) (decide (Qc_ ps v=8)) φ]) (c:=3) (λi v=>by
    try dsimp only
    rw[WU_];have:wS W ps [Bv.tied v (inN d) (decide (Qc_ ps v=8)) φ]=Kk_ ps v.toNat*W:=(by rw[Ky_];rfl);rw[this];split
    ·have e:wS W ps [Bv.split 1 τ (inN d),.put (if i=1 then ⟨#[63,32]⟩else ⟨#[58,32]⟩)]=3:=by
      show 1+((if i=1 then (⟨#[63,32]⟩:BA)else ⟨#[58,32]⟩).size+0)=_;split<;>rfl
     omega
    show 0+_<=_;omega) [a,b,c] 0
   show 0+_<=_;simp only[List.length_cons,List.length_nil]at q;omega
  |fn l v h0 hn=>
   show wS W ps (fnE ps (l++[v]) (inN d))<=_;have e1:(l++[v]).length-1=η l:=sm_;have e2:(l++[v]).take (η l)=l:=sm_;have e3:(l++[v]).getD (η l) 0=v:=sm_;unfold fnE;have e5:Kv_ (Kk_ ps) [v]=Kk_ ps v.toNat:=(by simp[Kv_]);rw[e1,e2,e3,Ky_,Ky_,Ky_,Ky_,UQ_,e5,Nat.add_mul];have q:=Wc_ (W:=1048576) (l.map (QE_ ps)) (λt C=>by obtain⟨u,_,rfl⟩:=List.mem_map.1 C;exact Yt_ hp _);rw[List.length_map]at q;have B:=vE_ (ps:=ps) (l:=l) (λu hu=>n u (by simp[hu]));have h5:η l*(1048576+2)<=Kv_ (Kk_ ps) l*W:=Nat.mul_le_mul B oo;show((⟨#[40]⟩++Q5_ (l.map (QE_ ps))++⟨#[41,32,61,62]⟩:BA).size)+(0+(1+(Kk_ ps v.toNat*W+0)))<=_;rw[Kr_,Kr_];have:(⟨#[40]⟩:BA).size=1:=rfl;have:(⟨#[41,32,61,62]⟩:BA).size=4:=rfl;omega
  |casc v l h1 h0 h=>
   show wS W ps (QcC_ (v::l) d)<=_;unfold QcC_;rw[Ky_,Ky_,KC_,Nat.add_mul];have q:=YM_ (W:=W) (ps:=ps) (g:=λ_ v=>[Bv.split 1 φ (inN d),.put ⟨#[46,46]⟩,.kid v (inN d)]) (c:=3) (λi v=>by
    show 1+(2+(Kk_ ps v.toNat*W+0))<=_;omega) l 0
   show 0+(Kk_ ps v.toNat*W+_)<=_;simp only[List.length_cons]at j;show 0+(Kk_ ps v.toNat*W+wS W ps (Xp_ (λ_ v=>[Bv.split 1 φ (inN d),.put ⟨#[46,46]⟩,.kid v (inN d)]) 0 l))<=_;omega
  |par v h0=>
   show wS W ps [.put ⟨#[40]⟩,.kid v d,.put ⟨#[41]⟩]<=_;rw[KC_,Nat.add_mul];show 1+(Kk_ ps v.toNat*W+(1+0))<=_;omega
 have he:evsB ps x d=[.put x.text]:=by
  unfold QI_ at o;unfold evsB;rw[in_ oo,in_ oo,in_ oo,in_ oo,in_ oo,in_ oo,in_ oo,in_ oo]
 rw[he];exact f
def xV_ (hW:2000000<=k) (hF:TreeF t u) (hp:PNs t):∀f,Uh_ k t (QR_ t f):=by
 intro f
 induction f with
 |zero=>intro W b s;exact Nat.le_add_right _ _
 |succ f ih=>
  intro W b s
  cases a:t[W]? with
  |none=>unfold QR_;rw[a];exact Nat.le_add_right _ _
  |some p=>
   rw[KX_ a];have h1:=QfU_ ih (evsB t p b) (s,-1);have h2:=Gn_ hW hF hp a b;dsimp only at h1;omega
/-! ### Texts of nodes are plain -/
def U8_ (h:Qp_ c=τ):pl c=τ:=by
 unfold Qp_ QN_ Kz_ at h;unfold pl;simp only[Bool.or_eq_true,decide_eq_true_eq]at h |-
 omega
def QcM_ (h:Kz_ c=τ):pl c=τ:=U8_ (by unfold Qp_;rw[h,τo])
def zM_ (h:Ys_ s=τ):QV_ s=τ/\s.size<=30:=by
 unfold Ys_ Up_ at h;simp only[τa,decide_eq_true_eq]at h;exact⟨List.all_eq_true.2 (λc hc=>U8_ (List.all_eq_true.1 h.1.2 c hc)),h.1.1.1⟩
def QbM_:∀l:List UInt8,(l.take (VJ_ l)).all pl=τ:=by
 intro l
 induction l with
 |nil=>rfl
 |cons c l ih=>
  unfold VJ_;split
  ·rename_i h;subst h;rfl
  split
  ·rename_i h;split
   ·rfl
   rw[List.take_succ_cons,List.all_cons,ih,τc];exact h
  rfl
def QdS_ (h:quoB s=τ):QV_ s=τ:=by
 unfold quoB at h;simp only[τa,decide_eq_true_eq]at h;obtain⟨⟨h1,h2⟩,a⟩:=h;have hl:=QF_ s;unfold QV_
 cases hs:s.data.toList with
 |nil=>rfl
 |cons c l=>
  rw[hs]at h2 a hl;have hc:c=39:=od_ h2;unfold Ur_ at a;rw[List.drop_succ_cons,List.drop_zero]at a;have h4:=QbM_ l;rw[List.length_cons]at hl;have h5:VJ_ l=η l:=by split at a<;>omega
  rw[h5,List.take_length]at h4;rw[List.all_cons,h4,hc]
  rfl
def z4_ (h:Zi_ a s=τ) (hk:a≠19):QV_ s=τ:=by
 unfold Zi_ at h;split at h
 ·exact(zM_ h).1
 split at h
 ·unfold v9_ at h;rw[τa]at h;exact List.all_eq_true.2 (λc hc=>QcM_ (List.all_eq_true.1 h.2 c hc))
 split at h
 ·exact QdS_ h
 split at h
 ·unfold Q1_ at h;simp only[Bool.or_eq_true,beq_iff_eq,ByteArray.toList_eq]at h;unfold QV_;rcases h with((((((e|e)|e)|e)|e)|e)|e)<;>rw[e]<;>rfl
 have:s.data.toList=[]:=ln_ (by rw[QF_];exact od_ h);unfold QV_;rw[this];rfl
def Zh_ {a b:BA} (ha:QV_ a=τ) (hb:QV_ b=τ):QV_ (a++b)=τ:=by
 unfold QV_ at *;rw[XX_,List.all_append,ha,hb];rfl
def QbL_ {l:List BA} (h:∀t∈l,QV_ t=τ):QV_ (Q5_ l)=τ:=by
 cases l with
 |nil=>rfl
 |cons t l=>
  show QV_ (l.foldl (λa t=>a++⟨#[44,32]⟩++t) t)=τ;have ht:=h t sm_;have hl:=λu hu=>h u (List.mem_cons_of_mem _ hu)
  clear h
  induction l generalizing t with
  |nil=>exact ht
  |cons u l ih=>
   rw[List.foldl_cons];exact ih (t++⟨#[44,32]⟩++u) (Zh_ (Zh_ ht rfl) (hl u sm_)) (λx hx=>hl x (by simp[hx]))
/-! ### A builder's state is right -/
structure OkP (s:Pb):Prop where
 rules:∀d∈s.rules,(2<=d.1/\d.1<=3)/\0<=d.2/\d.2<=9
 r8:η s.rules<=8
 chunks:∀d∈s.chunks,QV_ d.1=τ/\KW_ s.rules d.2.1 d.2.2.1 d.2.2.2.2=τ
 c79:η s.chunks<=79
 spans:∀d∈s.spans,0<=d.1/\d.1<=d.2.1/\d.2.1<(η s.chunks:Int)/\d.2.2=1
 s40:η s.spans<=40
 ties:∀d∈s.ties,(0<=d.1/\d.1<(η s.rules:Int))/\(0<=d.2/\d.2<(η s.rules:Int))/\d.1≠d.2
 t20:η s.ties<=20
 text:QV_ s.text=τ
def RuleV (s:Pb) (r v:Int):Prop:=r= -1\/(0<=r/\∃c,s.rules[r.toNat]? =σ (v,c))
def RuleV.grow {s s':Pb} (h:RuleV s a b) (hg:GrowR s s'):RuleV s' a b:=by
 rcases h with h|⟨h0,c,hc⟩
 ·exact .inl h
 refine .inr ⟨h0,c,?_⟩;obtain⟨⟨l,hl⟩,_⟩:=hg;rw[hl,List.getElem?_append_left (gs_.1 hc).1];exact hc
def va_ {l l':List RuleD} (h:KW_ l a b n=τ):KW_ (l++l') a b n=τ:=by
 unfold KW_ at h |-
 simp only[τa]at h |-
 obtain⟨⟨h1,h2⟩,h3⟩:=h;have hr:=Yl_ h1;refine⟨⟨dt_ ⟨hr.1,by rw[lA];omega⟩,h2⟩,?_⟩;unfold jk_ at h3 |-
 have r:a.toNat<η l:=oo;rw[List.getElem?_append_left r];exact h3
def OkP.put {s:Pb} (h:OkP s) {t:BA} (ht:QV_ t=τ):OkP (s.put t):=⟨h.rules,h.r8,h.chunks,h.c79,h.spans,h.s40,h.ties,h.t20,Zh_ h.text ht⟩
def OkP.rule {s:Pb} (h:OkP s) (hv:2<=a/\a<=3) (hc:0<=b/\b<=9):OkP (s.rule a b)/\RuleV (s.rule a b) (Q4_ s) a:=by
 unfold Pb.rule Q4_;by_cases v:η s.rules<8
 ·rw[ip_ v,ip_ v];refine⟨⟨λd hd=>?_,by simp;omega,λd hd=>⟨(h.chunks d hd).1,va_ (h.chunks d hd).2⟩,h.c79,h.spans,h.s40,λd hd=>?_,h.t20,h.text⟩,.inr ⟨oo,b,by simp⟩⟩
  ·rcases List.mem_append.1 hd with hd|hd
   ·exact h.rules d hd
   obtain rfl:=ms1_.1 hd;exact⟨hv,hc⟩
  have:=h.ties d hd;simp only[lA,List.length_cons,List.length_nil];exact⟨⟨this.1.1,oo⟩,⟨this.2.1.1,oo⟩,this.2.2⟩
 rw[in_ v,in_ v];exact⟨h,.inl rfl⟩
theorem OkP.split {s:Pb} (h:OkP s) {r v a b:Int} {sp:Bool} (hr:RuleV s r v) (ha:1<=a/\a<=v-1) (hn:0<=b):OkP (s.split r a sp b):=by
 unfold Pb.split;split
 ·rename_i h1;rcases hr with e|⟨h0,c,hc⟩
  ·omega
  have f:=(gs_.1 hc).1;have hs:KW_ s.rules r a (min b 40)=τ:=by
   unfold KW_;simp only[τa];refine⟨⟨dt_ ⟨h0,oo⟩,dt_ ⟨oo,oo⟩⟩,?_⟩;unfold jk_;rw[hc];exact dt_ ⟨ha.1,ha.2⟩
  refine⟨h.rules,h.r8,λd hd=>?_,by simp;omega,λd hd=>?_,h.s40,h.ties,h.t20,rfl⟩
  ·rcases List.mem_append.1 hd with hd|hd
   ·exact h.chunks d hd
   obtain rfl:=ms1_.1 hd;exact⟨h.text,hs⟩
  have:=h.spans d hd;simp only[lA,List.length_cons,List.length_nil];exact⟨this.1,this.2.1,oo,this.2.2.2⟩
 split
 ·exact h.put rfl
 exact h
def OkP.tie {s:Pb} (h:OkP s) (ha:a<(η s.rules:Int)) (hb:b<(η s.rules:Int)) (c:0<=a->0<=b->a≠b):OkP (s.tie a b):=by
 unfold Pb.tie;split
 ·rename_i h1;refine⟨h.rules,h.r8,h.chunks,h.c79,h.spans,h.s40,λd hd=>?_,by simp;omega,h.text⟩;rcases List.mem_append.1 hd with hd|hd
  ·exact h.ties d hd
  obtain rfl:=ms1_.1 hd;exact⟨⟨h1.1,ha⟩,⟨h1.2.1,hb⟩,c h1.1 h1.2.1⟩
 exact h
def OkP.span {s:Pb} (h:OkP s) (a:Nat):OkP (s.span a):=by
 unfold Pb.span;split
 ·rename_i h1;refine⟨h.rules,h.r8,h.chunks,h.c79,λd hd=>?_,by simp;omega,h.ties,h.t20,h.text⟩;rcases List.mem_append.1 hd with hd|hd
  ·exact h.spans d hd
  obtain rfl:=ms1_.1 hd;exact⟨show(0:Int)<=(a:Int)from oo,show(a:Int)<=(η s.chunks:Int)-1 from oo,show(η s.chunks:Int)-1<(η s.chunks:Int)from oo,rfl⟩
 exact h
def QgC_ (ps:List PN) (f:Nat->Int->Pb->Pb) (k:Nat):Prop:=
 ∀j,j<k->QI_ (Qc_ ps (j:Int))->∀a s,0<=a->OkP s->OkP (f j a s)/\GrowR s (f j a s)/\(Qc_ ps (j:Int)=7\/Qc_ ps (j:Int)=8->0<=Q4_ s->Q4_ s=(η s.rules:Int)/\(η s.rules:Int)<(f j a s).rules.length)
def WW_ (ps:List PN) (k:Nat):Int->List Bv->Prop
 |_,[]=>True
 |v,.put t::es=>QV_ t=τ/\WW_ ps k v es
 |_,.rule v' c::es=>((2<=v'/\v'<=3)/\0<=c/\c<=9)/\WW_ ps k v' es
 |v,.split a _ ne::es=>((1<=a/\a<=v-1)/\0<=ne)/\WW_ ps k v es
 |v,.kid j ne::es=>((0<=j/\j<(k:Int))/\QI_ (Qc_ ps j)/\0<=ne)/\WW_ ps k v es
 |v,.tied j ne ti _::es=>(((0<=j/\j<(k:Int))/\QI_ (Qc_ ps j)/\0<=ne)/\(ti=τ->Qc_ ps j=7\/Qc_ ps j=8))/\WW_ ps k v es
def Qgv_ {f:Nat->Int->Pb->Pb} (hf:QgC_ t f k):∀(es:List Bv) (s:Pb × Int) (v:Int),OkP s.1->RuleV s.1 s.2 v->WW_ t k v es->OkP (VL_ f s es).1:=by
 intro es
 induction es with
 |nil=>intro s v h _ _;exact h
 |cons e es n=>
  intro s v h i b;rw[XQ_]
  cases e with
  |put ps=>exact n _ v (h.put b.1) (i.grow (.same rfl)) b.2
  |rule v' c=>
   obtain⟨h1,g⟩:=h.rule b.1.1 b.1.2;exact n _ v' h1 g b.2
  |split a sp d=>exact n _ v (h.split i b.1.1 b.1.2) (i.grow (.same (WP_ _ _ _ _ _))) b.2
  |kid j d=>
   obtain⟨q,rfl⟩:=eo_ b.1.1.1;obtain⟨h1,g,_⟩:=hf q (by have:=b.1.1.2;omega) b.1.2.1 d s.1 b.1.2.2 h;have p:Jv_ f s (.kid (q:Int) d)=(f q d s.1,s.2):=(by show(f (q:Int).toNat d s.1,s.2)=_;rw[it_]);rw[p];exact n _ v h1 (i.grow g) b.2
  |tied j d ti sp=>
   obtain⟨⟨⟨⟨x,z⟩,hv,hn⟩,y⟩,r⟩:=b;obtain⟨q,rfl⟩:=eo_ x;obtain⟨h1,g,h3⟩:=hf q oo hv d s.1 hn h;have p:Jv_ f s (.tied (q:Int) d ti sp)=(Jw_ f s.1 s.2 (q:Int) d ti sp,s.2):=rfl;rw[p];have hg:GrowR s.1 (Jw_ f s.1 s.2 (q:Int) d ti sp)/\OkP (Jw_ f s.1 s.2 (q:Int) d ti sp):=by
    unfold Jw_;rw[it_];dsimp only;generalize f q d s.1=s1 at h1 g h3;have o:GrowR s.1 (if ti=τ then s1.tie (Q4_ s.1) s.2 else s1)/\OkP (if ti=τ then s1.tie (Q4_ s.1) s.2 else s1):=by
     split
     ·rename_i m;refine⟨g.trans (.same (xO_ _ _ _)),?_⟩;have B:s.2<(s.1.rules.length:Int):=by
       rcases i with e|⟨h0,c,hc⟩
       ·rw[e];omega
       have:=(gs_.1 hc).1;omega
      have A:s.1.rules.length<=η s1.rules:=(by obtain⟨⟨l,hl⟩,_⟩:=g;rw[hl];simp);by_cases hk:0<=Q4_ s.1
      ·have h4:=h3 (y m) hk;exact h1.tie oo oo (λ_ _ e=>oo)
      exact h1.tie oo oo (λh0=>absurd h0 hk)
     exact⟨g,h1⟩
    generalize (if ti=τ then s1.tie (Q4_ s.1) s.2 else s1)=s2 at o;split
    ·exact⟨o.1.trans (.same (zZ_ _ _)),o.2.span _⟩
    exact o
   exact n _ v hg.2 (i.grow hg.1) r
def JY_ {g:Nat->Int->List Bv} {es:List Bv} (he:WW_ t k a es):∀(l:LI) (i:Nat),(∀i u rest,u∈l->WW_ t k a rest->WW_ t k a (g i u++rest))->WW_ t k a (Xp_ g i l++es):=by
 intro l
 induction l with
 |nil=>intro i _;exact he
 |cons u l ih=>
  intro i hg;unfold Xp_;rw[List.append_assoc];exact hg i u _ sm_<|ih (i+1) (λi x rest hx hr=>hg i x rest (by simp[hx]) hr)
def Qgk_ (h:0<=a):0<=inN a:=by unfold inN;omega
def vY_ {en:BA} (h1:QV_ s=τ) (h2:QV_ en=τ) (hn:0<=a) (hl:∀u∈l,(0<=u/\u<(k:Int))/\QI_ (Qc_ t u)):WW_ t k b (XT_ s en l a):=by
 have hi:=Qgk_ hn;unfold XT_;refine⟨h1,?_⟩;split
 ·exact⟨h2,trivial⟩
 rename_i h0;refine⟨⟨⟨oo,oo⟩,oo,oo⟩,⟨⟨oo,oo⟩,hi⟩,?_⟩;change WW_ t k _ ((Xp_ _ 0 l++[Bv.split 1 φ a])++[Bv.put en]);rw[List.append_assoc];refine JY_ (show WW_ t k _ ([Bv.split 1 φ a]++[.put en])from⟨⟨⟨oo,oo⟩,hn⟩,h2,trivial⟩) l 0 (λi u rest ps hr=>?_)
 try dsimp only
 split
 ·exact⟨rfl,⟨⟨oo,oo⟩,hi⟩,⟨(hl u ps).1,(hl u ps).2,hi⟩,hr⟩
 exact⟨⟨(hl u ps).1,(hl u ps).2,hi⟩,hr⟩
def Qh9_ (s:TreeF t k) (n:t[u]? =σ x) (o:QI_ x.kind)  (p:0<=a):WW_ t u b (evsB t x a):=by
 have B:u<k+1:=by have:=(gs_.1 n).1;rw[s.tree.len]at this;exact this
 have d:=(s.tree.good u x n).2;have hV:=vi_ (s.node u B) n o;have g:=z4_ (K0_ (s.node u B) n).1 (by unfold QI_ at o;omega);have hi:=Qgk_ p;obtain⟨kd,ps,l,z⟩:=x;simp only at hV d g
 cases hV with
 |leaf q h=>rcases h with rfl|rfl|rfl<;>exact⟨g,trivial⟩
 |list l h=>exact vY_ rfl rfl p (λm f=>⟨d m f,h m f⟩)
 |call m l h0 h=>exact⟨⟨d m sm_,h0,p⟩,vY_ rfl rfl p (λx n=>⟨d x (List.mem_cons_of_mem _ n),h x n⟩)⟩
 |dot m h0=>exact⟨⟨d m sm_,h0,p⟩,Zh_ rfl g,trivial⟩
 |chain l h2 h=>
  show WW_ t u b (ZS_ t ps l (inN a));unfold ZS_;refine⟨⟨⟨oo,oo⟩,oo,oo⟩,?_⟩;rw[<-List.append_nil (Xp_ _ _ _)];refine JY_ (es:=[]) (show WW_ t u _ []from trivial) l 0 (λi m rest f r=>?_)
  try dsimp only
  split
  ·exact⟨Zh_ rfl g,⟨⟨oo,oo⟩,hi⟩,⟨⟨d m f,h m f,hi⟩,λe=>.inl (od_ e)⟩,r⟩
  exact⟨⟨⟨d m f,h m f,hi⟩,λe=>.inl (od_ e)⟩,r⟩
 |pick A v c h=>
  show WW_ t u b (Y4_ t [A,v,c] (inN a));unfold Y4_;refine⟨⟨⟨oo,oo⟩,oo,oo⟩,?_⟩;rw[<-List.append_nil (Xp_ _ _ _)];refine JY_ (es:=[]) (show WW_ t u _ []from trivial) [A,v,c] 0 (λi m rest f r=>?_)
  try dsimp only
  split
  ·refine⟨⟨⟨oo,oo⟩,hi⟩,?_,⟨⟨d m f,h m f,hi⟩,λe=>.inr (od_ e)⟩,r⟩;split<;>rfl
  exact⟨⟨⟨d m f,h m f,hi⟩,λe=>.inr (od_ e)⟩,r⟩
 |fn l m h0 hnm=>
  show WW_ t u b (fnE t (l++[m]) (inN a));have e1:(l++[m]).length-1=η l:=by simp
  have e2:(l++[m]).take (η l)=l:=by simp
  have e3:(l++[m]).getD (η l) 0=m:=by simp
  unfold fnE;rw[e1,e2,e3];refine⟨Zh_ (Zh_ rfl (QbL_ (λps ht=>?_))) rfl,⟨⟨oo,oo⟩,oo,oo⟩,⟨⟨oo,oo⟩,hi⟩,⟨d m sm_,h0,hi⟩,trivial⟩;obtain⟨q,hq,rfl⟩:=List.mem_map.1 ht;have D:=d q (by simp[hq]);obtain⟨j,rfl⟩:=eo_ D.1;obtain⟨y,E⟩:∃y,t[j]? =σ y:=⟨_,gE (by rw[s.tree.len];omega)⟩;unfold QE_;rw[it_,X7_ E];have F:y.kind=1:=by rw[<-Qr_ E];exact hnm _ hq
  exact z4_ (K0_ (s.node j oo) E).1 oo
 |casc m l h1 h0 h=>
  show WW_ t u b (QcC_ (m::l) a);unfold QcC_;refine⟨⟨⟨oo,oo⟩,oo,oo⟩,⟨d m sm_,h0,p⟩,?_⟩;rw[<-List.append_nil (Xp_ _ _ _)];refine JY_ (es:=[]) (show WW_ t u _ []from trivial) _ 0 (λi x rest n r=>?_);have C:x∈l:=n;exact⟨⟨⟨oo,oo⟩,hi⟩,rfl,⟨d x (List.mem_cons_of_mem _ C),h x C,hi⟩,r⟩
 |par m h0=>exact⟨rfl,⟨d m sm_,h0,p⟩,rfl,trivial⟩
def QiK_ {ps:List PN} (hF:TreeF ps k):∀f,f<=k+1->QgC_ ps (QR_ ps f) f:=by
 intro f
 induction f with
 |zero=>intro _ j hj;omega
 |succ f ih=>
  intro d j hj a ne s hn hs;obtain⟨x,b⟩:∃x,ps[j]? =σ x:=⟨_,gE (by rw[hF.tree.len];omega)⟩;rw[Qr_ b]at a |-
  refine⟨?_,q6_ ps _ _ _ _,λhk h0=>?_⟩
  ·rw[KX_ b];have c:QgC_ ps (QR_ ps f) j:=λi hi=>ih oo i oo
   exact Qgv_ c _ (s,-1) 2 hs (.inl rfl)<|Qh9_ hF b a hn
  have h1:=xm_ (ps:=ps) (f:=f) b hk ne s;exact⟨h1.2 h0,h1.1.2 h0⟩
def qM_ {g:Pb} (h:OkP g) (hm:0<=a/\a<=60)  (f:QV_ s=τ):Kf_ a g.rules (g.chunks++[(g.text++s,0,0,φ,0)]) g.spans g.ties=τ:=by
 have m:(g.chunks++[((g.text++s,0,0,φ,0):ChunkD)]).length=η g.chunks+1:=by simp
 have b:∀{α:Type} (p:Nat->α->Bool) (l:List α),(∀j d,l[j]? =σ d->p j d=τ)->KG_ p l=τ:=λp l f=>by
  unfold KG_;rw[List.all_eq_true];intro j hj
  cases hd:l[j]? with
  |none=>rfl
  |some d=>exact f j d hd
 have i:=h.c79;unfold Kf_ GS_ X3_ KS_;simp only[τa];refine⟨⟨dt_ hm,⟨b _ _ (λj d hd=>?_),dt_ h.r8⟩,⟨⟨dt_ ⟨by rw[m];omega,by rw[m];omega⟩,b _ _ (λj d hd=>?_)⟩,?_⟩,dt_ h.s40,dt_ h.t20⟩,b _ _ (λj d hd=>?_),b _ _ (λj d hd=>?_)⟩
 ·have:=h.rules d (lm_ hd);unfold YJ_;rw[τa];exact⟨dt_ this.1,dt_ this.2⟩
 ·unfold ZT_;rw[τa,Bool.or_eq_true,m];by_cases hj:j<η g.chunks
  ·rw[List.getElem?_append_left hj]at hd;have:=h.chunks d (lm_ hd);exact⟨this.1,.inr this.2⟩
  rw[List.getElem?_append_right oo]at hd;have c:=(gs_.1 hd).1;simp at c;have e:j-η g.chunks=0:=oo;rw[e]at hd;obtain rfl:=oi_ hd;exact⟨Zh_ h.text f,.inl (dt_ oo)⟩
 ·unfold Vm_;rw[m,Nat.add_sub_cancel];simp[GM_]
 ·have:=h.spans d (lm_ hd);unfold Y8_;simp only[τa];rw[m];exact⟨dt_ this.1,dt_ this.2.1,dt_ oo,dt_ ⟨oo,oo⟩⟩
 have:=h.ties d (lm_ hd);unfold ka_;simp only[τa,Bool.not_eq_true'];exact⟨dt_ ⟨this.1.1,oo⟩,dt_ ⟨this.2.1.1,oo⟩,df_ this.2.2⟩
abbrev bty (a:Bool):TypeId:=if a then 225 else 172
def Kh_ (a:Bool) (m:Int) (A:OA) (n c:Nat) (v0 v1 v2 v3:Υ) (t:BA):Array Υ:=
 if a then #[I_ j_ m,v0,v1,v2,v3,S_ A n c,T_ t,B_ τ]else #[S_ A n c,I_ j_ m,v0,v1,v2,v3,T_ t,B_ φ]
structure BD where
 imp:Bool
 T:Nat
 m:Int
 A:OA
 n:Nat
 c:Nat
 w0:Ω
abbrev BD.fo (D:BD) (k:Nat):Nat:=if D.imp then k+1 else k+2
structure BdA (D:BD) (s:Pb) (A0:OA) (c0:Nat) (A1:OA) (c1:Nat) (A2:OA) (c2:Nat) (A3:OA) (c3:Nat) (w:Ω):Prop where
 blk:Blk w D.T (bty D.imp) (Kh_ D.imp D.m D.A D.n D.c (S_ A0 (η s.rules) c0) (S_ A1 (η s.chunks) c1) (S_ A2 (η s.spans) c2) (S_ A3 (η s.ties) c3) s.text)
 r0:Mine w D.w0.heap.size 192 2 A0 (η s.rules) c0 (s.rules.flatMap Q0_)
 r1:Mine w D.w0.heap.size 178 5 A1 (η s.chunks) c1 (s.chunks.flatMap Qo_)
 r2:Mine w D.w0.heap.size 213 3 A2 (η s.spans) c2 (s.spans.flatMap QJ_)
 r3:Mine w D.w0.heap.size 215 2 A3 (η s.ties) c3 (s.ties.flatMap KF_)
 bT:D.w0.heap.size<=D.T
 old:Below D.w0.heap.size D.w0 w
def BdC (D:BD) (s:Pb) (w:Ω):Prop:=∃A0 c0 A1 c1 A2 c2 A3 c3,BdA D s A0 c0 A1 c1 A2 c2 A3 c3 w
def Kb (w w':Ω):Prop:=w.heap.size<=w'.heap.size/\∀g cs,Blk w g 96 cs->Blk w' g 96 cs
def Kb.refl:Kb w w:=⟨lr_ _,λ_ _ h=>h⟩
def Kb.trans {w w1 w2:Ω} (h:Kb w w1) (k:Kb w1 w2):Kb w w2:=⟨lt_ h.1 k.1,λg cs hb=>k.2 g cs (h.2 g cs hb)⟩
def Kb.below {w w':Ω} (hb:Λ w w'):Kb w w':=⟨hb.size,λg cs h=>h.next hb⟩
def YY_:bty d≠96/\bty d≠192/\bty d≠178/\bty d≠213/\bty d≠215:=by cases d<;>decide
section
variable {D:BD} {s:Pb} {A0 A1 A2 A3:OA} {c0 c1 c2 c3:Nat} {w w' w1 w3:Ω}
def Mine.far_set {B:Nat} {e:TypeId} {z:Nat} {A:OA} {n c:Nat} {xs:List Υ} {g:Nat} {t:TypeId} {cs:Array Υ} (h:Mine w B e z A n c xs) (hb:Blk w g t cs) (ht:t≠e) (i:Nat) (u:Υ):Mine (w.setCell ⟨g,i,ν⟩ u) B e z A n c xs:=Qt_ h hb (Ne.symm ht) i u
def BdA.next (h:BdA D s A0 c0 A1 c1 A2 c2 A3 c3 w) (a:Λ w w'):BdA D s A0 c0 A1 c1 A2 c2 A3 c3 w':=
 ⟨h.blk.next a,h.r0.next a,h.r1.next a,h.r2.next a,h.r3.next a,h.bT,Qb_ h.old a⟩
def BdC.next (h:BdC D s w) (hb:Λ w w'):BdC D s w':=by
 obtain⟨A0,c0,A1,c1,A2,c2,A3,c3,h⟩:=h;exact⟨A0,c0,A1,c1,A2,c2,A3,c3,h.next hb⟩
def Kb.set {g:Nat} {t:TypeId} {cs:Array Υ} (hb:Blk w g t cs) (ht:t≠96) (i:Nat) (u:Υ):Kb w (w.setCell ⟨g,i,ν⟩ u):=
 ⟨by simp[World.setCell],λq qs hq=>hq.far (Kj_ hq hb (Ne.symm ht)) u⟩
def BdA.setAt (h:BdA D s A0 c0 A1 c1 A2 c2 A3 c3 w) (i:Nat) (u:Υ):Blk (w.setCell ⟨D.T,i,ν⟩ u) D.T (bty D.imp) ((Kh_ D.imp D.m D.A D.n D.c (S_ A0 (η s.rules) c0) (S_ A1 (η s.chunks) c1) (S_ A2 (η s.spans) c2) (S_ A3 (η s.ties) c3) s.text).setIfInBounds i u)/\
  Mine (w.setCell ⟨D.T,i,ν⟩ u) D.w0.heap.size 192 2 A0 (η s.rules) c0 (s.rules.flatMap Q0_)/\Mine (w.setCell ⟨D.T,i,ν⟩ u) D.w0.heap.size 178 5 A1 (η s.chunks) c1 (s.chunks.flatMap Qo_)/\
  Mine (w.setCell ⟨D.T,i,ν⟩ u) D.w0.heap.size 213 3 A2 (η s.spans) c2 (s.spans.flatMap QJ_)/\Mine (w.setCell ⟨D.T,i,ν⟩ u) D.w0.heap.size 215 2 A3 (η s.ties) c3 (s.ties.flatMap KF_)/\
  Below D.w0.heap.size D.w0 (w.setCell ⟨D.T,i,ν⟩ u)/\Kb w (w.setCell ⟨D.T,i,ν⟩ u):=by
 obtain⟨n0,n1,n2,n3,n4⟩:=YY_ D.imp;exact⟨h.blk.set_ i u,h.r0.far_set h.blk n1 _ _,h.r1.far_set h.blk n2 _ _,h.r2.far_set h.blk n3 _ _,h.r3.far_set h.blk n4 _ _,h.old.setCell h.bT _,Kb.set h.blk n0 _ _⟩
def BdA.setText (h:BdA D s A0 c0 A1 c1 A2 c2 A3 c3 w) (t:BA):BdA D ⟨s.rules,s.chunks,s.spans,s.ties,t⟩ A0 c0 A1 c1 A2 c2 A3 c3 (w.setCell ⟨D.T,6,ν⟩ (T_ t))/\Kb w (w.setCell ⟨D.T,6,ν⟩ (T_ t)):=by
 obtain⟨k0,k1,k2,k3,k4,k5,k6⟩:=h.setAt 6 (T_ t);refine⟨⟨?_,k1,k2,k3,k4,h.bT,k5⟩,k6⟩;have e:(Kh_ D.imp D.m D.A D.n D.c (S_ A0 (η s.rules) c0) (S_ A1 (η s.chunks) c1) (S_ A2 (η s.spans) c2) (S_ A3 (η s.ties) c3) s.text).setIfInBounds 6 (T_ t)=Kh_ D.imp D.m D.A D.n D.c (S_ A0 (η s.rules) c0) (S_ A1 (η s.chunks) c1) (S_ A2 (η s.spans) c2) (S_ A3 (η s.ties) c3) t:=by
  unfold Kh_;cases D.imp<;>rfl
 rw[e]at k0;exact k0
def BdC.put (h:BdC D s w) (t:BA):BdC D (s.put t) (w.setCell ⟨D.T,6,ν⟩ (T_ (s.text++t)))/\Kb w (w.setCell ⟨D.T,6,ν⟩ (T_ (s.text++t))):=by
 obtain⟨A0,c0,A1,c1,A2,c2,A3,c3,h⟩:=h;obtain⟨k1,k2⟩:=h.setText (s.text++t);exact⟨⟨A0,c0,A1,c1,A2,c2,A3,c3,k1⟩,k2⟩
def BdA.grown (h:BdA D s A0 c0 A1 c1 A2 c2 A3 c3 w) (b:Λ w w1) {e:TypeId} {z:Nat} {A:OA} {n c:Nat} {xs:List Υ} (hm:Mine w D.w0.heap.size e z A n c xs) (l:w1.grownBy w3 (S_ A n c).ownBlock) (he:e≠bty D.imp) (hN:e≠96):
  Blk w3 D.T (bty D.imp) (Kh_ D.imp D.m D.A D.n D.c (S_ A0 (η s.rules) c0) (S_ A1 (η s.chunks) c1) (S_ A2 (η s.spans) c2) (S_ A3 (η s.ties) c3) s.text)/\
  (e≠192->Mine w3 D.w0.heap.size 192 2 A0 (η s.rules) c0 (s.rules.flatMap Q0_))/\(e≠178->Mine w3 D.w0.heap.size 178 5 A1 (η s.chunks) c1 (s.chunks.flatMap Qo_))/\
  (e≠213->Mine w3 D.w0.heap.size 213 3 A2 (η s.spans) c2 (s.spans.flatMap QJ_))/\(e≠215->Mine w3 D.w0.heap.size 215 2 A3 (η s.ties) c3 (s.ties.flatMap KF_))/\
  Below D.w0.heap.size D.w0 w3/\Kb w w3:=by
 rw[Q3_]at l;have h1:=h.next b;have d:=hm.next b;have a:∀{j:TypeId} {z2:Nat} {A2:OA} {n2 c2:Nat} {m:List Υ},Mine w1 D.w0.heap.size j z2 A2 n2 c2 m->e≠j->Mine w3 D.w0.heap.size j z2 A2 n2 c2 m:=λh2 f=>h2.grown l (λg i=>.inr (λj=>by
  obtain⟨q1,p⟩:=Qw_ d i;obtain⟨q2,b2⟩:=Qw_ h2 j;exact Kj_ p b2 f rfl))
 have k:∀{g:Nat} {t:TypeId} {cs:Array Υ},Blk w1 g t cs->e≠t->Blk w3 g t cs:=λo f=>o.grown l (λi=>by
  obtain⟨q1,p⟩:=Qw_ d i.symm;exact Kj_ p o f rfl)
 refine⟨k h1.blk he,a h1.r0,a h1.r1,a h1.r2,a h1.r3,XY_ h1.old l (λg i=>(Mine.blk d i).1),lt_ b.size l.size,λg cs o=>k (o.next b) hN⟩
def BdA.app0 (h:BdA D s A0 c0 A1 c1 A2 c2 A3 c3 w) (b:D.fo 0=k) (c:Λ w w1) {d:RuleD} {v':Υ} (a:w3.ownsRow D.w0.heap.size 192 2 v' (η s.rules+1) (s.rules.flatMap Q0_++Q0_ d)) (hg:w1.grownBy w3 (S_ A0 (η s.rules) c0).ownBlock):
  ∃A' c',v'=S_ A' (η s.rules+1) c'/\Blk w3 D.T (bty D.imp) (Kh_ D.imp D.m D.A D.n D.c (S_ A0 (η s.rules) c0) (S_ A1 (η s.chunks) c1) (S_ A2 (η s.spans) c2) (S_ A3 (η s.ties) c3) s.text)/\
   BdA D ⟨s.rules++[d],s.chunks,s.spans,s.ties,s.text⟩ A' c' A1 c1 A2 c2 A3 c3 (w3.setCell ⟨D.T,k,ν⟩ v')/\Kb w (w3.setCell ⟨D.T,k,ν⟩ v'):=by
 subst b;obtain⟨q0,q1,q2,q3,q4⟩:=YY_ D.imp;obtain⟨k0,_,k2,k3,k4,k5,k6⟩:=h.grown c h.r0 hg (Ne.symm q1) dc_;obtain⟨A',c',rfl,m⟩:=Mine.of a;refine⟨A',c',rfl,k0,⟨?_,?_,(k2 dc_).far_set k0 q2 _ _,(k3 dc_).far_set k0 q3 _ _,(k4 dc_).far_set k0 q4 _ _,h.bT,k5.setCell h.bT _⟩,k6.trans (Kb.set k0 q0 _ _)⟩
 ·have hb:=k0.set_ (D.fo 0) (S_ A' (η s.rules+1) c');have e:(Kh_ D.imp D.m D.A D.n D.c (S_ A0 (η s.rules) c0) (S_ A1 (η s.chunks) c1) (S_ A2 (η s.spans) c2) (S_ A3 (η s.ties) c3) s.text).setIfInBounds (D.fo 0) (S_ A' (η s.rules+1) c')=Kh_ D.imp D.m D.A D.n D.c (S_ A' (s.rules++[d]).length c') (S_ A1 (η s.chunks) c1) (S_ A2 (η s.spans) c2) (S_ A3 (η s.ties) c3) s.text:=by
   rw[lA];unfold Kh_ BD.fo;cases D.imp<;>rfl
  rw[e]at hb;exact hb
 have hm:=m.far_set k0 q1 (D.fo 0)<|S_ A' (η s.rules+1) c';rw[lA,List.flatMap_append];simpa using hm
def BdA.app1 (h:BdA D s A0 c0 A1 c1 A2 c2 A3 c3 w) {i:Nat} (b:D.fo 1=i) (c:Λ w w1) {d:ChunkD} {v':Υ} (a:w3.ownsRow D.w0.heap.size 178 5 v' (η s.chunks+1) (s.chunks.flatMap Qo_++Qo_ d)) (hg:w1.grownBy w3 (S_ A1 (η s.chunks) c1).ownBlock):
  ∃A' c',v'=S_ A' (η s.chunks+1) c'/\Blk w3 D.T (bty D.imp) (Kh_ D.imp D.m D.A D.n D.c (S_ A0 (η s.rules) c0) (S_ A1 (η s.chunks) c1) (S_ A2 (η s.spans) c2) (S_ A3 (η s.ties) c3) s.text)/\
   BdA D ⟨s.rules,s.chunks++[d],s.spans,s.ties,s.text⟩ A0 c0 A' c' A2 c2 A3 c3 (w3.setCell ⟨D.T,i,ν⟩ v')/\Kb w (w3.setCell ⟨D.T,i,ν⟩ v'):=by
 subst b;obtain⟨q0,q1,q2,q3,q4⟩:=YY_ D.imp;obtain⟨k0,k1,_,k3,k4,k5,k6⟩:=h.grown c h.r1 hg (Ne.symm q2) dc_;obtain⟨A',c',rfl,m⟩:=Mine.of a;refine⟨A',c',rfl,k0,⟨?_,(k1 dc_).far_set k0 q1 _ _,?_,(k3 dc_).far_set k0 q3 _ _,(k4 dc_).far_set k0 q4 _ _,h.bT,k5.setCell h.bT _⟩,k6.trans (Kb.set k0 q0 _ _)⟩
 ·have hb:=k0.set_ (D.fo 1) (S_ A' (η s.chunks+1) c');have e:(Kh_ D.imp D.m D.A D.n D.c (S_ A0 (η s.rules) c0) (S_ A1 (η s.chunks) c1) (S_ A2 (η s.spans) c2) (S_ A3 (η s.ties) c3) s.text).setIfInBounds (D.fo 1) (S_ A' (η s.chunks+1) c')=Kh_ D.imp D.m D.A D.n D.c (S_ A0 (η s.rules) c0) (S_ A' (s.chunks++[d]).length c') (S_ A2 (η s.spans) c2) (S_ A3 (η s.ties) c3) s.text:=by
   rw[lA];unfold Kh_ BD.fo;cases D.imp<;>rfl
  rw[e]at hb;exact hb
 have hm:=m.far_set k0 q2 (D.fo 1)<|S_ A' (η s.chunks+1) c';rw[lA,List.flatMap_append];simpa using hm
def BdA.app2 (h:BdA D s A0 c0 A1 c1 A2 c2 A3 c3 w) (b:D.fo 2=k) (c:Λ w w1) {d:SpanD} {v':Υ} (a:w3.ownsRow D.w0.heap.size 213 3 v' (η s.spans+1) (s.spans.flatMap QJ_++QJ_ d)) (hg:w1.grownBy w3 (S_ A2 (η s.spans) c2).ownBlock):
  ∃A' c',v'=S_ A' (η s.spans+1) c'/\Blk w3 D.T (bty D.imp) (Kh_ D.imp D.m D.A D.n D.c (S_ A0 (η s.rules) c0) (S_ A1 (η s.chunks) c1) (S_ A2 (η s.spans) c2) (S_ A3 (η s.ties) c3) s.text)/\
   BdA D ⟨s.rules,s.chunks,s.spans++[d],s.ties,s.text⟩ A0 c0 A1 c1 A' c' A3 c3 (w3.setCell ⟨D.T,k,ν⟩ v')/\Kb w (w3.setCell ⟨D.T,k,ν⟩ v'):=by
 subst b;obtain⟨q0,q1,q2,q3,q4⟩:=YY_ D.imp;obtain⟨k0,k1,k2,_,k4,k5,k6⟩:=h.grown c h.r2 hg (Ne.symm q3) dc_;obtain⟨A',c',rfl,m⟩:=Mine.of a;refine⟨A',c',rfl,k0,⟨?_,(k1 dc_).far_set k0 q1 _ _,(k2 dc_).far_set k0 q2 _ _,?_,(k4 dc_).far_set k0 q4 _ _,h.bT,k5.setCell h.bT _⟩,k6.trans (Kb.set k0 q0 _ _)⟩
 ·have hb:=k0.set_ (D.fo 2) (S_ A' (η s.spans+1) c');have e:(Kh_ D.imp D.m D.A D.n D.c (S_ A0 (η s.rules) c0) (S_ A1 (η s.chunks) c1) (S_ A2 (η s.spans) c2) (S_ A3 (η s.ties) c3) s.text).setIfInBounds (D.fo 2) (S_ A' (η s.spans+1) c')=Kh_ D.imp D.m D.A D.n D.c (S_ A0 (η s.rules) c0) (S_ A1 (η s.chunks) c1) (S_ A' (s.spans++[d]).length c') (S_ A3 (η s.ties) c3) s.text:=by
   rw[lA];unfold Kh_ BD.fo;cases D.imp<;>rfl
  rw[e]at hb;exact hb
 have hm:=m.far_set k0 q3 (D.fo 2)<|S_ A' (η s.spans+1) c';rw[lA,List.flatMap_append];simpa using hm
def BdA.app3 (h:BdA D s A0 c0 A1 c1 A2 c2 A3 c3 w) (b:D.fo 3=k) (c:Λ w w1) {d:TieD} {v':Υ} (a:w3.ownsRow D.w0.heap.size 215 2 v' (η s.ties+1) (s.ties.flatMap KF_++KF_ d)) (hg:w1.grownBy w3 (S_ A3 (η s.ties) c3).ownBlock):
  ∃A' c',v'=S_ A' (η s.ties+1) c'/\Blk w3 D.T (bty D.imp) (Kh_ D.imp D.m D.A D.n D.c (S_ A0 (η s.rules) c0) (S_ A1 (η s.chunks) c1) (S_ A2 (η s.spans) c2) (S_ A3 (η s.ties) c3) s.text)/\
   BdA D ⟨s.rules,s.chunks,s.spans,s.ties++[d],s.text⟩ A0 c0 A1 c1 A2 c2 A' c' (w3.setCell ⟨D.T,k,ν⟩ v')/\Kb w (w3.setCell ⟨D.T,k,ν⟩ v'):=by
 subst b;obtain⟨q0,q1,q2,q3,q4⟩:=YY_ D.imp;obtain⟨k0,k1,k2,k3,_,k5,k6⟩:=h.grown c h.r3 hg (Ne.symm q4) dc_;obtain⟨A',c',rfl,m⟩:=Mine.of a;refine⟨A',c',rfl,k0,⟨?_,(k1 dc_).far_set k0 q1 _ _,(k2 dc_).far_set k0 q2 _ _,(k3 dc_).far_set k0 q3 _ _,?_,h.bT,k5.setCell h.bT _⟩,k6.trans (Kb.set k0 q0 _ _)⟩
 ·have hb:=k0.set_ (D.fo 3) (S_ A' (η s.ties+1) c');have e:(Kh_ D.imp D.m D.A D.n D.c (S_ A0 (η s.rules) c0) (S_ A1 (η s.chunks) c1) (S_ A2 (η s.spans) c2) (S_ A3 (η s.ties) c3) s.text).setIfInBounds (D.fo 3) (S_ A' (η s.ties+1) c')=Kh_ D.imp D.m D.A D.n D.c (S_ A0 (η s.rules) c0) (S_ A1 (η s.chunks) c1) (S_ A2 (η s.spans) c2) (S_ A' (s.ties++[d]).length c') s.text:=by
   rw[lA];unfold Kh_ BD.fo;cases D.imp<;>rfl
  rw[e]at hb;exact hb
 have hm:=m.far_set k0 q4 (D.fo 3)<|S_ A' (η s.ties+1) c';rw[lA,List.flatMap_append];simpa using hm
end
def Xj_:Nat:=1000000000000
def YW_ (D:BD) (W:Ω) (v:Υ) (s':Pb) (e:Ending) (w':Ω):Prop:=e=R_ v/\BdC D s' w'/\Kb W w'
def Qai_ (d:RuleD):∀u∈Q0_ d,u.oneCell'=τ:=by intro u hu;simp[Q0_]at hu;rcases hu with rfl|rfl<;>rfl
def QeF_ (d:TieD):∀u∈KF_ d,u.oneCell'=τ:=by intro u hu;simp[KF_]at hu;rcases hu with rfl|rfl<;>rfl
def qW_ (d:SpanD):∀u∈QJ_ d,u.oneCell'=τ:=by intro u hu;simp[QJ_]at hu;rcases hu with rfl|rfl|rfl<;>rfl
def Vc_ (d:ChunkD):∀u∈Qo_ d,u.oneCell'=τ:=by intro u hu;simp[Qo_]at hu;rcases hu with rfl|rfl|rfl|rfl|rfl<;>rfl
section
variable {D:BD} {s:Pb} {A0 A1 A2 A3:OA} {c0 c1 c2 c3:Nat} {w:Ω}
def BdA.icells (h:BdA D s A0 c0 A1 c1 A2 c2 A3 c3 w) (hi:D.imp=τ):w.cell? ⟨D.T,1,ν⟩=σ (S_ A0 (η s.rules) c0)/\w.cell? ⟨D.T,2,ν⟩=σ (S_ A1 (η s.chunks) c1)/\w.cell? ⟨D.T,3,ν⟩=σ (S_ A2 (η s.spans) c2)/\w.cell? ⟨D.T,4,ν⟩=σ (S_ A3 (η s.ties) c3)/\
  w.cell? ⟨D.T,5,ν⟩=σ (S_ D.A D.n D.c)/\w.cell? ⟨D.T,6,ν⟩=σ (T_ s.text)/\w.cell? ⟨D.T,7,ν⟩=σ (B_ τ)/\(∀i,w.frozen? ⟨D.T,i,ν⟩=φ)/\D.T<w.heap.size:=by
 have a:=h.blk;unfold Kh_ at a;rw[hi]at a;exact⟨a.cell 1,a.cell 2,a.cell 3,a.cell 4,a.cell 5,a.cell 6,a.cell 7,a.frozen,a.lt⟩
def BdA.scells (h:BdA D s A0 c0 A1 c1 A2 c2 A3 c3 w) (hi:D.imp=φ):w.cell? ⟨D.T,2,ν⟩=σ (S_ A0 (η s.rules) c0)/\w.cell? ⟨D.T,3,ν⟩=σ (S_ A1 (η s.chunks) c1)/\w.cell? ⟨D.T,4,ν⟩=σ (S_ A2 (η s.spans) c2)/\w.cell? ⟨D.T,5,ν⟩=σ (S_ A3 (η s.ties) c3)/\
  w.cell? ⟨D.T,0,ν⟩=σ (S_ D.A D.n D.c)/\w.cell? ⟨D.T,6,ν⟩=σ (T_ s.text)/\w.cell? ⟨D.T,7,ν⟩=σ (B_ φ)/\(∀i,w.frozen? ⟨D.T,i,ν⟩=φ)/\D.T<w.heap.size:=by
 have a:=h.blk;unfold Kh_ at a;rw[hi]at a;exact⟨a.cell 2,a.cell 3,a.cell 4,a.cell 5,a.cell 0,a.cell 6,a.cell 7,a.frozen,a.lt⟩
end
def kH_ (D:BD) (hi:D.imp=τ) (s:Pb) (v c:Int) (W:Ω) (h:BdC D s W):
  Δ π 245 #[P_ (σ ⟨D.T,0,ν⟩),I_ j_ v,I_ j_ c] W (YW_ D W (I_ j_ (Q4_ s)) (s.rule v c)):=by
 obtain⟨A0,c0,A1,c1,A2,c2,A3,c3,hA⟩:=h;obtain⟨x0,x1,x2,x3,xn,xt,xb,xf,xz⟩:=hA.icells hi;have k:=h_ hA;by_cases m:η s.rules<8
 ·rw[show Q4_ s=(η s.rules:Int)from ip_ m,show s.rule v c=⟨s.rules++[(v,c)],s.chunks,s.spans,s.ties,s.text⟩from ip_ m];have p:D.fo 0=1:=by unfold BD.fo;rw[hi];rfl
  obtain⟨i0,l⟩:=iq_ vP_;go_in;go_wp2_with (at_builtin;refine Qi_ _ rfl (.tmp 26) (.tmp 30) _ rfl D.w0.heap.size 192 i0 (A_ #[I_ j_ 0,I_ j_ 0]) 2 16 underlying144 l.o.1 l.o.2.1 l.o.2.2.1 l.o.2.2.2 rfl dc_ (S_ A0 (η s.rules) c0) (η s.rules) (s.rules.flatMap Q0_) rfl (Mine.alloc k.o.r0 _) ⟨W.heap.size,0,ν⟩ 1 1 (Q0_ (v,c)) rfl rfl (World.news_of_block (cs:=#[I_ j_ v,I_ j_ c]) (t:=192) (fr:=(0,0)) (heap_alloc_new _ _)) (Qai_ _) mx_ oo (by have:=k.o.old.size;simp;omega) ?_;intro v' w5 b hg q;obtain⟨A',c',rfl,a,d,f⟩:=k.o.app0 p bra b hg;rw[hi]at a;have bc:w5.cell? ⟨D.T,1,ν⟩=σ (S_ A0 (η s.rules) c0):=a.cell 1;have bf:=a.frozen;have bz:=a.lt;have r:=h_ a;have n:=h_ d;have o:=h_ f);go_ret;exact⟨Kx_ oo,⟨_,_,_,_,_,_,_,_,n.o⟩,o.o⟩
 rw[show Q4_ s= -1 from in_ m,show s.rule v c=s from in_ m];have h9:8<=η s.rules:=oo;go_in;go_wp2;go_ret;exact⟨rfl,⟨_,_,_,_,_,_,_,_,k.o⟩,Kb.refl _⟩
def U5_ (D:BD) (hi:D.imp=τ) (s:Pb) (a b:Int) (W:Ω) (h:BdC D s W):
  Δ π 267 #[P_ (σ ⟨D.T,0,ν⟩),I_ j_ a,I_ j_ b] W (YW_ D W (U_ #[]) (s.tie a b)):=by
 obtain⟨A0,c0,A1,c1,A2,c2,A3,c3,hA⟩:=h;obtain⟨x0,x1,x2,x3,xn,xt,xb,xf,xz⟩:=hA.icells hi;have e:=h_ hA;by_cases f:0<=a/\0<=b/\η s.ties<20
 ·rw[show s.tie a b=⟨s.rules,s.chunks,s.spans,s.ties++[(a,b)],s.text⟩from ip_ f];obtain⟨q0,q1,q2⟩:=f;have q:D.fo 3=4:=by unfold BD.fo;rw[hi];rfl
  obtain⟨i0,n⟩:=iq_ Qdb_;go_in;go_wp2_with (at_builtin;refine Qi_ _ rfl (.tmp 26) (.tmp 30) _ rfl D.w0.heap.size 215 i0 (A_ #[I_ j_ 0,I_ j_ 0]) 2 16 underlying147 n.o.1 n.o.2.1 n.o.2.2.1 n.o.2.2.2 rfl dc_ (S_ A3 (η s.ties) c3) (η s.ties) (s.ties.flatMap KF_) rfl (Mine.alloc e.o.r3 _) ⟨W.heap.size,0,ν⟩ 1 1 (KF_ (a,b)) rfl rfl (World.news_of_block (cs:=#[I_ j_ a,I_ j_ b]) (t:=215) (fr:=(0,0)) (heap_alloc_new _ _)) (QeF_ _) mx_ oo (by have:=e.o.old.size;simp;omega) ?_;intro v' w5 d hg r;obtain⟨A',c',rfl,c,g,j⟩:=e.o.app3 q bra d hg;rw[hi]at c;have bc:w5.cell? ⟨D.T,4,ν⟩=σ (S_ A3 (η s.ties) c3):=c.cell 4;have bf:=c.frozen;have bz:=c.lt;have v:=h_ c;have o:=h_ g;have p:=h_ j);go_end0;exact⟨rfl,⟨_,_,_,_,_,_,_,_,o.o⟩,p.o⟩
 rw[show s.tie a b=s from in_ f];by_cases q0:0<=a
 ·by_cases q1:0<=b
  ·have q2:20<=η s.ties:=oo;go_in;go_wp2;go_end0;exact⟨rfl,⟨_,_,_,_,_,_,_,_,e.o⟩,Kb.refl _⟩
  go_in;go_wp2;go_end0;exact⟨rfl,⟨_,_,_,_,_,_,_,_,e.o⟩,Kb.refl _⟩
 go_in;go_wp2;go_end0;exact⟨rfl,⟨_,_,_,_,_,_,_,_,e.o⟩,Kb.refl _⟩
def qw_ (D:BD) (hi:D.imp=τ) (s:Pb) (r a b:Int) (sp:Bool) (W:Ω) (h:BdC D s W) (ht:s.text.size+1<=Xj_):
    Δ π 246 #[P_ (σ ⟨D.T,0,ν⟩),I_ j_ r,I_ j_ a,B_ sp,I_ j_ b] W (YW_ D W (U_ #[]) (s.split r a sp b)):=by
  obtain⟨A0,c0,A1,c1,A2,c2,A3,c3,hA⟩:=h;obtain⟨x0,x1,x2,x3,xn,xt,xb,xf,xz⟩:=hA.icells hi;have k:=h_ hA;unfold Xj_ at ht;by_cases l:0<=r/\η s.chunks<79
  · rw[show s.split r a sp b=⟨s.rules,s.chunks++[(s.text,r,a,sp,min b 40)],s.spans,s.ties,⟨#[]⟩⟩from ip_ l]
    obtain⟨q0,q1⟩:=l;have J:D.fo 1=2:=(by unfold BD.fo;rw[hi];rfl);obtain⟨i0,y,z,A,B⟩:=info_parts Vh_;have C:=h_ (ai_ y (ai_ z (ai_ A B)));have f:Λ W ((W.alloc (C_ #[I_ j_ r,I_ j_ a,B_ sp,I_ j_ (min b 40)] 176)).alloc (C_ #[T_ s.text,I_ j_ r,I_ j_ a,B_ sp,I_ j_ (min b 40)] 178)):=grow_;have N:=h_ f;have HM:=h_ (k.o.r1.next f);have K:((W.alloc (C_ #[I_ j_ r,I_ j_ a,B_ sp,I_ j_ (min b 40)] 176)).alloc (C_ #[T_ s.text,I_ j_ r,I_ j_ a,B_ sp,I_ j_ (min b 40)] 178)).heap[W.heap.size+1]? =σ (C_ #[T_ s.text,I_ j_ r,I_ j_ a,B_ sp,I_ j_ (min b 40)] 178 (0,0)):=by
      have:=heap_alloc_new (W.alloc (C_ #[I_ j_ r,I_ j_ a,B_ sp,I_ j_ (min b 40)] 176)) (C_ #[T_ s.text,I_ j_ r,I_ j_ a,B_ sp,I_ j_ (min b 40)] 178);rwa[ws_]at this
    have x:D.w0.heap.size<=((W.alloc (C_ #[I_ j_ r,I_ j_ a,B_ sp,I_ j_ (min b 40)] 176)).alloc (C_ #[T_ s.text,I_ j_ r,I_ j_ a,B_ sp,I_ j_ (min b 40)] 178)).heap.size:=lt_ k.o.old.size f.size;have F:=h_ x;have E:=h_ (λ(w3:Ω) hg=>(k.o.grown f k.o.r1 (w3:=w3) hg (Ne.symm (YY_ D.imp).2.2.1) dc_).1);have n:=h_ (λ(v':Υ) (w3:Ω) h1 h2=>k.o.app1 J f (d:=(s.text,r,a,sp,min b 40)) (v':=v') (w3:=w3) h1 h2);go_in;go_upto_region 2 with fail
    go_region_law
      (refine step_append_lies _ rfl (.tmp 33) (.tmp 40) 145 rfl D.w0.heap.size 178 i0 (A_ #[T_ ⟨#[]⟩,I_ j_ 0,I_ j_ 0,B_ φ,I_ j_ 0]) 5 48 underlying145 C.o.1 C.o.2.1 C.o.2.2.1 C.o.2.2.2 rfl dc_ (S_ A1 (η s.chunks) c1) (η s.chunks) (s.chunks.flatMap Qo_) ev_ (by first|exact HM.o.drew|exact HM.o) ⟨W.heap.size+1,0,ν⟩ 1 1 (Qo_ (s.text,r,a,sp,min b 40)) ev_ (by rfl) (World.news_of_block (cs:=#[T_ s.text,I_ j_ r,I_ j_ a,B_ sp,I_ j_ (min b 40)]) (t:=178) (fr:=(0,0)) K) (Vc_ _) dc_ mx_ oo (by first|exact F.o) (W.heap.size+1+1) sm_ ?_
       intro q6 cap L i e I M;have c:((W.alloc (C_ #[I_ j_ r,I_ j_ a,B_ sp,I_ j_ (min b 40)] 176)).alloc (C_ #[T_ s.text,I_ j_ r,I_ j_ a,B_ sp,I_ j_ (min b 40)] 178)).grownBy L (S_ A1 (η s.chunks) c1).ownBlock:=(by first|exact e|exact Q9_ e);have g:=E.o _ c;rw[hi]at g;have j5:L.cell? ⟨D.T,2,ν⟩=σ (S_ A1 (η s.chunks) c1):=g.cell 2;have jf:=g.frozen;have jz:=g.lt;have HW:=h_ (n.o _ _ i c))
    all_goals
      obtain⟨A',c',ev,j,o,q⟩:=HW.o;injection ev with ev1 ev2 ev3;subst ev1;subst ev3;obtain⟨p,v⟩:=o.setText ⟨#[]⟩;have G:=h_ p;have H:=h_<|q.trans v;rw[hi]at j;have yc:L.cell? ⟨D.T,6,ν⟩=σ (T_ s.text):=j.cell 6;have yf:=j.frozen;go_wp2;go_end0;exact⟨rfl,⟨_,_,_,_,_,_,_,_,G.o⟩,H.o⟩
  by_cases m:sp=τ
  · subst m
    rw[show s.split r a τ b=s.put ⟨#[32]⟩from(in_ l).trans (ip_ rfl)];have n:=h_<|BdC.put (D:=D) (s:=s) (w:=W) ⟨A0,c0,A1,c1,A2,c2,A3,c3,k.o⟩ ⟨#[32]⟩
    
    by_cases q0:0<=r
    · have q1:79<=η s.chunks:=oo
      go_in;go_wp2;go_end0;exact⟨rfl,n.o.1,n.o.2⟩
    have q2:r<0:=oo;go_in;go_wp2;go_end0;exact⟨rfl,n.o.1,n.o.2⟩
  obtain rfl:sp=φ:=by cases sp;rfl;exact absurd rfl m
  rw[show s.split r a φ b=s from(in_ l).trans (in_ m)];by_cases q0:0<=r
  · have q1:79<=η s.chunks:=oo
    go_in;go_wp2;go_end0;exact⟨rfl,⟨_,_,_,_,_,_,_,_,k.o⟩,Kb.refl _⟩
  have q2:r<0:=oo;go_in;go_wp2;go_end0;exact⟨rfl,⟨_,_,_,_,_,_,_,_,k.o⟩,Kb.refl _⟩
def GV_ (D:BD) (hi:D.imp=τ) (s:Pb) (a:Nat) (W:Ω) (h:BdC D s W) (h1:a<=1000) (hc:η s.chunks<=1000):
  Δ π 268 #[P_ (σ ⟨D.T,0,ν⟩),I_ j_ (a:Int)] W (YW_ D W (U_ #[]) (s.span a)):=by
 obtain⟨A0,c0,A1,c1,A2,c2,A3,c3,hA⟩:=h;obtain⟨x0,x1,x2,x3,xn,xt,xb,xf,xz⟩:=hA.icells hi;have d:=h_ hA;by_cases e:a<η s.chunks/\η s.spans<40
 ·rw[show s.span a=⟨s.rules,s.chunks,s.spans++[((a:Int),(η s.chunks:Int)-1,1)],s.ties,s.text⟩from ip_ e];obtain⟨q0,q1⟩:=e;have p:D.fo 2=3:=by unfold BD.fo;rw[hi];rfl
  obtain⟨i0,m⟩:=iq_ qx_;go_in;go_wp2_with (at_builtin;refine Qi_ _ rfl (.tmp 29) (.tmp 33) _ rfl D.w0.heap.size 213 i0 (A_ #[I_ j_ 0,I_ j_ 0,I_ j_ 0]) 3 24 underlying146 m.o.1 m.o.2.1 m.o.2.2.1 m.o.2.2.2 rfl dc_ (S_ A2 (η s.spans) c2) (η s.spans) (s.spans.flatMap QJ_) rfl (Mine.alloc d.o.r2 _) ⟨W.heap.size,0,ν⟩ 1 1 (QJ_ ((a:Int),(η s.chunks:Int)-1,1)) rfl rfl (World.news_of_block (cs:=#[I_ j_ (a:Int),I_ j_ ((η s.chunks:Int)-1),I_ j_ 1]) (t:=213) (fr:=(0,0)) (heap_alloc_new _ _)) (qW_ _) mx_ oo (by have:=d.o.old.size;simp;omega) ?_;intro v' w5 c hg q;obtain⟨A',c',rfl,b,f,i⟩:=d.o.app2 p bra c hg;rw[hi]at b;have bc:w5.cell? ⟨D.T,3,ν⟩=σ (S_ A2 (η s.spans) c2):=b.cell 3;have bf:=b.frozen;have bz:=b.lt;have r:=h_ b;have n:=h_ f;have o:=h_ i);go_end0;exact⟨rfl,⟨_,_,_,_,_,_,_,_,n.o⟩,o.o⟩
 rw[show s.span a=s from in_ e];by_cases q0:a<η s.chunks
 ·have q1:40<=η s.spans:=oo;go_in;go_wp2;go_end0;exact⟨rfl,⟨_,_,_,_,_,_,_,_,d.o⟩,Kb.refl _⟩
 go_in;go_wp2;go_end0;exact⟨rfl,⟨_,_,_,_,_,_,_,_,d.o⟩,Kb.refl _⟩
def xD_ (D:BD) (hi:D.imp=φ) (s:Pb) (v c:Int) (W:Ω) (h:BdC D s W):
  Δ π 136 #[P_ (σ ⟨D.T,0,ν⟩),I_ j_ v,I_ j_ c] W (YW_ D W (I_ j_ (Q4_ s)) (s.rule v c)):=by
 obtain⟨A0,c0,A1,c1,A2,c2,A3,c3,hA⟩:=h;obtain⟨x0,x1,x2,x3,xn,xt,xb,xf,xz⟩:=hA.scells hi;have k:=h_ hA;by_cases m:η s.rules<8
 ·rw[show Q4_ s=(η s.rules:Int)from ip_ m,show s.rule v c=⟨s.rules++[(v,c)],s.chunks,s.spans,s.ties,s.text⟩from ip_ m];have p:D.fo 0=2:=by unfold BD.fo;rw[hi];rfl
  obtain⟨i0,l⟩:=iq_ vP_;go_in;go_wp2_with (at_builtin;refine Qi_ _ rfl (.tmp 25) (.tmp 29) _ rfl D.w0.heap.size 192 i0 (A_ #[I_ j_ 0,I_ j_ 0]) 2 16 underlying144 l.o.1 l.o.2.1 l.o.2.2.1 l.o.2.2.2 rfl dc_ (S_ A0 (η s.rules) c0) (η s.rules) (s.rules.flatMap Q0_) rfl (Mine.alloc k.o.r0 _) ⟨W.heap.size,0,ν⟩ 1 1 (Q0_ (v,c)) rfl rfl (World.news_of_block (cs:=#[I_ j_ v,I_ j_ c]) (t:=192) (fr:=(0,0)) (heap_alloc_new _ _)) (Qai_ _) mx_ oo (by have:=k.o.old.size;simp;omega) ?_;intro v' w5 b hg q;obtain⟨A',c',rfl,a,d,f⟩:=k.o.app0 p bra b hg;rw[hi]at a;have bc:w5.cell? ⟨D.T,2,ν⟩=σ (S_ A0 (η s.rules) c0):=a.cell 2;have bf:=a.frozen;have bz:=a.lt;have r:=h_ a;have n:=h_ d;have o:=h_ f);go_ret;exact⟨Kx_ oo,⟨_,_,_,_,_,_,_,_,n.o⟩,o.o⟩
 rw[show Q4_ s= -1 from in_ m,show s.rule v c=s from in_ m];have h9:8<=η s.rules:=oo;go_in;go_wp2;go_ret;exact⟨rfl,⟨_,_,_,_,_,_,_,_,k.o⟩,Kb.refl _⟩
def WN_ (D:BD) (hi:D.imp=φ) (s:Pb) (a b:Int) (W:Ω) (h:BdC D s W) (ha:0<=a):
  Δ π 229 #[P_ (σ ⟨D.T,0,ν⟩),I_ j_ a,I_ j_ b] W (YW_ D W (U_ #[]) (if a<(η s.rules:Int)then s.tie a b else s)):=by
 obtain⟨A0,c0,A1,c1,A2,c2,A3,c3,hA⟩:=h;obtain⟨x0,x1,x2,x3,xn,xt,xb,xf,xz⟩:=hA.scells hi;have f:=h_ hA;by_cases q1:0<=b
 ·by_cases q0:a<(η s.rules:Int)
  ·rw[ip_ q0];by_cases q2:η s.ties<20
   ·rw[show s.tie a b=⟨s.rules,s.chunks,s.spans,s.ties++[(a,b)],s.text⟩from ip_ ⟨ha,q1,q2⟩];have q:D.fo 3=5:=(by unfold BD.fo;rw[hi];rfl);obtain⟨i0,n⟩:=iq_ Qdb_;go_in;go_wp2_with (at_builtin;refine Qi_ _ rfl (.tmp 32) (.tmp 36) _ rfl D.w0.heap.size 215 i0 (A_ #[I_ j_ 0,I_ j_ 0]) 2 16 underlying147 n.o.1 n.o.2.1 n.o.2.2.1 n.o.2.2.2 rfl dc_ (S_ A3 (η s.ties) c3) (η s.ties) (s.ties.flatMap KF_) rfl (Mine.alloc f.o.r3 _) ⟨W.heap.size,0,ν⟩ 1 1 (KF_ (a,b)) rfl rfl (World.news_of_block (cs:=#[I_ j_ a,I_ j_ b]) (t:=215) (fr:=(0,0)) (heap_alloc_new _ _)) (QeF_ _) mx_ oo (by have:=f.o.old.size;simp;omega) ?_;intro v' w5 d hg r;obtain⟨A',c',rfl,c,g,j⟩:=f.o.app3 q bra d hg;rw[hi]at c;have bc:w5.cell? ⟨D.T,5,ν⟩=σ (S_ A3 (η s.ties) c3):=c.cell 5;have bf:=c.frozen;have bz:=c.lt;have v:=h_ c;have o:=h_ g;have p:=h_ j);go_end0;exact⟨rfl,⟨_,_,_,_,_,_,_,_,o.o⟩,p.o⟩
   rw[show s.tie a b=s from in_ (λh=>q2 h.2.2)];have q3:20<=η s.ties:=oo;go_in;go_wp2;go_end0;exact⟨rfl,⟨_,_,_,_,_,_,_,_,f.o⟩,Kb.refl _⟩
  rw[in_ q0];go_in;go_wp2;go_end0;exact⟨rfl,⟨_,_,_,_,_,_,_,_,f.o⟩,Kb.refl _⟩
 have e:s.tie a b=s:=in_ (λh=>q1 h.2.1);rw[show(if a<(η s.rules:Int)then s.tie a b else s)=s by rw[e,ite_self]];go_in;go_wp2;go_end0;exact⟨rfl,⟨_,_,_,_,_,_,_,_,f.o⟩,Kb.refl _⟩
def Xh_ (D:BD) (hi:D.imp=φ) (s:Pb) (t:BA) (W:Ω) (h:BdC D s W) (ht:s.text.size+t.size<=Xj_):
  Δ π 138 #[P_ (σ ⟨D.T,0,ν⟩),T_ t] W (YW_ D W (U_ #[]) (s.put t)):=by
 obtain⟨A0,c0,A1,c1,A2,c2,A3,c3,hA⟩:=h;obtain⟨x0,x1,x2,x3,xn,xt,xb,xf,xz⟩:=hA.scells hi;have HA:=h_ hA;unfold Xj_ at ht;have HP:=h_<|BdC.put (D:=D) (s:=s) (w:=W) ⟨A0,c0,A1,c1,A2,c2,A3,c3,HA.o⟩ t;go_in;go_wp2;go_end0;exact⟨rfl,HP.o.1,HP.o.2⟩
def q2_ (D:BD) (hi:D.imp=φ) (s:Pb) (r a B:Int) (sp:Bool) (W:Ω) (h:BdC D s W) (ht:s.text.size+1<=Xj_):
  Δ π 135 #[P_ (σ ⟨D.T,0,ν⟩),I_ j_ r,I_ j_ a,B_ sp,I_ j_ B] W (YW_ D W (U_ #[]) (s.split r a sp B)):=by
 obtain⟨A0,c0,A1,c1,A2,c2,A3,c3,hA⟩:=h;obtain⟨x0,x1,x2,x3,xn,xt,xb,xf,xz⟩:=hA.scells hi;have l:=h_ hA;clear hA;unfold Xj_ at ht;by_cases F:0<=r/\η s.chunks<79
 ·rw[show s.split r a sp B=⟨s.rules,s.chunks++[(s.text,r,a,sp,min B 40)],s.spans,s.ties,⟨#[]⟩⟩from ip_ F];by_cases aa:40<B
  ·obtain⟨k,x⟩:∃k,k=min B 40:=⟨_,rfl⟩;obtain rfl:k=40:=oo;rw[<-x];obtain⟨q0,q1⟩:=F;have L:D.fo 1=3:=(by unfold BD.fo;rw[hi];rfl);obtain⟨Z,v,y,z,A⟩:=info_parts Vh_;have C:=h_ (ai_ v (ai_ y (ai_ z A)));have f:Λ W (W.alloc (C_ #[T_ s.text,I_ j_ r,I_ j_ a,B_ sp,I_ j_ 40] 178)):=grow_;have X:=h_ f;have P:=h_ (l.o.r1.next f);have M:(W.alloc (C_ #[T_ s.text,I_ j_ r,I_ j_ a,B_ sp,I_ j_ 40] 178)).heap[W.heap.size]? =σ (C_ #[T_ s.text,I_ j_ r,I_ j_ a,B_ sp,I_ j_ 40] 178 (0,0)):=by
    have:=heap_alloc_new W (C_ #[T_ s.text,I_ j_ r,I_ j_ a,B_ sp,I_ j_ 40] 178);rwa[show W.heap.size=W.heap.size from rfl]at this
   have q:D.w0.heap.size<=(W.alloc (C_ #[T_ s.text,I_ j_ r,I_ j_ a,B_ sp,I_ j_ 40] 178)).heap.size:=lt_ l.o.old.size f.size;have H:=h_ q;have G:=h_ (λ(w3:Ω) Y=>(l.o.grown f l.o.r1 (w3:=w3) Y (Ne.symm (YY_ D.imp).2.2.1) dc_).1);have T:=h_ (λ(v':Υ) (w3:Ω) h1 E=>l.o.app1 L f (d:=(s.text,r,a,sp,40)) (v':=v') (w3:=w3) h1 E);clear v y z A f q;clear x;go_in;go_upto_region 5 with fail
   go_region_law
    (refine step_append_lies _ rfl (.tmp 31) (.tmp 42) 145 rfl D.w0.heap.size 178 Z (A_ #[T_ ⟨#[]⟩,I_ j_ 0,I_ j_ 0,B_ φ,I_ j_ 0]) 5 48 underlying145 C.o.1 C.o.2.1 C.o.2.2.1 C.o.2.2.2 rfl dc_ (S_ A1 (η s.chunks) c1) (η s.chunks) (s.chunks.flatMap Qo_) ev_ (by first|exact P.o.drew|exact P.o) ⟨W.heap.size,0,ν⟩ 1 1 (Qo_ (s.text,r,a,sp,40)) ev_ (by rfl) (World.news_of_block (cs:=#[T_ s.text,I_ j_ r,I_ j_ a,B_ sp,I_ j_ 40]) (t:=178) (fr:=(0,0)) M) (Vc_ _) dc_ mx_ oo (by first|exact H.o) (W.heap.size+1) sm_ ?_
     intro q6 cap O i c K S;have b:(W.alloc (C_ #[T_ s.text,I_ j_ r,I_ j_ a,B_ sp,I_ j_ 40] 178)).grownBy O (S_ A1 (η s.chunks) c1).ownBlock:=(by first|exact c|exact Q9_ c);have g:=G.o _ b;rw[hi]at g;have j5:O.cell? ⟨D.T,3,ν⟩=σ (S_ A1 (η s.chunks) c1):=g.cell 3;have jf:=g.frozen;have jz:=g.lt;have Q:=h_ (T.o _ _ i b);clear i c K b g)
   all_goals
    obtain⟨A',c',ev,j,m,o⟩:=Q.o;injection ev with ev1 ev2 ev3;subst ev1;subst ev3;obtain⟨n,p⟩:=m.setText ⟨#[]⟩;have I:=h_ n;have J:=h_<|o.trans p;rw[hi]at j;have yc:O.cell? ⟨D.T,6,ν⟩=σ (T_ s.text):=j.cell 6;have yf:=j.frozen;clear j m o n p Q ev2;go_wp2;go_end0;exact⟨rfl,⟨_,_,_,_,_,_,_,_,I.o⟩,J.o⟩
  obtain⟨k,x⟩:∃k,k=min B 40:=⟨_,rfl⟩;obtain rfl:k=B:=oo;rw[<-x];obtain⟨q0,q1⟩:=F;have L:D.fo 1=3:=(by unfold BD.fo;rw[hi];rfl);obtain⟨Z,v,y,z,A⟩:=info_parts Vh_;have C:=h_ (ai_ v (ai_ y (ai_ z A)));have f:Λ W (W.alloc (C_ #[T_ s.text,I_ j_ r,I_ j_ a,B_ sp,I_ j_ k] 178)):=grow_;have X:=h_ f;have P:=h_ (l.o.r1.next f);have M:(W.alloc (C_ #[T_ s.text,I_ j_ r,I_ j_ a,B_ sp,I_ j_ k] 178)).heap[W.heap.size]? =σ (C_ #[T_ s.text,I_ j_ r,I_ j_ a,B_ sp,I_ j_ k] 178 (0,0)):=by
   have:=heap_alloc_new W (C_ #[T_ s.text,I_ j_ r,I_ j_ a,B_ sp,I_ j_ k] 178);rwa[show W.heap.size=W.heap.size from rfl]at this
  have q:D.w0.heap.size<=(W.alloc (C_ #[T_ s.text,I_ j_ r,I_ j_ a,B_ sp,I_ j_ k] 178)).heap.size:=lt_ l.o.old.size f.size;have H:=h_ q;have G:=h_ (λ(w3:Ω) Y=>(l.o.grown f l.o.r1 (w3:=w3) Y (Ne.symm (YY_ D.imp).2.2.1) dc_).1);have T:=h_ (λ(v':Υ) (w3:Ω) h1 E=>l.o.app1 L f (d:=(s.text,r,a,sp,k)) (v':=v') (w3:=w3) h1 E);clear v y z A f q;clear x;go_in;go_upto_region 5 with fail
  go_region_law
   (refine step_append_lies _ rfl (.tmp 31) (.tmp 42) 145 rfl D.w0.heap.size 178 Z (A_ #[T_ ⟨#[]⟩,I_ j_ 0,I_ j_ 0,B_ φ,I_ j_ 0]) 5 48 underlying145 C.o.1 C.o.2.1 C.o.2.2.1 C.o.2.2.2 rfl dc_ (S_ A1 (η s.chunks) c1) (η s.chunks) (s.chunks.flatMap Qo_) ev_ (by first|exact P.o.drew|exact P.o) ⟨W.heap.size,0,ν⟩ 1 1 (Qo_ (s.text,r,a,sp,k)) ev_ (by rfl) (World.news_of_block (cs:=#[T_ s.text,I_ j_ r,I_ j_ a,B_ sp,I_ j_ k]) (t:=178) (fr:=(0,0)) M) (Vc_ _) dc_ mx_ oo (by first|exact H.o) (W.heap.size+1) sm_ ?_
    intro q6 cap O i c K S;have b:(W.alloc (C_ #[T_ s.text,I_ j_ r,I_ j_ a,B_ sp,I_ j_ k] 178)).grownBy O (S_ A1 (η s.chunks) c1).ownBlock:=(by first|exact c|exact Q9_ c);have g:=G.o _ b;rw[hi]at g;have j5:O.cell? ⟨D.T,3,ν⟩=σ (S_ A1 (η s.chunks) c1):=g.cell 3;have jf:=g.frozen;have jz:=g.lt;have Q:=h_ (T.o _ _ i b);clear i c K b g)
  all_goals
   obtain⟨A',c',ev,j,m,o⟩:=Q.o;injection ev with ev1 ev2 ev3;subst ev1;subst ev3;obtain⟨n,p⟩:=m.setText ⟨#[]⟩;have I:=h_ n;have J:=h_<|o.trans p;rw[hi]at j;have yc:O.cell? ⟨D.T,6,ν⟩=σ (T_ s.text):=j.cell 6;have yf:=j.frozen;clear j m o n p Q ev2;go_wp2;go_end0;exact⟨rfl,⟨_,_,_,_,_,_,_,_,I.o⟩,J.o⟩
 by_cases N:sp=τ
 ·subst N;rw[show s.split r a τ B=s.put ⟨#[32]⟩from(in_ F).trans (ip_ rfl)];have T:=h_ (BdC.put (D:=D) (s:=s) (w:=W) ⟨A0,c0,A1,c1,A2,c2,A3,c3,l.o⟩ ⟨#[32]⟩);have HS:=h_ (Xh_ D hi s ⟨#[32]⟩ W ⟨A0,c0,A1,c1,A2,c2,A3,c3,l.o⟩ (by unfold Xj_;exact ht));by_cases q0:0<=r
  ·have q1:79<=η s.chunks:=oo;clear F;go_in;go_wp2_with fail;refine mb_ HS.o ?_;rintro w2 ⟨E,R⟩;have U:=h_ E;have V:=h_ R;clear E R;go_wp2;go_end0;exact⟨rfl,U.o,V.o⟩
  clear F;have q2:r<0:=oo;go_in;go_wp2_with fail;refine mb_ HS.o ?_;rintro w2 ⟨E,R⟩;have U:=h_ E;have V:=h_ R;clear E R;go_wp2;go_end0;exact⟨rfl,U.o,V.o⟩
 obtain rfl:sp=φ:=(by cases sp;rfl;exact absurd rfl N);rw[show s.split r a φ B=s from(in_ F).trans (in_ N)];by_cases q0:0<=r
 ·have q1:79<=η s.chunks:=oo;clear F;go_in;go_wp2;go_end0;exact⟨rfl,⟨_,_,_,_,_,_,_,_,l.o⟩,Kb.refl _⟩
 clear F;have q2:r<0:=oo;go_in;go_wp2;go_end0;exact⟨rfl,⟨_,_,_,_,_,_,_,_,l.o⟩,Kb.refl _⟩
abbrev retB (a:Bool) (v:Int):Υ:=if a then I_ j_ v else U_ #[]
def KidC (F:FuncId) (D:BD) (ps:List PN) (f:Nat):Prop:=
 ∀(j:Nat) (s:Pb) (a:Int) (W:Ω),j<f->QI_ (Qc_ ps (j:Int))->0<=a->a+4*(j:Int)<=4000->(D.imp=τ->a<=40)->η s.chunks<=79->BdC D s W->s.text.size+Kk_ ps j*2000000<=Xj_->
  Δ π F #[P_ (σ ⟨D.T,0,ν⟩),I_ j_ (j:Int),I_ j_ a] W (YW_ D W (retB D.imp (ownN ps j s)) (QR_ ps f j (min a 40) s))
structure Bt (F:FuncId) (D:BD) (ps:List PN) (f:Nat) (fin:Pb) (w:Ω) (s:Pb) (r:Int) (es:List Bv) (W:Ω):Prop where
 C:BdC D s W
 L:(VL_ (QR_ ps f) (s,r) es).1=fin
 Z:s.text.size+wS 2000000 ps es<=Xj_
 K:Kb w W
 N:KidC F D ps f
 Li:Uh_ 2000000 ps (QR_ ps f)
 c79:η s.chunks<=79
section
variable {F:FuncId} {D:BD} {ps:List PN} {f:Nat} {fin:Pb} {w:Ω} {s:Pb} {r:Int} {es:List Bv} {e:Bv} {W W':Ω}
def Bt.jump (H:Bt F D ps f fin w s r (e::es) W) (hC:BdC D (Jv_ (QR_ ps f) (s,r) e).1 W') (hk:Kb W W'):Bt F D ps f fin w (Jv_ (QR_ ps f) (s,r) e).1 (Jv_ (QR_ ps f) (s,r) e).2 es W':=by
 refine⟨hC,H.L,?_,H.K.trans hk,H.N,H.Li,Qap_ (WS_ ps f) (s,r) e H.c79⟩;have h1:=xI_ H.Li (s,r) e;have h2:=H.Z;rw[Ky_]at h2;dsimp only at h1;omega
def Bt.next (H:Bt F D ps f fin w s r es W) (hb:Λ W W'):Bt F D ps f fin w s r es W':=⟨H.C.next hb,H.L,H.Z,H.K.trans (Kb.below hb),H.N,H.Li,H.c79⟩
def Bt.fin_ (H:Bt F D ps f fin w s r [] W):BdC D fin W/\Kb w W:=by
 have h:=H.L;subst h;exact⟨H.C,H.K⟩
def Bt.size (H:Bt F D ps f fin w s r (e::es) W):s.text.size+wB 2000000 ps e<=Xj_:=by
 have h2:=H.Z;rw[Ky_]at h2;omega
def Bt.put {t:BA} (H:Bt F D ps f fin w s r (.put t::es) W):Bt F D ps f fin w (s.put t) r es (W.setCell ⟨D.T,6,ν⟩ (T_ (s.text++t))):=by
 obtain⟨h1,h2⟩:=H.C.put t;exact H.jump h1 h2
def BdC.tx (h:BdC D s W):W.cell? ⟨D.T,6,ν⟩=σ (T_ s.text)/\(∀i,W.frozen? ⟨D.T,i,ν⟩=φ)/\D.T<W.heap.size:=by
 obtain⟨A0,c0,A1,c1,A2,c2,A3,c3,h⟩:=h
 cases hi:D.imp with
 |true=>have:=h.icells hi;exact⟨this.2.2.2.2.2.1,this.2.2.2.2.2.2.2.1,this.2.2.2.2.2.2.2.2⟩
 |false=>have:=h.scells hi;exact⟨this.2.2.2.2.2.1,this.2.2.2.2.2.2.2.1,this.2.2.2.2.2.2.2.2⟩
def BdC.old (h:BdC D s W):Below D.w0.heap.size D.w0 W:=by
 obtain⟨A0,c0,A1,c1,A2,c2,A3,c3,h⟩:=h;exact h.old
def xG_ (s:Pb) (r n:Int) (sp:Bool) (h:min a 40=min b 40):s.split r n sp a=s.split r n sp b:=by unfold Pb.split;rw[h]
variable {R:Ending->Ω->Prop}
def Bt.irule (hi:D.imp=τ) (H:Ψ (Bt F D ps f fin w s r (.rule a b::es) W)) (k:∀W1,Ψ (Bt F D ps f fin w (s.rule a b) (Q4_ s) es W1)->Ψ (Kb W W1)->R (R_ (I_ j_ (Q4_ s))) W1):Δ π 245 #[P_ (σ ⟨D.T,0,ν⟩),I_ j_ a,I_ j_ b] W R:=
 (kH_ D hi s a b W H.o.C).mono (by rintro e w1 ⟨rfl,h1,h2⟩;exact k w1 (h_ (H.o.jump h1 h2)) (h_ h2))
def Bt.isplit (hi:D.imp=τ) (H:Ψ (Bt F D ps f fin w s r (.split a v b::es) W)) (hn:min n 40=min b 40) (k:∀W1,Ψ (Bt F D ps f fin w (s.split r a v b) r es W1)->Ψ (Kb W W1)->R (R_ (U_ #[])) W1):Δ π 246 #[P_ (σ ⟨D.T,0,ν⟩),I_ j_ r,I_ j_ a,B_ v,I_ j_ n] W R:=by
 have h:=qw_ D hi s r a n v W H.o.C (by have:=H.o.size;exact this);rw[xG_ s r a v hn]at h;exact h.mono (by rintro e w1 ⟨rfl,h1,h2⟩;exact k w1 (h_ (H.o.jump h1 h2)) (h_ h2))
def Bt.srule (hi:D.imp=φ) (H:Ψ (Bt F D ps f fin w s r (.rule a b::es) W)) (k:∀W1,Ψ (Bt F D ps f fin w (s.rule a b) (Q4_ s) es W1)->Ψ (Kb W W1)->R (R_ (I_ j_ (Q4_ s))) W1):Δ π 136 #[P_ (σ ⟨D.T,0,ν⟩),I_ j_ a,I_ j_ b] W R:=
 (xD_ D hi s a b W H.o.C).mono (by rintro e w1 ⟨rfl,h1,h2⟩;exact k w1 (h_ (H.o.jump h1 h2)) (h_ h2))
def Bt.ssplit (hi:D.imp=φ) (H:Ψ (Bt F D ps f fin w s r (.split a v b::es) W)) (hn:min n 40=min b 40) (k:∀W1,Ψ (Bt F D ps f fin w (s.split r a v b) r es W1)->Ψ (Kb W W1)->R (R_ (U_ #[])) W1):Δ π 135 #[P_ (σ ⟨D.T,0,ν⟩),I_ j_ r,I_ j_ a,B_ v,I_ j_ n] W R:=by
 have h:=q2_ D hi s r a n v W H.o.C (by have:=H.o.size;exact this);rw[xG_ s r a v hn]at h;exact h.mono (by rintro e w1 ⟨rfl,h1,h2⟩;exact k w1 (h_ (H.o.jump h1 h2)) (h_ h2))
def Bt.sput {t:BA} (hi:D.imp=φ) (H:Ψ (Bt F D ps f fin w s r (.put t::es) W)) (k:∀W1,Ψ (Bt F D ps f fin w (s.put t) r es W1)->Ψ (Kb W W1)->R (R_ (U_ #[])) W1):Δ π 138 #[P_ (σ ⟨D.T,0,ν⟩),T_ t] W R:=
 (Xh_ D hi s t W H.o.C (by have:=H.o.size;exact this)).mono (by rintro e w1 ⟨rfl,h1,h2⟩;exact k w1 (h_ (H.o.jump h1 h2)) (h_ h2))
def Bt.kid (H:Ψ (Bt F D ps f fin w s r (.kid (k:Int) a::es) W)) (hj:k<f) (hv:QI_ (Qc_ ps (k:Int))) (ha:0<=b) (c:b+4*(k:Int)<=4000) (hn:min b 40=a) (j:∀W1,Ψ (Bt F D ps f fin w (QR_ ps f k a s) r es W1)->Ψ (Kb W W1)->R (R_ (retB D.imp (ownN ps k s))) W1) (d:D.imp=τ->b<=40:=by first|(intro _;omega)|(intro e;simp_all)):Δ π F #[P_ (σ ⟨D.T,0,ν⟩),I_ j_ (k:Int),I_ j_ b] W R:=by
 subst hn;refine mb_ (H.o.N k s b W hj hv ha c d H.o.c79 H.o.C (by have:=H.o.size;exact this)) ?_;rintro w1 ⟨h1,h2⟩;exact j w1 (h_ (H.o.jump (e:=.kid (k:Int) (min b 40)) h1 h2))<|h_ h2
end
end Go.Proofs.YtbiijipkgfpgoaaGreatDoor

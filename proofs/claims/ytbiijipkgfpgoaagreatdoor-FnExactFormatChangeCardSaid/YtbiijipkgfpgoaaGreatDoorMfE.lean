/-
  Put together by program.
-/
import Derived.Test.YtbiijipkgfpgoaaGreatDoorMfD
import Derived.Lib.AppendIntMem
import Derived.Lib.ItoaLen
set_option maxRecDepth 100000
set_option linter.all false
set_option maxHeartbeats 25600000
open Go.Proofs.Tryz
open Go.Value renaming int→I_,slice→S_,string→T_,bool→B_,agg→A_,tuple→U_
open Go.IntKind renaming i64→j_
open Go.Obj renaming cells→C_
open Go.Ending renaming returned→R_
namespace Go.Proofs.YtbiijipkgfpgoaaGreatDoor
open Go.RowKit
def Kv_ (g:Nat->Nat) (l:LI):Nat:=(l.map (fun j=>g j.toNat)).sum
theorem UQ_ (g:Nat->Nat) (a b:LI):Kv_ g (a++b)=Kv_ g a+Kv_ g b:=by simp[Kv_]
def visF (ps:List PN):Nat->Nat->Nat
 |0,_=>0
 |f+1,k=>match ps[k]? with|none=>0|some p=>1+Kv_ (visF ps f) p.kids
theorem QeO_ {ps:List PN} (hg:Good ps):∀(f k:Nat),k < f->visF ps f k=visF ps (k+1) k:=by
 intro f
 induction f using Nat.strongRecOn with
 |ind f c=>
  intro k hk;obtain⟨a,rfl⟩:∃a,f=a+1:=⟨f - 1,oo⟩
  cases b:ps[k]? with
  |none=>simp[visF,b]
  |some p=>
   have hp:=(hg k p b).2;simp only[visF,b];congr 1;unfold Kv_;congr 1;apply List.map_congr_left;intro v hv;have d:=hp v hv;rw[c a oo v.toNat oo];by_cases e:k=a
   ·subst e;rw[c k oo v.toNat oo]
   ·rw[c k oo v.toNat oo]
def Kk_ (ps:List PN) (k:Nat):Nat:=visF ps (k+1) k
theorem Vz_ {ps:List PN} (hg:Good ps) {k:Nat} {p:PN} (hx:ps[k]? =some p):Kk_ ps k=1+Kv_ (Kk_ ps) p.kids:=by
 have:Kk_ ps k=1+Kv_ (visF ps k) p.kids:=by
  show visF ps (k+1) k=_;simp only[visF,hx]
 rw[this];congr 1;unfold Kv_;congr 1;apply List.map_congr_left;intro v hv;have:=(hg k p hx).2 v hv;exact QeO_ hg k v.toNat oo
def sumV (ps:List PN) (m:Nat):Nat:=((List.range m).map (Kk_ ps)).sum
theorem xK_ (ps:List PN) (m:Nat):sumV ps (m+1)=sumV ps m+Kk_ ps m:=by unfold sumV;rw[List.range_succ];simp
theorem Qex_ {ps:List PN} (hg:Good ps):∀m,m<=ps.length->sumV ps m=m+Kv_ (Kk_ ps) (QU_ ps m):=by
 intro m
 induction m with
 |zero=>intro _;simp[sumV,Kv_,QU_]
 |succ m ih=>
  intro hm;obtain⟨p,hx⟩:∃p,ps[m]? =some p:=⟨_,gE oo⟩;rw[xK_,ih oo,XN_ hx,UQ_,Vz_ hg hx];omega
theorem Qbh_ {ps:List PN} (hg:Good ps):∀m v,v∈QU_ ps m->0<=v/\v+1 < (m:Int)+0\/0<=v/\v < (m:Int) - 1:=by
 intro m
 induction m with
 |zero=>intro v a;simp[QU_]at a
 |succ m ih=>
  intro v a
  cases b:ps[m]? with
  |none=>
   have:QU_ ps (m+1)=QU_ ps m:=(by unfold QU_;rw[List.take_add_one,b];simp);rw[this]at a;have:=ih v a;omega
  |some p=>
   rw[XN_ b]at a;rcases List.mem_append.1 a with a|a
   ·have:=ih v a;omega
   ·have:=(hg m p b).2 v a;omega
theorem jM_ (m q:Nat):((List.range m).map (fun(j:Nat)=>(j:Int))).count (q:Int)=if q < m then 1 else 0:=by
 induction m with
 |zero=>simp
 |succ m ih=>
  rw[List.range_succ,List.map_append,List.count_append,ih];simp only[List.map_cons,List.map_nil,List.count_singleton];by_cases h:q=m
  ·subst h;simp
  ·have:((m:Int)==(q:Int))=false:=(by rw[bn_];omega);rw[this];simp only[Bool.false_eq_true,if_false,Nat.add_zero];by_cases h2:q < m
   ·rw[ip_ h2,ip_ oo]
   ·rw[in_ h2,in_ oo]
theorem QfN_ {l r:List Nat} (h:l.Perm r):l.sum=r.sum:=by
 induction h with
 |nil=>rfl
 |cons x _ ih=>simp[ih]
 |swap x y l=>simp only[List.sum_cons];omega
 |trans _ _ ih1 ih2=>rw[ih1,ih2]
theorem Qdh_ {ps:List PN} (hg:Good ps) {m:Nat} (hu:Uf_ ps (m+1) m):(QU_ ps (m+1)).Perm ((List.range m).map (fun(j:Nat)=>(j:Int))):=by
 rw[List.perm_iff_count];intro a;by_cases ha:0<=a/\a < (m:Int)
 ·obtain⟨q,rfl⟩:=eo_ ha.1;have h1:=hu q oo;rw[h1];rw[jM_,ip_ oo]
 ·have h1:(QU_ ps (m+1)).count a=0:=by
   rw[List.count_eq_zero];intro b;have:=Qbh_ hg (m+1) a b;omega
  have h2:((List.range m).map (fun(j:Nat)=>(j:Int))).count a=0:=by
   rw[List.count_eq_zero];intro b;obtain⟨j,hj,rfl⟩:=List.mem_map.1 b;rw[List.mem_range]at hj;omega
  rw[h1,h2]
theorem xW_ {ps:List PN} (hg:Good ps) {m:Nat} (hl:ps.length=m+1) (hu:Uf_ ps (m+1) m):Kk_ ps m=m+1:=by
 have h1:=Qex_ hg (m+1) oo;have h2:Kv_ (Kk_ ps) (QU_ ps (m+1))=sumV ps m:=by
  unfold Kv_ sumV;rw[QfN_ ((Qdh_ hg hu).map (fun j:Int=>Kk_ ps j.toNat)),List.map_map]
  rfl
 rw[h2,xK_]at h1;omega
end Go.Proofs.YtbiijipkgfpgoaaGreatDoor
namespace Go.Proofs.YtbiijipkgfpgoaaGreatDoor
open Go.RowKit
end Go.Proofs.YtbiijipkgfpgoaaGreatDoor
namespace Go.Proofs.YtbiijipkgfpgoaaGreatDoor
open Go.RowKit
end Go.Proofs.YtbiijipkgfpgoaaGreatDoor
namespace Go.Proofs.YtbiijipkgfpgoaaGreatDoor
open Go.RowKit
end Go.Proofs.YtbiijipkgfpgoaaGreatDoor
namespace Go.Proofs.YtbiijipkgfpgoaaGreatDoor
open Go.RowKit
end Go.Proofs.YtbiijipkgfpgoaaGreatDoor
namespace Go.Proofs.YtbiijipkgfpgoaaGreatDoor
open Go.RowKit
end Go.Proofs.YtbiijipkgfpgoaaGreatDoor
namespace Go.Proofs.YtbiijipkgfpgoaaGreatDoor
open Go.RowKit
theorem vZ_ (l:List UInt8):∀a:List (List UInt8),(X6_ a l).length<=l.length:=by
 intro a
 induction a with
 |nil=>simp[X6_]
 |cons m a ih=>
  by_cases b:m.isPrefixOf l=true
  ·rw[Vn_ b];exact(List.isPrefixOf_iff_prefix.1 b).length_le
  ·rw[JS_ b];exact ih
theorem QfX_ (l:List UInt8) (q:Nat):(Kq_ l q).2.2.2<=l.length:=by
 unfold Kq_;split
 ·exact v7_ l
 ·split
  ·exact lz_ _
  ·split
   ·split
    ·exact lz_ _
    ·exact K3_ _ _
   ·split
    ·split
     ·exact lz_ _
     ·exact K3_ _ _
    ·split
     ·exact QdY_ _
     ·exact vZ_ _ _
def vm_ (w:World) (R:List SgP × Int × Bool) (e:Ending) (w':World):Prop:=
 ∃(A:OA) (c:Nat),e=R_ (U_ #[S_ A R.1.length c,I_ j_ R.2.1,B_ R.2.2])/\Mine w' w.heap.size 89 4 A R.1.length c (R.1.flatMap ZP_)/\Below w.heap.size w w'
theorem Qgx_ (w:World) (a:Int) (b:BA) (c:Int) (d:Bool) (t:TypeId):∀j v,[I_ j_ a,T_ b,I_ j_ c,B_ d][j]? =some v->(w.alloc (C_ #[I_ j_ a,T_ b,I_ j_ c,B_ d] t)).cell? ((⟨w.heap.size,0,none⟩:Addr).add j)=some v:=by
 intro j v e;have f:=Blk.new w t #[I_ j_ a,T_ b,I_ j_ c,B_ d]
 match j,e with
 |0,e=>obtain rfl:=oi_ e;exact f.cell 0
 |1,e=>obtain rfl:=oi_ e;exact f.cell 1
 |2,e=>obtain rfl:=oi_ e;exact f.cell 2
 |3,e=>obtain rfl:=oi_ e;exact f.cell 3
 |j+4,e=>simp at e
theorem Qgy_ (a:Int) (b:BA) (c:Int) (d:Bool):∀u∈[I_ j_ a,T_ b,I_ j_ c,B_ d],u.oneCell'=true:=by
 intro u hu;simp at hu;rcases hu with rfl|rfl|rfl|rfl<;>rfl
theorem Qef_ (acc:List SgP) (a:Int) (b:BA) (c:Int) (d:Bool):(acc++[(a,b,c,d)]).flatMap ZP_=acc.flatMap ZP_++[I_ j_ a,T_ b,I_ j_ c,B_ d]:=by
 simp[ZP_]
theorem Qgi_ {w:World} {B:Nat} {e:TypeId} {s:Nat} {v:Value} {n:Nat} {xs:List Value} (h:w.ownsRow B e s v n xs) {g:Nat} (hg:v.ownBlock=some g):B<=g:=by
 rcases h.2 with⟨rfl,_⟩|⟨g',cap,a,rfl,b,_⟩
 ·simp[Value.ownBlock]at hg
 ·simp[Value.ownBlock]at hg;omega
theorem Qda_:(prog.info? 89).map (fun i=>(i.zero,i.size,i.bytes))=some (some (A_ #[I_ j_ 0,T_ ⟨#[]⟩,I_ j_ 0,B_ false]),4,40):=by kernel_rfl
theorem vw_ {c:UInt8} (h:c=32):((c.toNat:Int)==32)=true:=by rw[h];rfl
theorem vx_ {c:UInt8} (h:¬c=32):((c.toNat:Int)==32)=false:=by
 rw[bn_];intro e;apply h;apply UInt8.toNat_inj.1;show c.toNat=32;omega
theorem Qdp_ {c:UInt8} (h:c=10):((c.toNat:Int)==10)=true:=by rw[h];rfl
theorem WM_ (s:BA) (w:World) (hs:s.size<=1048576):Calls prog 50 #[T_ s] w (vm_ w (KV_ s)):=by
 by_cases h3:3000 < s.size
 ·rw[zV_ h3];have t:=ZA_ w 89 4;go_enter func50,ntmps50;go_wp2;refine bodyPost_ret (by simp[results,Tryz.results50,go_sem,];try rfl) rfl ?_;exact⟨_,_,rfl,t,grow_⟩
 ·have y:Hid (KO_ s 0 0 [] (KV_ s)):=G7_ oo;have h4:s.size<=3000:=oo;generalize KV_ s=R at y |-
  obtain⟨i0,hi,p,H,Q⟩:=info_parts Qda_;have S:=h_ (ai_ hi (ai_ p (ai_ H Q)));clear hi p H Q;have t:Hid (Mine (w.alloc (C_ #[] 89)) w.heap.size 89 4 (some ⟨w.heap.size,0,none⟩) ([]:List SgP).length 0 (([]:List SgP).flatMap ZP_)):=ZA_ w 89 4;have E:Below w.heap.size w (w.alloc (C_ #[] 89)):=grow_;go_enter func50,ntmps50;go_wp2;generalize w.alloc (C_ #[] 89)=w1 at t E |-
  go_loopw [5,6,7] (fun o i b wr=>∃(k br:Nat) (acc:List SgP) (A:OA) (c:Nat),k<=s.size/\br<=k/\acc.length<=k/\o=S_ A acc.length c/\i=I_ j_ k/\b=I_ j_ br/\Hid (KO_ s k br acc R)/\Hid (Mine wr w.heap.size 89 4 A acc.length c (acc.flatMap ZP_))/\Below w.heap.size w wr) (fun _ i _ _=>s.size - (intOf i).toNat)
  case atStart=>exact⟨0,0,[],_,_,oo,oo,by simp,rfl,rfl,rfl,y,t,E⟩
  case round=>
   clear y t E;obtain⟨k,br,acc,A,c,hk,ac,Y,rfl,rfl,rfl,v,B,D⟩:=hrel;obtain⟨m,T⟩:=ex_ acc.length;rw[T]at B Y;rw[T];have j:=h_ T;clear T;by_cases l:k < s.size
   ·by_cases a:s[k]=32
    ·have K:Hid (KO_ s (k+1) br acc R):=J5_ v l a;have X:=vw_ a;clear a;go_wp2;go_roundw
     case rel=>exact⟨k+1,br,acc,A,c,oo,oo,by have:=j.o;omega,by rw[j.o],by go_num,rfl,K,by rw[j.o];exact B,D⟩
     case measure=>simp[intOf];omega
    ·have X:=vx_ a;by_cases d:s[k]=10
     ·have K:Hid (KO_ s (k+1) (br+1) acc R):=G8_ v l d;have V:=Qdp_ d;clear d a;go_wp2;go_roundw
      case rel=>exact⟨k+1,br+1,acc,A,c,oo,oo,by have:=j.o;omega,by rw[j.o],by go_num,by go_num,K,by rw[j.o];exact B,D⟩
      case measure=>simp[intOf];omega
     ·have V:=Qhp_ d;have L:=h_ (fun hz=>WF_ v l a d hz);have M:Hid (∀(kd:Int) (x:BA) (q:Int) (z:Nat),Kq_ (s.data.toList.drop k) k=(kd,x,q,z)->0 < z->KO_ s (k+z) 0 (acc++[(kd,x,q,decide (1 < br))]) R):=(show ∀(kd:Int) (x:BA) (q:Int) (z:Nat),_->_->_ from fun kd x q z h h0=>G9_ v l a d h h0);have I:=h_ (fun W=>xE_ s k W l hs);have r:=QfX_ (s.data.toList.drop k) k;rw[Zl_]at r;revert L M I r;generalize Kq_ (s.data.toList.drop k) k=Z;obtain⟨kd,x,q,z⟩:=Z;intro L M I r;simp only at r;by_cases p:z=0
      ·subst p;obtain rfl:=L.o rfl;clear L M B v j a d;go_wp2_with fail
       refine(I.o _).mono ?_;rintro e w2 ⟨rfl,J⟩;have f:=Qb_ D J;have O:=f.size;clear I J D;have t:=ZA_ (w2.alloc (C_ #[I_ j_ kd,T_ x,I_ j_ q,B_ false] 89)) 89 4;simp only[ws_]at t;go_wp2;refine bodyPost_ret (by simp[results,Tryz.results50,go_sem,];try rfl) rfl ?_;exact⟨_,_,rfl,Mine.more (B':=w.heap.size) t oo,grow_⟩
      ·have K:Hid (KO_ s (k+z) 0 (acc++[(kd,x,q,decide (1 < br))]) R):=M.o kd x q z rfl oo;clear L M v a d;go_wp2_with fail
       refine(I.o _).mono ?_;rintro e w2 ⟨rfl,J⟩;have f:=Qb_ D J;have O:=f.size;have C:=h_ (B.o.next J);have H:¬(z:Int)=0:=oo;clear I J D B;have P:decide (1 < br)=decide ((1:Int) < br):=by
        by_cases h:1 < br
        ·rw[dt_ h,dt_ oo]
        ·rw[df_ h,df_ oo]
       rw[P]at K;have F:=Qgx_ (w2.alloc (C_ #[I_ j_ kd,T_ x,I_ j_ q,B_ (decide ((1:Int) < br))] 89)) kd x q (decide ((1:Int) < br)) 89;rw[ws_]at F;have HC:=h_ F;clear F P;have ad:0 < z:=oo;go_wp2_with (at_builtin;(refine wpList_append_own _ rfl (.tmp 46) (.tmp 48) _ rfl w.heap.size 89 i0 (A_ #[I_ j_ 0,T_ ⟨#[]⟩,I_ j_ 0,B_ false]) 4 40 underlying77 S.o.1 S.o.2.1 S.o.2.2.1 S.o.2.2.2 rfl dc_ _ _ _ rfl (Mine.alloc (Mine.alloc C.o _) _) ⟨w2.heap.size+1,0,none⟩ 1 1 [I_ j_ kd,T_ x,I_ j_ q,B_ (decide ((1:Int) < br))] rfl rfl HC.o (Qgy_ _ _ _ _) mx_ oo (by have:=f.size;simp only[ws_];omega) ?_);intro v' w3 n N G)
       have aa:Below w.heap.size w w3:=Below.grown (show Below w.heap.size w ((w2.alloc (C_ #[I_ j_ kd,T_ x,I_ j_ q,B_ (decide ((1:Int) < br))] 89)).alloc (C_ #[I_ j_ kd,T_ x,I_ j_ q,B_ (decide ((1:Int) < br))] 89))from grow_) N (by have:=f.size;simp only[ws_];omega) (fun g hg=>Qgi_ C.o hg);obtain⟨A3,c3,rfl,m3⟩:=Mine.of n;rw[<-Qef_]at m3;have U:=h_ m3;clear n m3 N G HC C f;go_wp2;go_roundw
       case rel=>exact⟨k+z,0,acc++[(kd,x,q,decide ((1:Int) < br))],A3,c3,oo,oo,by rw[lA,j.o];simp;omega,by rw[lA,j.o];rfl,by go_num,rfl,K,by rw[lA,j.o];exact U,aa⟩
       case measure=>simp[intOf];omega
   ·obtain rfl:=WG_ v oo;go_wp2;refine bodyPost_ret (by simp[results,Tryz.results50,go_sem,];try rfl) rfl ?_;exact⟨A,c,by rw[j.o],by rw[j.o];exact B.o,D⟩
theorem U4_ (s:BA) (w:World) (hs:s.size<=1048576):Calls prog 101 #[T_ s] w (vm_ w (KV_ s)):=by
 by_cases h3:3000 < s.size
 ·rw[zV_ h3];go_enter func101,ntmps101;go_wp2;refine bodyPost_ret (by simp[results,Tryz.results101,go_sem,];try rfl) rfl ?_;exact⟨_,_,rfl,Mine.mk_nil _ _ _ _,grow_⟩
 ·have v:Hid (KO_ s 0 0 [] (KV_ s)):=G7_ oo;have h4:s.size<=3000:=oo;generalize KV_ s=R at v |-
  obtain⟨i0,hi,r,t,J⟩:=info_parts Qda_;have K:=h_ (ai_ hi (ai_ r (ai_ t J)));clear hi r t J;have M0:Hid (Mine w w.heap.size 89 4 none ([]:List SgP).length 0 (([]:List SgP).flatMap ZP_)):=Mine.mk_nil _ _ _ _;have G:Below w.heap.size w w:=br;go_enter func101,ntmps101;go_wp2;go_loopw [5,6,7] (fun o b i wr=>∃(k br:Nat) (acc:List SgP) (A:OA) (c:Nat),k<=s.size/\br<=k/\acc.length<=k/\o=S_ A acc.length c/\i=I_ j_ k/\b=I_ j_ br/\Hid (KO_ s k br acc R)/\Hid (Mine wr w.heap.size 89 4 A acc.length c (acc.flatMap ZP_))/\Below w.heap.size w wr) (fun _ _ i _=>s.size - (intOf i).toNat)
  case atStart=>exact⟨0,0,[],_,_,oo,oo,by simp,rfl,rfl,rfl,v,M0,G⟩
  case round=>
   clear v M0 G;obtain⟨k,br,acc,A,c,hk,aa,U,rfl,rfl,rfl,C,D,F⟩:=hrel;obtain⟨m,L⟩:=ex_ acc.length;rw[L]at D U;rw[L];have j:=h_ L;clear L;by_cases p:k < s.size
   ·by_cases d:s[k]=32
    ·have E:Hid (KO_ s (k+1) br acc R):=J5_ C p d;have S:=vw_ d;clear d;go_wp2;go_roundw
     case rel=>exact⟨k+1,br,acc,A,c,oo,oo,by have:=j.o;omega,by rw[j.o],by go_num,rfl,E,by rw[j.o];exact D,F⟩
     case measure=>simp[intOf];omega
    ·have S:=vx_ d;by_cases f:s[k]=10
     ·have E:Hid (KO_ s (k+1) (br+1) acc R):=G8_ C p f;have Q:=Qdp_ f;clear f d;go_wp2;go_roundw
      case rel=>exact⟨k+1,br+1,acc,A,c,oo,oo,by have:=j.o;omega,by rw[j.o],by go_num,by go_num,E,by rw[j.o];exact D,F⟩
      case measure=>simp[intOf];omega
     ·have Q:=Qhp_ f;have M:=h_ (fun hz=>WF_ C p d f hz);have N:Hid (∀(kd:Int) (x:BA) (q:Int) (z:Nat),Kq_ (s.data.toList.drop k) k=(kd,x,q,z)->0 < z->KO_ s (k+z) 0 (acc++[(kd,x,q,decide (1 < br))]) R):=(show ∀(kd:Int) (x:BA) (q:Int) (z:Nat),_->_->_ from fun kd x q z h h0=>G9_ C p d f h h0);have P:=h_ (fun W=>kI_ (s.extract k s.size) W so_ (by unfold maxLen;simp;omega));rw[GR_]at P;have gk:(k:Int)<=s.size:=oo;clear C d f;go_wp2_with fail
      refine(P.o _).mono ?_;rintro e w2 ⟨kd,x,z,ok,rfl,a,X,T⟩;rw[Zl_]at X;have y:=Qb_ F T;have Z:=y.size;have n:=h_ (D.o.next T);unfold SgOk at a;clear P T F D
      cases ok with
      |false=>
       rw[in_ dc_]at a;obtain rfl:=M.o (a k);clear M N a n j;go_wp2;refine bodyPost_ret (by simp[results,Tryz.results101,go_sem,];try rfl) rfl ?_;exact⟨_,_,rfl,Mine.mk_nil _ _ _ _,y⟩
      |true=>
       rw[ip_ rfl]at a;obtain⟨r,t,a⟩:=a;have E:Hid (KO_ s (k+z) 0 (acc++[(kd,x,(k:Int),decide (1 < br))]) R):=N.o kd x k z (a k) r;have I:decide (1 < br)=decide ((1:Int) < br):=by
        by_cases h:1 < br
        ·rw[dt_ h,dt_ oo]
        ·rw[df_ h,df_ oo]
       rw[I]at E;have HC:=h_ (Qgx_ w2 kd x k (decide ((1:Int) < br)) 89);clear M N a t I;go_wp2_with (at_builtin;(refine wpList_append_own _ rfl (.tmp 44) (.tmp 51) _ rfl w.heap.size 89 i0 (A_ #[I_ j_ 0,T_ ⟨#[]⟩,I_ j_ 0,B_ false]) 4 40 underlying77 K.o.1 K.o.2.1 K.o.2.2.1 K.o.2.2.2 rfl dc_ _ _ _ rfl (Mine.alloc n.o _) ⟨w2.heap.size,0,none⟩ 1 1 [I_ j_ kd,T_ x,I_ j_ k,B_ (decide ((1:Int) < br))] rfl rfl HC.o (Qgy_ _ _ _ _) mx_ oo (by simp only[ws_];omega) ?_);intro v' w3 l H B)
       have V:Below w.heap.size w w3:=Below.grown (show Below w.heap.size w (w2.alloc (C_ #[I_ j_ kd,T_ x,I_ j_ k,B_ (decide ((1:Int) < br))] 89))from grow_) H (by simp only[ws_];omega) (fun g hg=>Qgi_ n.o hg);obtain⟨A3,c3,rfl,Y⟩:=Mine.of l;rw[<-Qef_]at Y;have O:=h_ Y;clear l Y H B HC n y;go_wp2;go_roundw
       case rel=>exact⟨k+z,0,acc++[(kd,x,(k:Int),decide ((1:Int) < br))],A3,c3,oo,oo,by rw[lA,j.o];simp;omega,by rw[lA,j.o];rfl,by go_num,rfl,E,by rw[lA,j.o];exact O,V⟩
       case measure=>simp[intOf];omega
   ·obtain rfl:=WG_ C oo;go_wp2;refine bodyPost_ret (by simp[results,Tryz.results101,go_sem,];try rfl) rfl ?_;exact⟨A,c,by rw[j.o],by rw[j.o];exact D.o,F⟩
def QeT_ (w:World) (l:LI) (e:Ending) (w':World):Prop:=
 ∃(A:OA) (c:Nat),e=R_ (S_ A l.length c)/\Mine w' w.heap.size 3 1 A l.length c (Qa_ l)/\Below w.heap.size w w'
def ndZ:PN:=⟨0,⟨#[]⟩,[],false⟩
def ndAt (ps:List PN) (k:Nat):PN:=ps.getD k ndZ
theorem X7_ {ps:List PN} {k:Nat} {p:PN} (h:ps[k]? =some p):ndAt ps k=p:=by unfold ndAt;rw[List.getD_eq_getElem?_getD,h];rfl
open Go.Sort
section
variable {α:Type} [Inhabited α] {lt:α->α->Bool} {tg:α->Nat}
omit [Inhabited α]in
omit [Inhabited α]in
omit [Inhabited α]in
end
open Go.Sort
open Go.Sort
section
variable {α:Type} [Inhabited α]
variable {lt:α->α->Bool} {tg:α->Nat}
omit [Inhabited α]in
omit [Inhabited α]in
omit [Inhabited α]in
omit [Inhabited α]in
end
open Go.Sort
section
variable {α:Type} [Inhabited α]
variable {lt:α->α->Bool} {tg:α->Nat}
omit [Inhabited α]in
end
structure Tree (ps:List PN) (m:Nat):Prop where
 good:Good ps
 len:ps.length=m+1
 used:Uf_ ps (m+1) m
structure TreeF (ps:List PN) (m:Nat):Prop where
 tree:Tree ps m
 few:m+1<=300
 node:∀j,j < m+1->Za_ ps j=true
 root:∃x,ps[m]? =some x/\x.kind=22/\x.text=⟨#[]⟩/\x.blank=false
theorem K0_ {ps:List PN} {k:Nat} {x:PN} (a:Za_ ps k=true) (hx:ps[k]? =some x):Zi_ x.kind x.text=true/\kfB x.kind (Qe_ ps x.kids)=true/\(Gf_ x.kind||!x.blank)=true:=by
 unfold Za_ at a;rw[hx]at a;simp only[Bool.and_eq_true]at a;exact⟨a.1.1.2,a.2.1,a.2.2.2⟩
theorem QiZ_ {ps:List PN} (h:Yb_ ps=true):∃m,TreeF ps m:=by
 unfold Yb_ at h;simp only[Bool.and_eq_true]at h;obtain⟨h1,h2,h3,d⟩:=h;have l:=od_ h1;obtain⟨m,hm⟩:∃m,ps.length=m+1:=⟨ps.length - 1,oo⟩;have hd:¬Kt_ ps (ps.length - 1)=0:=by
  intro e;rw[e]at h3;cases h3
 have a:∀j,j < m+1->Za_ ps j=true:=fun j hj=>vF_ hd j oo
 obtain⟨x,g⟩:∃x,ps[m]? =some x:=⟨_,gE oo⟩;have e1:((ps.length:Int) - 1)=(m:Int):=oo;rw[e1,Qr_ g]at h2;have b:x.kind=22:=by simpa using h2
 have f:=K0_ (a m oo) g;rw[b]at f;refine⟨m,⟨jl_ hd,hm,fun i hi=>?_⟩,oo,a,x,g,b,?_,?_⟩
 ·unfold Gc_ at d;rw[List.all_eq_true,hm]at d;have:=d i (List.mem_range.2 oo);simpa using this
 ·have c:x.text.size=0:=od_ f.1;apply VY_;rw[ln_ (show x.text.data.toList.length=0 by rw[QF_];exact c)]
 ·have c:(!x.blank)=true:=f.2.2
  cases k:x.blank with
  |false=>rfl
  |true=>rw[k]at c;cases c
end Go.Proofs.YtbiijipkgfpgoaaGreatDoor

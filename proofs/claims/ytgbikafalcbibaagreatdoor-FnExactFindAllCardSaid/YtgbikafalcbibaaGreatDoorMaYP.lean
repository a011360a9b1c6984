/-
  Put together by program (shake.py):Vis.
-/
import Derived.Test.YtgbikafalcbibaaGreatDoorMaG
set_option maxRecDepth 100000
set_option linter.all false
set_option maxHeartbeats 25600000
namespace Go.Proofs.YtgbikafalcbibaaGreatDoor
open Go.RowKit
def Ye_ (g:Nat->Nat) (l:LI):Nat:=(l.map (fun j=>g j.toNat)).sum
theorem QbT_ (g:Nat->Nat) (a b:LI):Ye_ g (a++b)=Ye_ g a+Ye_ g b:=by simp[Ye_]
def xM_ (ps:List PN):Nat->Nat->Nat
 |0,_=>0
 |f+1,k=>match ps[k]? with|none=>0|some p=>1+Ye_ (xM_ ps f) p.kids
theorem Qdx_ {ps:List PN} (hg:Good ps):∀(f k:Nat),k < f->xM_ ps f k=xM_ ps (k+1) k:=by
 intro f
 induction f using Nat.strongRecOn with
 |ind f c=>
  intro k hk;obtain⟨a,rfl⟩:∃a,f=a+1:=⟨f - 1,oo⟩
  cases b:ps[k]? with
  |none=>simp[xM_,b]
  |some p=>
   have hp:=(hg k p b).2;simp only[xM_,b];congr 1;unfold Ye_;congr 1;apply List.map_congr_left;intro v hv;have d:=hp v hv;rw[c a oo v.toNat oo];by_cases e:k=a
   ·subst e;rw[c k oo v.toNat oo]
   ·rw[c k oo v.toNat oo]
def visV (ps:List PN) (k:Nat):Nat:=xM_ ps (k+1) k
theorem Qgx_ {ps:List PN} (hg:Good ps) {k:Nat} {p:PN} (hx:ps[k]? =some p):visV ps k=1+Ye_ (visV ps) p.kids:=by
 have:visV ps k=1+Ye_ (xM_ ps k) p.kids:=by
  show xM_ ps (k+1) k=_;simp only[xM_,hx]
 rw[this];congr 1;unfold Ye_;congr 1;apply List.map_congr_left;intro v hv;have:=(hg k p hx).2 v hv;exact Qdx_ hg k v.toNat oo
def sumV (ps:List PN) (m:Nat):Nat:=((List.range m).map (visV ps)).sum
theorem xF_ (ps:List PN) (m:Nat):sumV ps (m+1)=sumV ps m+visV ps m:=by unfold sumV;rw[List.range_succ];simp
theorem Qdh_ {ps:List PN} (hg:Good ps):∀m,m<=ps.length->sumV ps m=m+Ye_ (visV ps) (QD_ ps m):=by
 intro m
 induction m with
 |zero=>intro _;simp[sumV,Ye_,QD_]
 |succ m ih=>
  intro hm;obtain⟨p,hx⟩:∃p,ps[m]? =some p:=⟨_,gE oo⟩;rw[xF_,ih oo,Zz_ hx,QbT_,Qgx_ hg hx];omega
theorem Qar_ {ps:List PN} (hg:Good ps):∀m v,v∈QD_ ps m->0<=v/\v+1 < (m:Int)+0\/0<=v/\v < (m:Int) - 1:=by
 intro m
 induction m with
 |zero=>intro v a;simp[QD_]at a
 |succ m ih=>
  intro v a
  cases b:ps[m]? with
  |none=>
   have:QD_ ps (m+1)=QD_ ps m:=(by unfold QD_;rw[List.take_add_one,b];simp);rw[this]at a;have:=ih v a;omega
  |some p=>
   rw[Zz_ b]at a;rcases List.mem_append.1 a with a|a
   ·have:=ih v a;omega
   ·have:=(hg m p b).2 v a;omega
theorem jv_ (m q:Nat):((List.range m).map (fun(j:Nat)=>(j:Int))).count (q:Int)=if q < m then 1 else 0:=by
 induction m with
 |zero=>simp
 |succ m ih=>
  rw[List.range_succ,List.map_append,List.count_append,ih];simp only[List.map_cons,List.map_nil,List.count_singleton];by_cases h:q=m
  ·subst h;simp
  ·have:((m:Int)==(q:Int))=false:=(by rw[beq_eq_false_iff_ne];omega);rw[this];simp only[Bool.false_eq_true,if_false,Nat.add_zero];by_cases h2:q < m
   ·rw[if_pos h2,if_pos oo]
   ·rw[if_neg h2,if_neg oo]
theorem Qeq_ {l r:List Nat} (h:l.Perm r):l.sum=r.sum:=by
 induction h with
 |nil=>rfl
 |cons x _ ih=>simp[ih]
 |swap x y l=>simp only[List.sum_cons];omega
 |trans _ _ ih1 ih2=>rw[ih1,ih2]
theorem Qcl_ {ps:List PN} (hg:Good ps) {m:Nat} (hu:Xm_ ps (m+1) m):(QD_ ps (m+1)).Perm ((List.range m).map (fun(j:Nat)=>(j:Int))):=by
 rw[List.perm_iff_count];intro a;by_cases ha:0<=a/\a < (m:Int)
 ·obtain⟨q,rfl⟩:=Int.eq_ofNat_of_zero_le ha.1;have h1:=hu q oo;rw[h1];rw[jv_,if_pos oo]
 ·have h1:(QD_ ps (m+1)).count a=0:=by
   rw[List.count_eq_zero];intro b;have:=Qar_ hg (m+1) a b;omega
  have h2:((List.range m).map (fun(j:Nat)=>(j:Int))).count a=0:=by
   rw[List.count_eq_zero];intro b;obtain⟨j,hj,rfl⟩:=List.mem_map.1 b;rw[List.mem_range]at hj;omega
  rw[h1,h2]
theorem Qdy_ {ps:List PN} (hg:Good ps) {m:Nat} (hl:ps.length=m+1) (hu:Xm_ ps (m+1) m):visV ps m=m+1:=by
 have h1:=Qdh_ hg (m+1) oo;have h2:Ye_ (visV ps) (QD_ ps (m+1))=sumV ps m:=by
  unfold Ye_ sumV;rw[Qeq_ ((Qcl_ hg hu).map (fun j:Int=>visV ps j.toNat)),List.map_map]
  rfl
 rw[h2,xF_]at h1;omega
end Go.Proofs.YtgbikafalcbibaaGreatDoor

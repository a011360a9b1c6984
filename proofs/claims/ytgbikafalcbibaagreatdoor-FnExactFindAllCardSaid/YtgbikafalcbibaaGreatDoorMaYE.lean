/-
  Put together by program (shake.py):FiL.
-/
import Derived.Test.YtgbikafalcbibaaGreatDoorMaYD
set_option maxRecDepth 100000
set_option linter.all false
set_option maxHeartbeats 25600000
namespace Go.Proofs.YtgbikafalcbibaaGreatDoor
open Go.RowKit
theorem kf20 {kind:Int} {l:LI} (h:kfB kind l=true) (b:(20:Int)∈l):kind=21\/kind=22:=by
 have a:∀(p:Int->Bool),p 20=false->l.all p=true->False:=fun p i a=>by
  have:=List.all_eq_true.1 a _ b;rw[i]at this;cases this
 have hd:∀(p q:Int->Bool),p 20=false->q 20=false->VF_ p l=true->(l.drop 1).all q=true->False:=fun p q i hq h1 h2=>by
  cases l with
  |nil=>cases b
  |cons x l=>
   rcases List.mem_cons.1 b with rfl|b
   ·have k:p 20=true:=h1;rw[i]at k;cases k
   ·have:=List.all_eq_true.1 h2 _ (by simpa using b);rw[hq]at this;cases this
 have hl:∀(p:Int->Bool),p 20=false->VG_ p l=true->False:=fun p i h1=>by
  obtain⟨m,o⟩:∃m,l.length=m+1:=⟨l.length - 1,by have:=List.length_pos_of_mem b;omega⟩;obtain⟨x,r⟩:∃x,l[m]? =some x:=⟨_,gE oo⟩;rw[Vr_ o r,Bool.and_eq_true]at h1;obtain⟨j,hj,e⟩:=List.mem_iff_getElem.1 b;by_cases n:j=m
  ·subst n;rw[List.getElem?_eq_getElem hj,e]at r;obtain rfl:=Option.some.inj r;rw[i]at h1;cases h1.1
  ·have k:(20:Int)∈l.take m:=List.mem_take_iff_getElem.2 ⟨j,oo,e⟩;have:=List.all_eq_true.1 h1.2 _ k;revert this;decide
 refine Decidable.byContradiction fun g=>?_
 have hz:l.length≠0:=fun e=>by rw[List.length_eq_zero_iff.1 e]at b;cases b
 unfold kfB at h;by_cases c0:kind=1\/kind=2\/kind=3\/kind=19
 ·rw[if_pos c0]at h;exact hz (of_decide_eq_true h)
 rw[if_neg c0]at h;by_cases c1:kind=4
 ·rw[if_pos c1]at h;exact a _ (by decide) h
 rw[if_neg c1]at h;by_cases c2:kind=5
 ·rw[if_pos c2]at h;rw[Bool.and_eq_true]at h;exact a _ (by decide) h.2
 rw[if_neg c2]at h;by_cases c3:kind=7
 ·rw[if_pos c3]at h;rw[Bool.and_eq_true]at h;exact a _ (by decide) h.2
 rw[if_neg c3]at h;by_cases c4:kind=8
 ·rw[if_pos c4]at h;rw[Bool.and_eq_true]at h;exact a _ (by decide) h.2
 rw[if_neg c4]at h;by_cases c5:kind=6\/kind=11\/kind=13\/kind=14
 ·rw[if_pos c5]at h;rw[Bool.and_eq_true]at h;exact a _ (by decide) h.2
 rw[if_neg c5]at h;by_cases c6:kind=12\/kind=15
 ·rw[if_pos c6]at h;rw[Bool.and_eq_true]at h;exact a _ (by decide) h.2
 rw[if_neg c6]at h;by_cases c7:kind=9
 ·rw[if_pos c7]at h;exact hl _ (by decide) h
 rw[if_neg c7]at h;by_cases c8:kind=10
 ·rw[if_pos c8]at h;rw[Bool.and_eq_true,Bool.and_eq_true]at h;exact hd _ _ (by decide) (by decide) h.1.2 h.2
 rw[if_neg c8]at h;by_cases c9:kind=16
 ·rw[if_pos c9]at h;rw[Bool.and_eq_true,Bool.and_eq_true]at h;exact hd _ _ (by decide) (by decide) h.1.2 h.2
 rw[if_neg c9]at h;by_cases c:kind=17
 ·rw[if_pos c]at h;rw[Bool.and_eq_true,Bool.and_eq_true]at h;exact hd _ _ (by decide) (by decide) h.1.2 h.2
 rw[if_neg c]at h;by_cases d:kind=18
 ·rw[if_pos d]at h;exact a _ (by decide) h
 rw[if_neg d]at h;by_cases f:kind=20
 ·rw[if_pos f]at h;exact hl _ (by decide) h
 rw[if_neg f]at h;rw[if_neg (fun e=>g (.inl e)),if_neg (fun e=>g (.inr e))]at h
 cases h
def YE_ (ps:List PN) (b:List Bool) (v:Int):List Bool:=b.set v.toNat (Qs_ ps v != 19)
def Vc_ (ps:List PN):Nat->List Bool
 |0=>List.replicate ps.length false
 |i+1=>match ps[i]? with|none=>Vc_ ps i|some p=>if (p.kind==22||p.kind==21)=true then p.kids.foldl (YE_ ps) (Vc_ ps i)else Vc_ ps i
theorem Wk_ (ps:List PN):∀(l:LI) (b:List Bool),(l.foldl (YE_ ps) b).length=b.length:=by
 intro l
 induction l with
 |nil=>intro b;rfl
 |cons v l ih=>intro b;rw[List.foldl_cons,ih];unfold YE_;rw[List.length_set]
theorem Wm_ (ps:List PN):∀i,(Vc_ ps i).length=ps.length:=by
 intro i
 induction i with
 |zero=>simp[Vc_]
 |succ i a=>
  rw[Vc_];split
  ·exact a
  ·split
   ·rw[Wk_,a]
   ·exact a
theorem Wl_ {ps:List PN} {j:Nat} (hk:(Qs_ ps (j:Int)==19)=false):∀(l:LI) (b:List Bool),(∀v∈l,0<=v)->j < b.length->(b.getD j false=true\/(j:Int)∈l)->(l.foldl (YE_ ps) b).getD j false=true:=by
 intro l
 induction l with
 |nil=>
      intro b _ _ h;rcases h with h|h
      ·exact h
      ·cases h
 |cons v l ih=>
  intro b hv hj h;rw[List.foldl_cons];refine ih _ (fun u hu=>hv u (List.mem_cons_of_mem _ hu)) (by unfold YE_;rw[List.length_set];exact hj) ?_;have c:=hv v (by simp);by_cases a:(j:Int)=v
  ·refine .inl ?_;unfold YE_;have e:v.toNat=j:=oo;rw[e,<-a,List.getD_eq_getElem?_getD,List.getElem?_set_self hj];show(Qs_ ps (j:Int) != 19)=true;unfold bne;rw[hk];rfl
  ·rcases h with h|h
   ·refine .inl ?_;unfold YE_;rw[List.getD_eq_getElem?_getD,List.getElem?_set_ne oo,<-List.getD_eq_getElem?_getD];exact h
   ·rcases List.mem_cons.1 h with h|h
    ·exact absurd h a
    ·exact .inr h
theorem QaN_ {ps:List PN} (l:KL_ ps=true) {j:Nat} {q:PN} (hq:ps[j]? =some q) (o:q.kind=20):(Vc_ ps ps.length).getD j false=true:=by
 obtain⟨m,hm,D,hg,hu⟩:=Zx_ l;have g:=(List.getElem?_eq_some_iff.1 hq).1;have A:=l;unfold KL_ at A;simp only[Bool.and_eq_true]at A;obtain⟨_,f,h3,_⟩:=A;have hd:¬Zc_ ps (ps.length - 1)=0:=by intro e;rw[e]at h3;cases h3
 have b:Qs_ ps (j:Int)=20:=by rw[QR_ hq,o]
 have s:j < m:=by
  rcases Nat.lt_or_ge j m with h|h
  ·exact h
  ·obtain rfl:j=m:=oo;have e:((ps.length:Int) - 1)=(j:Int):=oo;rw[e,b]at f;exact absurd f (by decide)
 obtain⟨k,p,hk,x,c⟩:=j3_ hu s;have n:=qd_ hd k oo;have t:kfB p.kind (Qg_ ps p.kids)=true:=by
  unfold K3_ at n;rw[x]at n;simp only[Bool.and_eq_true]at n;exact n.2.1
 have z:=kf20 t (by unfold Qg_;exact List.mem_map.2 ⟨_,c,b⟩);have y:(p.kind==22||p.kind==21)=true:=by rcases z with h|h<;>rw[h]<;>decide
 have d:(Qs_ ps (j:Int)==19)=false:=by rw[b];decide
 have B:∀i,k+1<=i->i<=ps.length->(Vc_ ps i).getD j false=true:=by
  intro i
  induction i with
  |zero=>intro h;omega
  |succ i ih=>
   intro hi C;obtain⟨p',a⟩:∃p',ps[i]? =some p':=⟨_,gE oo⟩;rw[Vc_,a];dsimp only;by_cases r:i=k
   ·subst r;rw[x]at a;obtain rfl:=Option.some.inj a;rw[if_pos y];exact Wl_ d _ _ (fun v c=>((hg _ _ x).2 v c).1) (by rw[Wm_];exact g) (.inr c)
   ·have h:=ih oo oo;split
    ·exact Wl_ d _ _ (fun v c=>((hg _ _ a).2 v c).1) (by rw[Wm_];exact g) (.inl h)
    ·exact h
 exact B _ oo (Nat.le_refl _)
def YR_ (t:BA) (ps:List PN) (v:Int):List FindingD:=match ps[v.toNat]? with|none=>[]|some p=>if (p.kind==20)=true then (ZQ_ ps v.toNat).map (fun s=>((2:Int),KS_ t (Q3_ ps v.toNat),s))else []
def ZR_ (t:BA) (ps:List PN):Nat->List FindingD
 |0=>[]
 |k+1=>ZR_ t ps k++YR_ t ps (k:Int)
def Ze_ (t:BA):List FindingD:=match KF_ t with|none=>[]|some ps=>ZR_ t ps ps.length
theorem zW_ (t:BA) (ps:List PN) (k:Nat):(YR_ t ps (k:Int)).length<=k+1:=by
 unfold YR_;split
 ·simp
 ·split
  ·rw[List.length_map,Int.toNat_natCast];exact Nat.le_trans (List.length_filter_le _ _) (Y8_ ps k)
  ·simp
theorem Ue_ (t:BA) (ps:List PN):∀k,k<=300->(ZR_ t ps k).length<=k * 301:=by
 intro k
 induction k with
 |zero=>intro _;simp[ZR_]
 |succ k ih=>
  intro hk;have h1:=zW_ t ps k;have h2:=ih oo;rw[ZR_,lA];omega
theorem xJ_ {t:BA} {ps:List PN} {k:Nat} {p:PN} (hp:ps[k]? =some p) (h:(p.kind==20)=true):YR_ t ps (k:Int)=(ZQ_ ps k).map (fun s=>((2:Int),KS_ t (Q3_ ps k),s)):=by
 unfold YR_;rw[Int.toNat_natCast,hp];dsimp only;rw[if_pos h]
theorem WT_ {t:BA} {ps:List PN} {k:Nat} {p:PN} (hp:ps[k]? =some p) (h:(p.kind==20)=false):YR_ t ps (k:Int)=[]:=by
 unfold YR_;rw[Int.toNat_natCast,hp];dsimp only;rw[h];rfl
theorem xo_ {t:BA} {ps:List PN} (c:KL_ ps=true):(KV_ (Vc_ ps ps.length) ps.length).flatMap (YR_ t ps)=ZR_ t ps ps.length:=by
 have d:∀i,i<=ps.length->(KV_ (Vc_ ps ps.length) i).flatMap (YR_ t ps)=ZR_ t ps i:=by
  intro i
  induction i with
  |zero=>intro _;rfl
  |succ i ih=>
   intro hi;obtain⟨p,hp⟩:∃p,ps[i]? =some p:=⟨_,gE oo⟩;rw[KV_,ZR_,List.flatMap_append,ih oo];congr 1;by_cases b:(Vc_ ps ps.length).getD i false=true
   ·rw[if_pos b];simp
   ·rw[if_neg b]
    cases a:(p.kind==20)with
    |true=>exact absurd (QaN_ c hp (by simpa using a)) b
    |false=>rw[WT_ hp a];rfl
 exact d _ (Nat.le_refl _)
theorem W3_ (t:BA):(Ze_ t).length<=90300:=by
 unfold Ze_;split
 ·simp
 ·next ps h=>
  have h3:=(QU_ h).2.1;have h1:=Ue_ t ps ps.length h3;have:=Nat.mul_le_mul_right 301 h3;omega
end Go.Proofs.YtgbikafalcbibaaGreatDoor

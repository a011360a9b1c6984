/-
  Put together by program (shake.py):FhA,FiA,FiB,FiC,FiD.
-/
import Derived.Test.YtgbikafalcbibaaGreatDoorMaV
set_option maxRecDepth 100000
set_option linter.all false
set_option maxHeartbeats 25600000
open Go.Lib (hid)
open Go.Proofs.Tryz
namespace Go.Proofs.YtgbikafalcbibaaGreatDoor
open Go.RowKit
theorem Zx_ {ps:List PN} (h:KL_ ps=true):∃m,ps.length=m+1/\m+1<=300/\Good ps/\Xm_ ps (m+1) m:=by
 unfold KL_ at h;simp only[Bool.and_eq_true]at h;obtain⟨h1,h2,h3,a⟩:=h;have b:=of_decide_eq_true h1;obtain⟨m,hm⟩:∃m,ps.length=m+1:=⟨ps.length - 1,oo⟩;have hd:¬Zc_ ps (ps.length - 1)=0:=by
  intro e;rw[e]at h3;cases h3
 refine⟨m,hm,oo,UZ_ hd,fun i hi=>?_⟩;unfold Jg_ at a;rw[List.all_eq_true,hm]at a;have:=a i (List.mem_range.2 oo);simpa using this
theorem QaL_ {ps:List PN} {v:Int}:∀{M:Nat},v∈QD_ ps M->∃k p,k < M/\ps[k]? =some p/\v∈p.kids:=by
 intro M
 induction M with
 |zero=>intro h;simp[QD_]at h
 |succ M ih=>
  intro h;by_cases hM:M < ps.length
  ·obtain⟨p,hp⟩:∃p,ps[M]? =some p:=⟨_,List.getElem?_eq_getElem hM⟩;rw[Zz_ hp,List.mem_append]at h;rcases h with h|h
   ·obtain⟨k,q,h1,a⟩:=ih h;exact⟨k,q,oo,a⟩
   ·exact⟨M,p,oo,hp,h⟩
  ·have e:QD_ ps (M+1)=QD_ ps M:=by
    unfold QD_;rw[List.take_of_length_le oo,List.take_of_length_le oo]
   rw[e]at h;obtain⟨k,q,h1,a⟩:=ih h;exact⟨k,q,oo,a⟩
theorem x8_ {ps:List PN} {v:Int} {k:Nat} {p:PN} (hp:ps[k]? =some p) (hv:v∈p.kids) {M:Nat} (hk:k < M):v∈QD_ ps M:=by
 unfold QD_;rw[List.mem_flatMap];refine⟨p,?_,hv⟩;have hl:=(List.getElem?_eq_some_iff.1 hp);obtain⟨a,rfl⟩:=hl;rw[List.mem_take_iff_getElem];exact⟨k,oo,rfl⟩
theorem v5_ {ps:List PN} (v:Int) {a b:Nat} (h:a<=b):(QD_ ps a).count v<=(QD_ ps b).count v:=by
 unfold QD_;have e:ps.take b=ps.take a++(ps.take b).drop a:=by
  conv=>lhs;rw[<-List.take_append_drop a (ps.take b)]
  rw[List.take_take,Nat.min_eq_left h]
 rw[e,List.flatMap_append,List.count_append];omega
theorem Qa2_ {ps:List PN} {m:Nat} (hu:Xm_ ps (m+1) m) {i k c:Nat} {p d:PN} (hi:i < m) (g:ps[k]? =some p) (a:ps[c]? =some d) (h:(i:Int)∈p.kids) (b:(i:Int)∈d.kids) (hl:k < m+1) (e:c < m+1):k=c:=by
 have f:∀{k c:Nat} {p d:PN},ps[k]? =some p->ps[c]? =some d->(i:Int)∈p.kids->(i:Int)∈d.kids->c < m+1->¬k < c:=by
  intro k c p d g a h b e j;have h1:=v5_ (ps:=ps) (i:Int) (show c+1<=m+1 from oo);rw[Zz_ a,List.count_append,hu i hi]at h1;have h2:=List.count_pos_iff.2 (x8_ g h j);have h3:=List.count_pos_iff.2 b;omega
 have h1:=f g a h b e;have h2:=f a g b h hl;omega
theorem j3_ {ps:List PN} {m:Nat} (hu:Xm_ ps (m+1) m) {i:Nat} (hi:i < m):∃k p,k < m+1/\ps[k]? =some p/\(i:Int)∈p.kids:=
 QaL_ (List.count_pos_iff.1 (by rw[hu i hi];omega))
inductive Und (ps:List PN):Nat->Nat->Prop
 |refl (k:Nat):Und ps k k
 |kid {k v j:Nat} {p:PN} (hp:ps[k]? =some p) (hv:(v:Int)∈p.kids) (h:Und ps v j):Und ps k j
theorem Und.snoc {ps:List PN} {a b v:Nat} {p:PN} (h:Und ps a b) (hp:ps[b]? =some p) (hv:(v:Int)∈p.kids):Und ps a v:=by
 induction h with
 |refl k=>exact .kid hp hv (.refl _)
 |kid c d _ ih=>exact .kid c d (ih hp)
theorem Und.le {ps:List PN} (hg:Good ps) {a b:Nat} (h:Und ps a b):b<=a:=by
 induction h with
 |refl k=>exact Nat.le_refl _
 |kid hp hv _ ih=>
  have:=(hg _ _ hp).2 _ hv;omega
def Q7_ (B:List Bool) (l:LI):List Bool:=l.foldl (fun b v=>b.set v.toNat true) B
theorem QaD_:∀(l:LI) (B:List Bool),(∀v∈l,0<=v)->(Q7_ B l).length=B.length/\∀j,j < B.length->(Q7_ B l).getD j false=(decide ((j:Int)∈l)||B.getD j false):=by
 intro l
 induction l with
 |nil=>intro B _;exact⟨rfl,fun j b=>by simp[Q7_]⟩
 |cons v l ih=>
  intro B hv;obtain⟨h1,h2⟩:=ih (B.set v.toNat true) (fun u hu=>hv u (List.mem_cons_of_mem _ hu));have c:=hv v (by simp);have e:Q7_ B (v::l)=Q7_ (B.set v.toNat true) l:=rfl;rw[e];refine⟨by rw[h1,List.length_set],fun j b=>?_⟩;rw[h2 j (by rw[List.length_set];exact b)];by_cases a:(j:Int)=v
  ·have e2:v.toNat=j:=oo;rw[e2,List.getD_eq_getElem?_getD,List.getElem?_set_self b];simp[a]
  ·rw[List.getD_eq_getElem?_getD,List.getElem?_set_ne oo,<-List.getD_eq_getElem?_getD];simp[a]
def uTo (ps:List PN) (k:Nat):Nat->List Bool
 |0=>(List.replicate (k+1) false).set k true
 |j+1=>if (uTo ps k j).getD (k - j) false=true then (match ps[k - j]? with|none=>uTo ps k j|some p=>Q7_ (uTo ps k j) p.kids)else uTo ps k j
def uV (ps:List PN) (k:Nat):List Bool:=uTo ps k (k+1)
def UInv (ps:List PN) (k:Nat) (B:List Bool) (lo:Nat):Prop:=
 B.length=k+1/\B.getD k false=true/\(∀j,B.getD j false=true->Und ps k j)/\∀i p,lo<=i->B.getD i false=true->ps[i]? =some p->∀v∈p.kids,B.getD v.toNat false=true
theorem qk_ {B:List Bool} {j:Nat} (h:B.getD j false=true):j < B.length:=by
 rcases Nat.lt_or_ge j B.length with a|a
 ·exact a
 ·rw[List.getD_eq_getElem?_getD,List.getElem?_eq_none a]at h;cases h
theorem Qdp_ {ps:List PN} (hg:Good ps) {k:Nat} (hk:k < ps.length):∀j,j<=k+1->UInv ps k (uTo ps k j) (k+1 - j):=by
 intro j
 induction j with
 |zero=>
  intro _;refine⟨by simp[uTo],?_,fun i hi=>?_,fun i p hi a f=>?_⟩
  ·rw[uTo,List.getD_eq_getElem?_getD,List.getElem?_set_self (by simp)];rfl
  ·by_cases h:i=k
   ·rw[h];exact .refl _
   ·rw[uTo,List.getD_eq_getElem?_getD,List.getElem?_set_ne oo,List.getElem?_replicate]at hi;split at hi<;>cases hi
  ·have:=qk_ a;simp[uTo]at this;omega
 |succ j ih=>
  intro hj;obtain⟨h1,h2,o,h4⟩:=ih oo;rw[uTo];by_cases m:(uTo ps k j).getD (k - j) false=true
  ·rw[if_pos m];obtain⟨p,f⟩:∃p,ps[k - j]? =some p:=⟨_,gE oo⟩;rw[f];dsimp only;have l:=(hg _ p f).2;obtain⟨r,n⟩:=QaD_ p.kids (uTo ps k j) (fun v g=>(l v g).1);have c:∀i,(uTo ps k j).getD i false=true->(Q7_ (uTo ps k j) p.kids).getD i false=true:=fun i hi=>by
    rw[n i (qk_ hi),hi,Bool.or_true]
   refine⟨by rw[r,h1],c k h2,fun i hi=>?_,fun i p' hi a d v g=>?_⟩
   ·have b:=qk_ hi;rw[r]at b;rw[n i b,Bool.or_eq_true]at hi;rcases hi with hi|hi
    ·exact(o _ m).snoc f (of_decide_eq_true hi)
    ·exact o i hi
   ·have b:=qk_ a;rw[r]at b;have q:=(hg i p' d).2 v g;obtain⟨z,rfl⟩:=Int.eq_ofNat_of_zero_le q.1;rw[Int.toNat_natCast];by_cases e:i=k - j
    ·subst e;rw[f]at d;obtain rfl:=Option.some.inj d;rw[n z oo];simp[g]
    ·rw[n i b,Bool.or_eq_true]at a;rcases a with a|a
     ·have:=l _ (of_decide_eq_true a);omega
     ·have:=h4 i p' oo a d (z:Int) g;rw[Int.toNat_natCast]at this;exact c z this
  ·rw[if_neg m];refine⟨h1,h2,o,fun i p hi a f v g=>?_⟩;by_cases e:i=k - j
   ·subst e;exact absurd a m
   ·exact h4 i p oo a f v g
theorem Qhn_ {ps:List PN} (hg:Good ps) {k:Nat} (hk:k < ps.length) (j:Nat):(uV ps k).getD j false=true↔Und ps k j:=by
 obtain⟨h1,h2,h3,h4⟩:=Qdp_ hg hk (k+1) (Nat.le_refl _);refine⟨fun h=>h3 j h,fun h=>?_⟩;have c:∀{a b:Nat},Und ps a b->(uV ps k).getD a false=true->(uV ps k).getD b false=true:=by
  intro a b hu
  induction hu with
  |refl a=>intro h;exact h
  |kid hp hv _ ih=>
   intro h;apply ih;have:=h4 _ _ oo h hp _ hv;rwa[Int.toNat_natCast]at this
 exact c h h2
theorem Qho_ {ps:List PN} (hg:Good ps) {k:Nat} (hk:k < ps.length):(uV ps k).length=k+1:=(Qdp_ hg hk (k+1) (Nat.le_refl _)).1
def Jh_ (ps:List PN):Nat->Nat->List Bool->List Bool
 |0,_,B=>B
 |f+1,k,B=>if B.getD k false=true then B else (match ps[k]? with|none=>B|some p=>p.kids.foldl (fun b v=>Jh_ ps f v.toNat b) (B.set k true))
theorem qA_ (ps:List PN):∀(f k:Nat) (B:List Bool),(Jh_ ps f k B).length=B.length:=by
 intro f
 induction f with
 |zero=>intro k B;rfl
 |succ f ih=>
  intro k B;unfold Jh_;split
  ·rfl
  ·split
   ·rfl
   ·have c:∀(l:LI) (o:List Bool),(l.foldl (fun b v=>Jh_ ps f v.toNat b) o).length=o.length:=by
     intro l
     induction l with
     |nil=>intro o;rfl
     |cons v l a=>intro o;rw[List.foldl_cons,a,ih]
    rw[c,List.length_set]
theorem Qcm_ {ps:List PN} (hg:Good ps):∀(f k:Nat) (B:List Bool),k < f->k < ps.length->k < B.length->
  (∀j,B.getD j false=true->(Jh_ ps f k B).getD j false=true)/\(Jh_ ps f k B).getD k false=true/\(∀j,(Jh_ ps f k B).getD j false=true->B.getD j false=true\/Und ps k j)/\
  ∀i p,(Jh_ ps f k B).getD i false=true->¬B.getD i false=true->ps[i]? =some p->∀v∈p.kids,(Jh_ ps f k B).getD v.toNat false=true:=by
 intro f
 induction f with
 |zero=>intro k B h;omega
 |succ f ih=>
  intro k B F x t;unfold Jh_;by_cases y:B.getD k false=true
  ·rw[if_pos y];exact⟨fun j h=>h,y,fun j h=>.inl h,fun i p h1 d=>absurd h1 d⟩
  ·rw[if_neg y];obtain⟨p,r⟩:∃p,ps[k]? =some p:=⟨_,List.getElem?_eq_getElem x⟩;rw[r];dsimp only;have s:=(hg k p r).2;have E:∀(l:LI) (o:List Bool),(∀v∈l,v∈p.kids)->o.length=B.length->
     (∀j,o.getD j false=true->(l.foldl (fun b v=>Jh_ ps f v.toNat b) o).getD j false=true)/\(∀v∈l,(l.foldl (fun b v=>Jh_ ps f v.toNat b) o).getD v.toNat false=true)/\
     (∀j,(l.foldl (fun b v=>Jh_ ps f v.toNat b) o).getD j false=true->o.getD j false=true\/Und ps k j)/\
     ∀i q,(l.foldl (fun b v=>Jh_ ps f v.toNat b) o).getD i false=true->¬o.getD i false=true->ps[i]? =some q->∀v∈q.kids,(l.foldl (fun b v=>Jh_ ps f v.toNat b) o).getD v.toNat false=true:=by
    intro l
    induction l with
    |nil=>intro o _ _;exact⟨fun j h=>h,fun v e=>(by cases e),fun j h=>.inl h,fun i q h1 d=>absurd h1 d⟩
    |cons v l C=>
     intro o hs ho;have e:=hs v (by simp);have A:=s v e;obtain⟨z,rfl⟩:=Int.eq_ofNat_of_zero_le A.1;obtain⟨i1,i2,i3,i4⟩:=ih z o oo oo oo;obtain⟨D,j2,j3,j4⟩:=C (Jh_ ps f z o) (fun u c=>hs u (List.mem_cons_of_mem _ c)) (by rw[qA_];exact ho);rw[List.foldl_cons,Int.toNat_natCast];refine⟨fun j h=>D j (i1 j h),fun u c=>?_,fun j h=>?_,fun i q h1 d g u c=>?_⟩
     ·rcases List.mem_cons.1 c with rfl|c
      ·rw[Int.toNat_natCast];exact D z i2
      ·exact j2 u c
     ·rcases j3 j h with h|h
      ·rcases i3 j h with h|h
       ·exact .inl h
       ·exact .inr (.kid r e h)
      ·exact .inr h
     ·by_cases h3:(Jh_ ps f z o).getD i false=true
      ·exact D _ (i4 i q h3 d g u c)
      ·exact j4 i q h1 h3 g u c
   obtain⟨k1,k2,k3,k4⟩:=E p.kids (B.set k true) (fun v h=>h) (by rw[List.length_set]);have a:∀j,(B.set k true).getD j false=(decide (j=k)||B.getD j false):=fun j=>by
    by_cases n:j=k
    ·subst n;rw[List.getD_eq_getElem?_getD,List.getElem?_set_self t];simp
    ·rw[List.getD_eq_getElem?_getD,List.getElem?_set_ne oo,<-List.getD_eq_getElem?_getD];simp[n]
   refine⟨fun j h=>k1 j (by rw[a,h,Bool.or_true]),k1 k (by rw[a];simp),fun j h=>?_,fun i q h1 d g v e=>?_⟩
   ·rcases k3 j h with h|h
    ·rw[a,Bool.or_eq_true]at h;rcases h with h|h
     ·rw[of_decide_eq_true h];exact .inr (.refl _)
     ·exact .inl h
    ·exact .inr h
   ·by_cases m:i=k
    ·subst m;rw[r]at g;obtain rfl:=Option.some.inj g;exact k2 v e
    ·exact k4 i q h1 (by rw[a];simp[m];simpa using d) g v e
theorem vw_ {ps:List PN} (hg:Good ps) {k:Nat} (hk:k < ps.length) (j:Nat):(Jh_ ps (k+1) k (List.replicate ps.length false)).getD j false=true↔Und ps k j:=by
 have h0:∀j,¬(List.replicate ps.length false).getD j false=true:=fun j h=>by
  rw[List.getD_eq_getElem?_getD,List.getElem?_replicate]at h;split at h<;>cases h
 obtain⟨h1,h2,h3,h4⟩:=Qcm_ hg (k+1) k (List.replicate ps.length false) oo hk (by simpa using hk);refine⟨fun h=>(h3 j h).resolve_left (h0 j),fun h=>?_⟩;have c:∀{a b:Nat},Und ps a b->(Jh_ ps (k+1) k (List.replicate ps.length false)).getD a false=true->(Jh_ ps (k+1) k (List.replicate ps.length false)).getD b false=true:=by
  intro a b hu
  induction hu with
  |refl a=>intro h;exact h
  |kid hp hv _ ih=>
   intro h;apply ih;have:=h4 _ _ h (h0 _) hp _ hv;rwa[Int.toNat_natCast]at this
 exact c h h2
def KV_ (B:List Bool):Nat->LI
 |0=>[]
 |i+1=>KV_ B i++(if B.getD i false=true then [(i:Int)]else [])
theorem Yr_ (B:List Bool):∀i,(KV_ B i).length<=i:=by
 intro i
 induction i with
 |zero=>simp[KV_]
 |succ i ih=>rw[KV_,lA];split<;>simp<;>omega
theorem zV_ {B:List Bool} {v:Int}:∀{i:Nat},v∈KV_ B i->∃j:Nat,v=(j:Int)/\j < i/\B.getD j false=true:=by
 intro i
 induction i with
 |zero=>intro h;simp[KV_]at h
 |succ i ih=>
  intro h;rw[KV_,List.mem_append]at h;rcases h with h|h
  ·obtain⟨j,h1,h2,h3⟩:=ih h;exact⟨j,h1,oo,h3⟩
  ·split at h
   ·next hb=>rw[List.mem_singleton]at h;exact⟨i,h,oo,hb⟩
   ·cases h
theorem jW_ {A B:List Bool}:∀{i:Nat},(∀j,j < i->(A.getD j false=true↔B.getD j false=true))->KV_ A i=KV_ B i:=by
 intro i
 induction i with
 |zero=>intro _;rfl
 |succ i ih=>
  intro h;rw[KV_,KV_,ih (fun j hj=>h j oo)];have:=h i oo;by_cases a:B.getD i false=true
  ·rw[if_pos a,if_pos (this.2 a)]
  ·rw[if_neg a,if_neg (fun h2=>a (this.1 h2))]
theorem jV_ {B:List Bool} {a:Nat}:∀{b:Nat},a<=b->(∀j,a<=j->¬B.getD j false=true)->KV_ B b=KV_ B a:=by
 intro b
 induction b with
 |zero=>intro h _;obtain rfl:a=0:=oo;rfl
 |succ b ih=>
  intro h hn;rcases Nat.lt_or_ge b a with c|c
  ·obtain rfl:a=b+1:=oo;rfl
  ·rw[KV_,ih c hn,if_neg (hn b c),List.append_nil]
def VX_ (ps:List PN) (k:Nat):LI:=KV_ (uV ps k) (k+1)
theorem Qdq_ {ps:List PN} (b:Good ps) {k:Nat} (c:k < ps.length):KV_ (Jh_ ps (k+1) k (List.replicate ps.length false)) ps.length=VX_ ps k:=by
 unfold VX_;rw[jV_ (a:=k+1) oo (fun j hj h=>by have:=((vw_ b c j).1 h).le b;omega)];exact jW_ (fun j _=>by rw[vw_ b c,Qhn_ b c])
def Qt_ (l:List Bool):List Value:=l.map Value.bool
theorem JG_:(prog.info? 4).map (fun i=>(i.zero,i.size,i.bytes))=some (some (.bool false),1,1):=by kernel_rfl
theorem Yz_ {w:World} {g n k:Nat} {l:List Bool} (h:Own w g 4 n (Qt_ l)) (hk:k < l.length):w.cell? ⟨g,k,none⟩=some (.bool (l.getD k false)):=by
 obtain⟨b,off,e,_,hc⟩:=(h.rd (size:=1) (n:=l.length) (by simp[Qt_])).at_ oo;injection e with e;injection e with e1 e2;subst e1;subst e2;have:=hc k (.bool (l.getD k false)) (by unfold Qt_;rw[List.getElem?_map,List.getD_eq_getElem?_getD,List.getElem?_eq_getElem hk];rfl);rwa[Nat.zero_add]at this
theorem ZI_ {w:World} {g n k:Nat} {o:List Bool} {x:Bool} (h:Own w g 4 n (Qt_ o)) (hk:k < o.length):Own (w.setCell ⟨g,k,none⟩ (.bool x)) g 4 n (Qt_ (o.set k x)):=by
 have:=h.put (i:=k) (by simp[Qt_];exact hk) (.bool x);unfold Qt_ at this |-
 rw[List.map_set];exact this
theorem Own.falses {w:World} {e:TypeId} (n:Nat):Own (w.alloc (.cells (madeCells #[.bool false] n) e)) w.heap.size e n (Qt_ (List.replicate n false)):=
 ⟨[],by
  have h:=Blk.new w e (madeCells #[.bool false] n);have e1:(Qt_ (List.replicate n false)++[]).toArray=madeCells #[.bool false] n:=by
   apply Array.ext';rw[toList_madeCells_one];simp[Qt_]
  rw[e1];exact h,by simp[Qt_]⟩
def Qfa_ (w0:World) (A:OA) (n c g:Nat) (ps:List PN) (f:Nat):Prop:=
 ∀(k:Nat) (o:List Bool) (W:World),k < f->k < n->o.length=n->Below w0.heap.size w0 W->Own W g 4 n (Qt_ o)->
  Calls prog 88 #[.slice A n c,.int .i64 k,.slice (some ⟨g,0,none⟩) n n] W fun e w'=>e=.returned (.tuple #[])/\Below w0.heap.size w0 w'/\Own w' g 4 n (Qt_ (Jh_ ps f k o))
theorem k2_ (w0:World) (A:OA) (n c g:Nat) (ps:List PN) (t:Nps w0 A n ps) (hg:Good ps) (ak:w0.heap.size<=g) (hn:n<=1048576) (f:Nat) (hC:Qfa_ w0 A n c g ps f):Qfa_ w0 A n c g ps (f+1):=by
 intro k o W az Q ho U a;obtain⟨p,S⟩:=t.get Q;have av:(k:Int) < (n:Int):=oo;have c0:=Yz_ a (show k < o.length from oo);have am:=a.frozen;have an:=a.lt;rcases bft (o.getD k false)with F|F
 ·have I:=hid (show Jh_ ps (f+1) k o=o by unfold Jh_;rw[if_pos F]);rw[F]at c0;rw[I.o];have HB:=hid U;have HO:=hid a;clear t hg hC S F I U a;go_enter func88,ntmps88;go_wp2;refine bodyPost_ret (results_none rfl _ _ _) rfl ?_;exact⟨rfl,HB.o,HO.o⟩
 ·rw[F]at c0;obtain⟨P,E⟩:=hg k p S;obtain⟨ks,r⟩:=ex_ p.kids;obtain⟨y,s⟩:=ex_ ks.length;obtain⟨G,L⟩:=ex_ (fun i=>(ks.take i).foldl (fun b v=>Jh_ ps f v.toNat b) (o.set k true));have I:=hid (show Jh_ ps (f+1) k o=G y by
   conv=>lhs;unfold Jh_
   rw[if_neg (by rw[F];decide),S,<-L];dsimp only;rw[r,<-s,List.take_length])
  have Z:=hid (show G 0=o.set k true by rw[<-L];rfl);have ab:=hid (show ∀(i:Nat) (v:Int),ks[i]? =some v->G (i+1)=Jh_ ps f v.toNat (G i)from fun i v H=>by
   rw[<-L];dsimp only;rw[List.take_add_one,H,Option.toList_some,List.foldl_append]
   rfl)
  have aa:=hid (show ∀i,(G i).length=n from fun i=>by
   rw[<-L];have ap:∀(l:LI) (o:List Bool),(l.foldl (fun b v=>Jh_ ps f v.toNat b) o).length=o.length:=by
    intro l
    induction l with
    |nil=>intro o;rfl
    |cons v l ao=>intro o;rw[List.foldl_cons,ao,qA_]
   dsimp only;rw[ap,List.length_set,ho])
  rw[r]at E P;have ad:=hid E;have HC:=hid hC;have ay:=hid r;have ae:=hid s;have al:y<=12:=oo;have B:=hid (ZI_ (x:=true) a (show k < o.length from oo));rw[I.o];have z:=hid (U.setCell (show w0.heap.size<=(⟨g,k,none⟩:Addr).block from ak) (.bool true));obtain⟨b,off,A',c',rfl,m,_,_,y2,_,_,D⟩:=t.atc Q S;rw[r,s]at y2 D;have ac:=hid D;have ag:=hid (fun(W:World) (h:Below w0.heap.size w0 W)=>((QE_ h).1 _ _ m).trans y2);have X:=hid (fun(W:World) (h:Below w0.heap.size w0 W)=>show b < W.heap.size by have:=h.size;omega);clear t hg hC S r s L U a E I F y2 D m;go_enter func88,ntmps88;go_upto_region 2 with fail
  clear c0 am an;generalize W.setCell ⟨g,k,none⟩ (.bool true)=W1 at z B |-
  go_wp2;go_loopw [6] (fun i wr=>∃j:Nat,j<=y/\i=.int .i64 j/\Hid (Below w0.heap.size w0 wr)/\Hid (Own wr g 4 n (Qt_ (G j)))) (fun i _=>y - (intOf i).toNat)
  case atStart=>exact⟨0,Nat.zero_le _,rfl,z,by rw[Z.o];exact B⟩
  case round=>
   clear z B;obtain⟨j,hj,rfl,d,J⟩:=hrel;have x2:=ag.o _ d.o;have N:=X.o _ d.o;by_cases O:j < y
   ·obtain⟨v,H⟩:∃v,ks[j]? =some v:=⟨_,gE (by rw[ae.o];exact O)⟩;have T:=ad.o v (List.mem_of_getElem? H);obtain⟨q,rfl⟩:=Int.eq_ofNat_of_zero_le T.1;obtain⟨b7,ax,rfl,C,c7⟩:=Ql_ (ac.o.below d.o) O H;have ar:(j:Int) < (y:Int):=oo;have K:=hid (ab.o j _ H);rw[Int.toNat_natCast]at K;have Y:=hid (HC.o q (G j) wr oo oo (aa.o j) d.o J.o);rw[<-K.o]at Y;clear H T;go_wp2_with fail
    refine Y.o.mono ?_;rintro e w2 ⟨rfl,M,R⟩;have V:=hid M;have af:=hid R;clear M R x2 N c7 C Y;go_wp2;go_roundw
    case rel=>exact⟨j+1,oo,by go_num,V,af⟩
    case measure=>simp[intOf];omega
   ·obtain rfl:j=y:=oo;go_wp2;go_end0;exact⟨rfl,d.o,J.o⟩
theorem jh_ (w0:World) (A:OA) (n c g:Nat) (ps:List PN) (b:Nps w0 A n ps) (hg:Good ps) (a:w0.heap.size<=g) (hn:n<=1048576):∀f,Qfa_ w0 A n c g ps f:=by
 intro f
 induction f with
 |zero=>intro k o W h;omega
 |succ f ih=>exact k2_ w0 A n c g ps b hg a hn f ih
theorem vl_ {ps:List PN} (h:KL_ ps=true) {k:Nat} (hk:k < ps.length):(Yf_ ps (k:Int)==0)=false:=by
 have b:=h;unfold KL_ at b;simp only[Bool.and_eq_true]at b;obtain⟨_,_,h3,_⟩:=b;have hd:¬Zc_ ps (ps.length - 1)=0:=by intro e;rw[e]at h3;cases h3
 rw[beq_eq_false_iff_ne];unfold Yf_;rw[if_pos ⟨oo,oo⟩,Int.toNat_natCast]
 cases a:Kb_ ps (k+1)with
 |none=>exact absurd (Gl_ a (show k+1<=(ps.length - 1)+1 from oo)) hd
 |some l=>
  obtain⟨h1,h2⟩:=XG_ a;obtain⟨x,hx⟩:∃x,l[k]? =some x:=⟨_,gE oo⟩;rw[Gm_ a hx];have:=h2 x (List.mem_of_getElem? hx);omega
theorem Own.grown' {w w':World} {g cap:Nat} {t:TypeId} {xs:List Value} {r:ON} (h:Own w g t cap xs) (hg:w.grownBy w' r) (hr:∀q,r=some q->∃c cs,Blk w q c cs/\c≠t):Own w' g t cap xs:=by
 obtain⟨rest,hb,hs⟩:=h;refine⟨rest,hb.grown hg (fun e=>?_),hs⟩;obtain⟨c,cs,a,b⟩:=hr g e.symm;exact KM_ hb a (Ne.symm b) rfl
theorem Gb_ (A:OA) (n c:Nat) (ps:List PN) (k:Nat) (w:World) (j:Nps w A n ps) (f:Hid (PNs ps)) (z:KL_ ps=true) (hk:k < n):
  Calls prog 57 #[.slice A n c,.int .i64 k] w (VE_ w (VX_ ps k)):=by
 obtain⟨i0,hi,X,Y,Z⟩:=info_parts QB_;have g:=hid (And.intro hi (And.intro X (And.intro Y Z)));obtain⟨j0,hj,T,U,V⟩:=info_parts JG_;obtain⟨m,hm,aq,hg,hu⟩:=Zx_ z;have hl:=j.len;have hn:n<=300:=oo;have HD:=hid (fun(v:Int) (R:Yf_ ps (k:Int)=v) (W:World) (hW:Below w.heap.size w W)=>show Calls prog 79 #[.slice A n c,.int .i64 k] W fun e w'=>e=.returned (.int .i64 v)/\Below W.heap.size W w' by rw[<-R];exact VV_ A n c ps k W oo (j.next hW) f);obtain⟨v,R⟩:=ex_ (Yf_ ps (k:Int));have av:=vl_ z (show k < ps.length from oo);rw[R]at av;have E:=hid (HD.o v R);have p:=hid (fun(W:World) (hW:Below w.heap.size w W)=>jh_ W A n c W.heap.size ps (j.next hW) hg (Nat.le_refl _) oo (k+1) k (List.replicate n false) (W.alloc (.cells (madeCells #[.bool false] n) 4)) oo hk (by simp) bra (Own.falses n));have s:=fun W=>QK_ (P:=prog) 81 4 j0 _ underlying81 hj T .i64 .i64 n n (Nat.le_refl _) (by rw[V];omega) oo W
 rw[U,Nat.mul_one]at s;simp only[Value.cells]at s;have L:=Qdq_ hg (show k < ps.length from oo);rw[hl]at L;have h:=qA_ ps (k+1) k (List.replicate n false);obtain⟨S,M⟩:=ex_ (Jh_ ps (k+1) k (List.replicate n false));rw[M]at p L h;rw[List.length_replicate]at h;obtain⟨F,K⟩:=ex_ (KV_ S);have ae:=hid (show ∀i,F (i+1)=F i++(if S.getD i false=true then [(i:Int)]else [])from fun i=>by rw[<-K];rfl);have ad:=hid (show ∀i,(F i).length<=i from fun i=>by rw[<-K];exact Yr_ S i);have ac:=hid (show F 0=[]by rw[<-K];rfl);rw[K]at L;rw[<-L];have ah:=hid h;unfold VE_;clear hi X Y Z hj T U V hm aq hg hu hl HD R j f z M K L h;go_enter func57,ntmps57;go_wp2_with fail
 refine(E.o _ grow_).mono ?_;rintro e w1 ⟨rfl,h1⟩;have G:=hid (show Mine w1 w.heap.size 3 1 (some ⟨w.heap.size,0,none⟩) 0 0 []from Mine.next (QI_ w 3 1) h1);have C:=hid (QA_ br h1);clear h1 E;go_wp2_with fail
 refine(p.o _ C.o).mono ?_;rintro e w2 ⟨rfl,h2,Q⟩;have H:=hid (G.o.next h2);have J:=hid Q;have D:=hid (Qb_ C.o h2);clear h2 Q s p G;go_wp2;go_loopw [5,7] (fun o x wr=>∃(i:Nat) (A:OA) (c:Nat),i<=n/\x=.int .i64 i/\o=.slice A (F i).length c/\Hid (Mine wr w.heap.size 3 1 A (F i).length c (Qa_ (F i)))/\Hid (Own wr w1.heap.size 4 n (Qt_ S))/\Hid (Below w.heap.size w wr)) (fun _ x _=>n - (intOf x).toNat)
 case atStart=>
  refine⟨0,some ⟨w.heap.size,0,none⟩,0,Nat.zero_le _,rfl,?_,?_,J,D⟩
  all_goals rw[ac.o]
  ·rfl
  ·exact H
 case round=>
  clear H J D;obtain⟨i,A3,c3,hi,rfl,rfl,HO,I,B⟩:=hrel;have O:=ad.o i;have a:=hid (ae.o i);obtain⟨xs,l⟩:=ex_ (F i);rw[l]at HO O a;rw[l];obtain⟨n1,t⟩:=ex_ xs.length;have b:=hid t;rw[t]at HO O |-
  have ai:=hid l;clear t l;have N:=B.o.size;by_cases ao:i < n
  ·have c0:=Yz_ I.o (show i < S.length by rw[ah.o];exact ao);have cz:=I.o.lt;have az:(i:Int) < (n:Int):=oo;rcases bft (S.getD i false)with f|f
   ·rw[f]at c0;rw[if_pos f]at a;clear f;go_wp2_with (at_builtin;(refine wpList_append_own _ rfl (.tmp 31) (.tmp 33) _ rfl w.heap.size 3 i0 (.int .i64 0) 1 8 underlying34 g.o.1 g.o.2.1 g.o.2.2.1 g.o.2.2.2 rfl (by decide) _ _ _ rfl (Mine.alloc HO.o _) ⟨wr.heap.size,0,none⟩ 1 1 [.int .i64 i] rfl rfl (Kq_ _ _ _) (Kr_ _) (by unfold maxLen;omega) oo (by simp;omega) ?_);intro v' w3 d r y)
    have hr:∀q,(Value.slice A3 n1 c3).ownBlock=some q->w.heap.size<=q/\∃cs,Blk (wr.alloc (.cells #[.int .i64 i] 3)) q 3 cs:=fun q e=>by
     rw[Qw_]at e;exact⟨(Mine.blk HO.o e).1,QP_ (Mine.alloc HO.o (.cells #[.int .i64 i] 3)) e⟩
    have ag:=hid ((I.o.alloc (.cells #[.int .i64 i] 3)).grown' r (fun q e=>by obtain⟨_,cs,hk⟩:=hr q e;exact⟨_,cs,hk,by decide⟩));have ab:=hid ((B.o.alloc N (.cells #[.int .i64 i] 3)).grown r (B.o.alloc N (.cells #[.int .i64 i] 3)).size (fun q e=>(hr q e).1));obtain⟨A5,c5,rfl,m5⟩:=Mine.of d;rw[<-QO_]at m5;have af:=hid m5;clear d r y hr m5 HO I B c0 cz;go_wp2;go_roundw
    case rel=>exact⟨i+1,A5,c5,oo,by go_num,by rw[a.o,lA,b.o];rfl,by rw[a.o,lA,b.o];exact af,ag,ab⟩
    case measure=>simp[intOf];omega
   ·rw[f]at c0;rw[if_neg (by rw[f];decide),List.append_nil]at a;clear f;go_wp2;go_roundw
    case rel=>exact⟨i+1,A3,c3,oo,by go_num,by rw[a.o,b.o],by rw[a.o,b.o];exact HO,I,B⟩
    case measure=>simp[intOf];omega
  ·obtain rfl:i=n:=oo;go_wp2;go_ret;rw[ai.o,b.o];exact⟨A3,c3,rfl,HO.o,B.o⟩
theorem Qgr_ (ps:List PN) (k:Nat):∀j,(uTo ps k j).length=k+1:=by
 have hs:∀(l:LI) (B:List Bool),(Q7_ B l).length=B.length:=by
  intro l
  induction l with
  |nil=>intro B;rfl
  |cons v l a=>intro B;show(Q7_ (B.set v.toNat true) l).length=_;rw[a,List.length_set]
 intro j
 induction j with
 |zero=>simp[uTo]
 |succ j a=>
  rw[uTo];split
  ·split
   ·exact a
   ·rw[hs,a]
  ·exact a
theorem jX_ (A:OA) (n c:Nat) (ps:List PN) (k:Nat) (w:World) (Y:Nps w A n ps) (hg:Good ps) (hn:n<=1048576) (hk:k < n):
  Calls prog 91 #[.slice A n c,.int .i64 k] w fun e w'=>e=.returned (.slice (some ⟨w.heap.size,0,none⟩) (k+1) (k+1))/\Own w' w.heap.size 4 (k+1) (Qt_ (uV ps k))/\Below w.heap.size w w':=by
 obtain⟨j0,hj,ad,H,ae⟩:=info_parts JG_;have h:=fun W=>QK_ (P:=prog) 81 4 j0 _ underlying81 hj ad .i64 .i64 (k+1) (k+1) (Nat.le_refl _) (by rw[ae];omega) oo W
 rw[H,Nat.mul_one]at h;simp only[Value.cells]at h;have e9:((k+1:Nat):Int)=(k:Int)+1:=oo;rw[e9]at h;have HV:=hid (show uV ps k=uTo ps k (k+1)from rfl);have HS:=hid (show ∀q,q < k+1->uTo ps k (k+1 - q)=if (uTo ps k (k+1 - (q+1))).getD q false=true then (match ps[q]? with|none=>uTo ps k (k+1 - (q+1))|some p=>Q7_ (uTo ps k (k+1 - (q+1))) p.kids)else uTo ps k (k+1 - (q+1))from fun q hq=>by
  have e:k+1 - q=(k+1 - (q+1))+1:=oo;have e2:k - (k+1 - (q+1))=q:=oo;rw[e]
  conv=>lhs;rw[uTo]
  rw[e2]
  try rfl)
 have al:=hid (Qgr_ ps k);have HG:=hid hg;have O:=hid Y;rw[HV.o];have Q:=hid (Own.falses (w:=w) (e:=4) (k+1));have R:=hid (show uTo ps k 0=(List.replicate (k+1) false).set k true from rfl);obtain⟨u0,Z⟩:=Q.o.there (show k < k+1 from oo);have aa:=Q.o.frozen;have ab:=Q.o.lt;have f:=hid (ZI_ (x:=true) Q.o (show k < (List.replicate (k+1) false).length by simp));rw[<-R.o]at f;have g:=hid (((Below.refl w.heap.size w).alloc (Nat.le_refl _) (.cells (madeCells #[.bool false] (k+1)) 4)).setCell (show w.heap.size<=(⟨w.heap.size,k,none⟩:Addr).block from Nat.le_refl _) (.bool true));clear hj ad H ae hg Y HV Q R;go_enter func91,ntmps91;go_upto_region 3 with fail
 clear h u0 Z aa ab;rw[World.setCell_alloc_new]at g f;generalize w.alloc (.cells ((madeCells #[.bool false] (k+1)).setIfInBounds k (.bool true)) 4)=W1 at g f |-
 go_wp2;go_loopw [6] (fun i wr=>∃(q:Nat) (x:Int),q<=k+1/\x=(q:Int) - 1/\i=.int .i64 x/\Hid (Own wr w.heap.size 4 (k+1) (Qt_ (uTo ps k (k+1 - q))))/\Below w.heap.size w wr) (fun i _=>(intOf i+1).toNat)
 case atStart=>exact⟨k+1,(k:Int),Nat.le_refl _,oo,by go_num,by rw[Nat.sub_self];exact f,g.o⟩
 case round=>
  clear f g;obtain⟨q,x,hq,hx,rfl,HO,I⟩:=hrel;rcases Nat.eq_zero_or_pos q with rfl|aA
  ·have aB:¬(0:Int)<=x:=oo;have M:=HO;rw[Nat.sub_zero]at M;clear hx HO;go_wp2;go_ret;exact⟨rfl,M.o,I⟩
  ·obtain⟨z,rfl⟩:∃z,q=z+1:=⟨q - 1,oo⟩;obtain rfl:x=(z:Int):=oo;have a:=hid (HS.o z oo);obtain⟨p,hp⟩:=O.o.get (show z < n from oo);have S:=al.o (k+1 - (z+1));obtain⟨B,hB⟩:=ex_ (uTo ps k (k+1 - (z+1)));rw[hB]at HO a S;rw[hp]at a;dsimp only at a;obtain⟨X,D⟩:=HG.o z p hp;obtain⟨ks,C⟩:=ex_ p.kids;obtain⟨m,F⟩:=ex_ ks.length;rw[C]at a X D;have aq:m<=12:=oo;obtain⟨b,off,A',c',rfl,s,_,_,y2,_,_,t⟩:=O.o.atc (show z < n from oo) hp;rw[C,F]at y2 t;have x2:=((QE_ I).1 _ _ s).trans y2;have U:b < wr.heap.size:=(by have:=I.size;omega);have c0:=Yz_ HO.o (show z < B.length from oo);have cz:=HO.o.lt;have aC:(0:Int)<=(z:Int):=oo;have aD:(z:Int) < (k:Int)+1:=oo;have aE:(z:Int) < (n:Int):=oo;have aj:=hid t;have L:=hid F;have ak:=hid D;clear hx hp C F hB t y2 D;rcases bft (B.getD z false)with E|E
   ·rw[E]at c0;rw[if_pos E]at a;obtain⟨G,T⟩:=ex_ (fun i=>Q7_ B (ks.take i));have HE:=hid (show uTo ps k (k+1 - z)=G m by rw[a.o,<-T];dsimp only;rw[<-L.o,List.take_length]);have ag:=hid (show G 0=B by rw[<-T];rfl);have ai:=hid (show ∀(i:Nat) (v:Int),ks[i]? =some v->G (i+1)=(G i).set v.toNat true from fun i v J=>by
     rw[<-T];dsimp only;unfold Q7_;rw[List.take_add_one,J,Option.toList_some,List.foldl_append]
     rfl)
    have ah:=hid (show ∀i,(G i).length=k+1 from fun i=>by
     rw[<-T];have av:∀(l:LI) (o:List Bool),(Q7_ o l).length=o.length:=by
      intro l
      induction l with
      |nil=>intro o;rfl
      |cons v l ar=>intro o;show(Q7_ (o.set v.toNat true) l).length=_;rw[ar,List.length_set]
     dsimp only;rw[av,S])
    clear E T a;go_upto_region 8 with fail
    clear c0 cz;go_wp2;go_loopw [31] (fun i wr=>∃j:Nat,j<=m/\i=.int .i64 j/\Hid (Own wr w.heap.size 4 (k+1) (Qt_ (G j)))/\Below w.heap.size w wr) (fun i _=>m - (intOf i).toNat)
    case atStart=>exact⟨0,Nat.zero_le _,rfl,by rw[ag.o];exact HO,I⟩
    case round=>
     clear HO I x2 U;obtain⟨j,hj,rfl,d,r⟩:=hrel;by_cases V:j < m
     ·obtain⟨v,J⟩:∃v,ks[j]? =some v:=⟨_,gE (by rw[L.o];exact V)⟩;have ac:=ak.o v (List.mem_of_getElem? J);obtain⟨y,rfl⟩:=Int.eq_ofNat_of_zero_le ac.1;obtain⟨b9,az,rfl,ao,c9⟩:=Ql_ (aj.o.below r) V J;have ay:(j:Int) < (m:Int):=oo;have H:(y:Int) < (k:Int)+1:=oo;have K:=hid (ai.o j _ J);rw[Int.toNat_natCast]at K;have N:=hid (ZI_ (x:=true) d.o (show y < (G j).length by rw[ah.o];omega));rw[<-K.o]at N;obtain⟨u0,Z⟩:=d.o.there (show y < k+1 from oo);have aa:=d.o.frozen;have ab:=d.o.lt;have an:=hid (r.setCell (show w.heap.size<=(⟨w.heap.size,y,none⟩:Addr).block from Nat.le_refl _) (.bool true));clear J ac;go_wp2;go_roundw
      case rel=>exact⟨j+1,oo,by go_num,N,an.o⟩
      case measure=>simp[intOf];omega
     ·obtain rfl:j=m:=oo;rw[<-HE.o]at d;go_wp2;exact⟨⟨z,(z:Int) - 1,oo,rfl,rfl,d,r⟩,by simp[intOf]⟩
   ·rw[E]at c0;rw[if_neg (by rw[E];decide)]at a;clear E;go_wp2;go_roundw
    case rel=>exact⟨z,(z:Int) - 1,oo,rfl,by go_num,by rw[a.o];exact HO,I⟩
    case measure=>simp[intOf]
theorem JF_ (A:OA) (n c:Nat) (ps:List PN) (k:Nat) (w:World) (h:Nps w A n ps) (f:Hid (PNs ps)) (z:KL_ ps=true) (hk:k < n):
  Calls prog 60 #[.slice A n c,.int .i64 k] w (VE_ w (VX_ ps k)):=by
 obtain⟨i0,hi,O,P,Q⟩:=info_parts QB_;have g:=hid (And.intro hi (And.intro O (And.intro P Q)));obtain⟨m,hm,aj,hg,hu⟩:=Zx_ z;have hl:=h.len;have hn:n<=300:=oo;have HD:=hid (fun(v:Int) (N:Yf_ ps (k:Int)=v) (W:World) (hW:Below w.heap.size w W)=>show Calls prog 90 #[.slice A n c,.int .i64 k] W fun e w'=>e=.returned (.int .i64 v)/\Below W.heap.size W w' by rw[<-N];exact VN_ A n c ps k W oo (h.next hW) f);obtain⟨v,N⟩:=ex_ (Yf_ ps (k:Int));have al:=vl_ z (show k < ps.length from oo);rw[N]at al;have D:=hid (HD.o v N);have p:=hid (fun(W:World) (hW:Below w.heap.size w W)=>jX_ A n c ps k W (h.next hW) hg oo hk);have r:=Qho_ hg (show k < ps.length from oo);have R:KV_ (uV ps k) (k+1)=VX_ ps k:=rfl;obtain⟨S,J⟩:=ex_ (uV ps k);rw[J]at p R r;obtain⟨F,I⟩:=ex_ (KV_ S);have Y:=hid (show ∀i,F (i+1)=F i++(if S.getD i false=true then [(i:Int)]else [])from fun i=>by rw[<-I];rfl);have X:=hid (show ∀i,(F i).length<=i from fun i=>by rw[<-I];exact Yr_ S i);have V:=hid (show F 0=[]by rw[<-I];rfl);rw[I]at R;rw[<-R];have ab:=hid r;unfold VE_;have ap:k+1<=300:=oo;clear hi O P Q hm aj hg hu hl HD N h f z J I R r;go_enter func60,ntmps60;go_wp2_with fail
 refine(D.o _ grow_).mono ?_;rintro e w1 ⟨rfl,h1⟩;have l:=hid h1;clear h1 D;go_wp2_with fail
 refine(p.o _ l.o).mono ?_;rintro e w2 ⟨rfl,M,h2⟩;have E:=hid (show Mine w2 w.heap.size 3 1 none 0 0 []from Mine.mk_nil _ _ _ _);have H:=hid M;have C:=hid (Qb_ l.o h2);clear h2 M p l;go_wp2;go_loopw [5,16] (fun o x wr=>∃(i:Nat) (A:OA) (c:Nat),i<=k+1/\x=.int .i64 i/\o=.slice A (F i).length c/\Hid (Mine wr w.heap.size 3 1 A (F i).length c (Qa_ (F i)))/\Hid (Own wr w1.heap.size 4 (k+1) (Qt_ S))/\Hid (Below w.heap.size w wr)) (fun _ x _=>k+1 - (intOf x).toNat)
 case atStart=>
  refine⟨0,none,0,Nat.zero_le _,rfl,?_,?_,H,C⟩
  all_goals rw[V.o]
  ·rfl
  ·exact E
 case round=>
  clear E H C;obtain⟨i,T,c3,hi,rfl,rfl,HO,G,B⟩:=hrel;have L:=X.o i;have a:=hid (Y.o i);obtain⟨xs,j⟩:=ex_ (F i);rw[j]at HO L a;rw[j];obtain⟨n1,t⟩:=ex_ xs.length;have b:=hid t;rw[t]at HO L |-
  have ac:=hid j;clear t j;have K:=B.o.size;by_cases ah:i < k+1
  ·have c0:=Yz_ G.o (show i < S.length by rw[ab.o];exact ah);have cz:=G.o.lt;have ao:(i:Int) < (k:Int)+1:=oo;rcases bft (S.getD i false)with f|f
   ·rw[f]at c0;rw[if_pos f]at a;clear f;go_wp2_with (at_builtin;(refine wpList_append_own _ rfl (.tmp 22) (.tmp 24) _ rfl w.heap.size 3 i0 (.int .i64 0) 1 8 underlying34 g.o.1 g.o.2.1 g.o.2.2.1 g.o.2.2.2 rfl (by decide) _ _ _ rfl (Mine.alloc HO.o _) ⟨wr.heap.size,0,none⟩ 1 1 [.int .i64 i] rfl rfl (Kq_ _ _ _) (Kr_ _) (by unfold maxLen;omega) oo (by simp;omega) ?_);intro v' w3 d s y)
    have hr:∀q,(Value.slice T n1 c3).ownBlock=some q->w.heap.size<=q/\∃cs,Blk (wr.alloc (.cells #[.int .i64 i] 3)) q 3 cs:=fun q e=>by
     rw[Qw_]at e;exact⟨(Mine.blk HO.o e).1,QP_ (Mine.alloc HO.o (.cells #[.int .i64 i] 3)) e⟩
    have aa:=hid ((G.o.alloc (.cells #[.int .i64 i] 3)).grown' s (fun q e=>by obtain⟨_,cs,hk⟩:=hr q e;exact⟨_,cs,hk,by decide⟩));have U:=hid ((B.o.alloc K (.cells #[.int .i64 i] 3)).grown s (B.o.alloc K (.cells #[.int .i64 i] 3)).size (fun q e=>(hr q e).1));obtain⟨A5,c5,rfl,m5⟩:=Mine.of d;rw[<-QO_]at m5;have Z:=hid m5;clear d s y hr m5 HO G B c0 cz;go_wp2;go_roundw
    case rel=>exact⟨i+1,A5,c5,oo,by go_num,by rw[a.o,lA,b.o];rfl,by rw[a.o,lA,b.o];exact Z,aa,U⟩
    case measure=>simp[intOf];omega
   ·rw[f]at c0;rw[if_neg (by rw[f];decide),List.append_nil]at a;clear f;go_wp2;go_roundw
    case rel=>exact⟨i+1,T,c3,oo,by go_num,by rw[a.o,b.o],by rw[a.o,b.o];exact HO,G,B⟩
    case measure=>simp[intOf];omega
  ·obtain rfl:i=k+1:=oo;go_wp2;go_ret;rw[ac.o,b.o];exact⟨T,c3,rfl,HO.o,B.o⟩
end Go.Proofs.YtgbikafalcbibaaGreatDoor

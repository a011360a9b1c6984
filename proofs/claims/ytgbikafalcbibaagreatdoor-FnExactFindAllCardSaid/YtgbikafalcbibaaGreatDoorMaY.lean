/-
  Put together by program (shake.py):FhG,FhB,Dec,LaidT,FhC,FhD,FhE.
-/
import Derived.Test.YtgbikafalcbibaaGreatDoorMaX
import Derived.Lib.AppendIntMem
import Derived.Lib.ItoaLen
set_option maxRecDepth 100000
set_option linter.all false
set_option maxHeartbeats 25600000
open Go.Lib (hid)
open Go.Proofs.Tryz
namespace Go.Proofs.YtgbikafalcbibaaGreatDoor
open Go.RowKit
def X2_ (p:PN):Int:=if (p.kind==18)=true then 1 else 0
def kg_ (ps:List PN) (B:LI) (k:Nat):LI:=match ps[k]? with|none=>B|some p=>p.kids.foldl (fun b v=>b.set v.toNat (B.getD k 0+X2_ p)) B
def Ug_ (ps:List PN) (n:Nat):Nat->LI
 |0=>List.replicate n 0
 |j+1=>kg_ ps (Ug_ ps n j) (n - 1 - j)
def blkV (ps:List PN):LI:=Ug_ ps ps.length ps.length
theorem Qha_ (x:Int):∀(l:LI) (B:LI),(∀v∈l,0<=v)->(l.foldl (fun b v=>b.set v.toNat x) B).length=B.length/\∀j,j < B.length->(l.foldl (fun b v=>b.set v.toNat x) B).getD j 0=if (j:Int)∈l then x else B.getD j 0:=by
 intro l
 induction l with
 |nil=>intro B _;exact⟨rfl,fun j d=>by simp⟩
 |cons v l ih=>
  intro B hv;obtain⟨h1,h2⟩:=ih (B.set v.toNat x) (fun u hu=>hv u (List.mem_cons_of_mem _ hu));have f:=hv v (by simp);rw[List.foldl_cons];refine⟨by rw[h1,List.length_set],fun j d=>?_⟩;rw[h2 j (by rw[List.length_set];exact d)];by_cases a:(j:Int)∈l
  ·rw[if_pos a,if_pos (List.mem_cons_of_mem _ a)]
  ·rw[if_neg a];by_cases c:(j:Int)=v
   ·rw[if_pos (by rw[c];simp)];have e:v.toNat=j:=oo;rw[e,List.getD_eq_getElem?_getD,List.getElem?_set_self d]
    rfl
   ·rw[if_neg (by simp only[List.mem_cons,not_or];exact⟨c,a⟩)];rw[List.getD_eq_getElem?_getD,List.getElem?_set_ne oo,List.getD_eq_getElem?_getD]
def BInv (ps:List PN) (m:Nat) (B:LI) (lo:Nat):Prop:=
 B.length=m+1/\B.getD m 0=0/\(∀j,j<=m->0<=B.getD j 0/\B.getD j 0+lo<=m+1)/\∀k p,lo<=k->ps[k]? =some p->∀v∈p.kids,B.getD v.toNat 0=B.getD k 0+X2_ p
theorem vq_ (p:PN):0<=X2_ p/\X2_ p<=1:=by unfold X2_;split<;>omega
theorem QbN_ {ps:List PN} {m:Nat} (hg:Good ps) (hl:ps.length=m+1) (hu:Xm_ ps (m+1) m) {B:LI} {k:Nat} (hk:k<=m) (h:BInv ps m B (k+1)):BInv ps m (kg_ ps B k) k:=by
 obtain⟨h1,h2,h3,h4⟩:=h;obtain⟨p,l⟩:∃p,ps[k]? =some p:=⟨_,gE oo⟩;have g:=(hg k p l).2;obtain⟨s1,r⟩:=Qha_ (B.getD k 0+X2_ p) p.kids B (fun v f=>(g v f).1);have e:kg_ ps B k=p.kids.foldl (fun b v=>b.set v.toNat (B.getD k 0+X2_ p)) B:=by unfold kg_;rw[l]
 have hb:=vq_ p;rw[e];have c:∀j,k<=j->j<=m->(p.kids.foldl (fun b v=>b.set v.toNat (B.getD k 0+X2_ p)) B).getD j 0=B.getD j 0:=fun j z x=>by
  rw[r j oo,if_neg (fun hm=>by have:=g _ hm;omega)]
 refine⟨by rw[s1,h1],by rw[c m hk (Nat.le_refl _)];exact h2,fun j hj=>?_,fun n p' q a v f=>?_⟩
 ·rw[r j oo];have t:=h3 j hj;have y:=h3 k hk;split<;>omega
 ·have s:=(List.getElem?_eq_some_iff.1 a).1;have o:=(hg n p' a).2 v f;obtain⟨i,rfl⟩:=Int.eq_ofNat_of_zero_le o.1;rw[Int.toNat_natCast];rw[c n q oo,r i oo];by_cases d:(i:Int)∈p.kids
  ·obtain rfl:=Qa2_ hu (show i < m from oo) l a d f oo oo;rw[l]at a;obtain rfl:=Option.some.inj a;rw[if_pos d]
  ·rw[if_neg d];have A:n≠k:=fun e=>by subst e;rw[l]at a;obtain rfl:=Option.some.inj a;exact d f
   have:=h4 n p' oo a (i:Int) f;rwa[Int.toNat_natCast]at this
theorem kf_ {ps:List PN} {m:Nat} (hg:Good ps) (hl:ps.length=m+1) (hu:Xm_ ps (m+1) m):∀j,j<=m+1->BInv ps m (Ug_ ps (m+1) j) (m+1 - j):=by
 intro j
 induction j with
 |zero=>
  intro _;refine⟨by simp[Ug_],by simp[Ug_],fun j hj=>?_,fun k p hk hp=>?_⟩
  ·simp[Ug_,List.getD_eq_getElem?_getD,List.getElem?_replicate];split<;>simp
  ·have:=(List.getElem?_eq_some_iff.1 hp).1;omega
 |succ j ih=>
  intro hj;have h:=ih oo;have e:m+1 - (j+1)=m+1 - 1 - j:=oo;rw[e];exact QbN_ hg hl hu oo (by rw[show m+1 - 1 - j+1=m+1 - j from oo];exact h)
theorem z4_ {ps:List PN} {m:Nat} (hg:Good ps) (hl:ps.length=m+1) (hu:Xm_ ps (m+1) m):BInv ps m (blkV ps) 0:=by
 have h:=kf_ hg hl hu (m+1) (Nat.le_refl _);rw[Nat.sub_self]at h;unfold blkV;rw[hl];exact h
def Wa_ (ps:List PN):Nat->Nat->Int->LI->LI
 |0,_,_,o=>o
 |f+1,k,x,o=>match ps[k]? with|none=>o|some p=>p.kids.foldl (fun o v=>Wa_ ps f v.toNat (x+X2_ p) o) (o.set k x)
theorem Qgs_ {ps:List PN} {m:Nat} (hg:Good ps) (hl:ps.length=m+1) (hu:Xm_ ps (m+1) m):∀d j,j+d=m->Und ps m j:=by
 intro d
 induction d using Nat.strongRecOn with
 |ind d ih=>
  intro j hj;by_cases a:j=m
  ·subst a;exact .refl _
  ·obtain⟨k,p,hk,hp,hv⟩:=j3_ hu (show j < m from oo);have:=(hg k p hp).2 _ hv;exact(ih (m - k) oo k oo).snoc hp hv
theorem Qcn_ {ps:List PN} {m:Nat} (hg:Good ps) (hl:ps.length=m+1) {D:LI} (hD:BInv ps m D 0):∀(f k:Nat) (o:LI),k < f->k<=m->o.length=m+1->
  (Wa_ ps f k (D.getD k 0) o).length=m+1/\(∀j,(Wa_ ps f k (D.getD k 0) o).getD j 0=D.getD j 0\/(Wa_ ps f k (D.getD k 0) o).getD j 0=o.getD j 0)/\∀j,Und ps k j->(Wa_ ps f k (D.getD k 0) o).getD j 0=D.getD j 0:=by
 intro f
 induction f with
 |zero=>intro k o h;omega
 |succ f ih=>
  intro k o z A d;obtain⟨p,q⟩:∃p,ps[k]? =some p:=⟨_,gE oo⟩;have e:Wa_ ps (f+1) k (D.getD k 0) o=p.kids.foldl (fun o v=>Wa_ ps f v.toNat (D.getD k 0+X2_ p) o) (o.set k (D.getD k 0)):=by
   conv=>lhs;unfold Wa_
   rw[q]
  rw[e];have s:=(hg k p q).2;have y:∀(l:LI) (o:LI),(∀v∈l,v∈p.kids)->o.length=m+1->
    (l.foldl (fun o v=>Wa_ ps f v.toNat (D.getD k 0+X2_ p) o) o).length=m+1/\(∀j,(l.foldl (fun o v=>Wa_ ps f v.toNat (D.getD k 0+X2_ p) o) o).getD j 0=D.getD j 0\/(l.foldl (fun o v=>Wa_ ps f v.toNat (D.getD k 0+X2_ p) o) o).getD j 0=o.getD j 0)/\∀v∈l,∀j,Und ps v.toNat j->(l.foldl (fun o v=>Wa_ ps f v.toNat (D.getD k 0+X2_ p) o) o).getD j 0=D.getD j 0:=by
   intro l
   induction l with
   |nil=>intro o _ d;exact⟨d,fun j=>.inr rfl,fun v r=>by cases r⟩
   |cons v l x=>
    intro o hs d;have r:=hs v (by simp);have B:=s v r;have i:D.getD k 0+X2_ p=D.getD v.toNat 0:=(hD.2.2.2 k p (Nat.zero_le _) q v r).symm;obtain⟨i1,i2,i3⟩:=ih v.toNat o oo oo d;rw[<-i]at i1 i2 i3;obtain⟨j1,j2,j3⟩:=x (Wa_ ps f v.toNat (D.getD k 0+X2_ p) o) (fun u b=>hs u (List.mem_cons_of_mem _ b)) i1;rw[List.foldl_cons];refine⟨j1,fun j=>?_,fun u b j n=>?_⟩
    ·rcases j2 j with h|h
     ·exact .inl h
     ·rw[h];exact i2 j
    ·rcases List.mem_cons.1 b with rfl|b
     ·rcases j2 j with h|h
      ·exact h
      ·rw[h];exact i3 j n
     ·exact j3 u b j n
  obtain⟨k1,k2,k3⟩:=y p.kids (o.set k (D.getD k 0)) (fun v h=>h) (by rw[List.length_set];exact d);have a:∀j,(o.set k (D.getD k 0)).getD j 0=if j=k then D.getD k 0 else o.getD j 0:=fun j=>by
   by_cases c:j=k
   ·subst c;rw[if_pos rfl,List.getD_eq_getElem?_getD,List.getElem?_set_self oo];rfl
   ·rw[if_neg c,List.getD_eq_getElem?_getD,List.getElem?_set_ne oo,List.getD_eq_getElem?_getD]
  refine⟨k1,fun j=>?_,fun j n=>?_⟩
  ·rcases k2 j with h|h
   ·exact .inl h
   ·rw[h,a j];split
    ·next h2=>subst h2;exact .inl rfl
    ·exact .inr rfl
  ·cases n with
   |refl=>
    rcases k2 k with h|h
    ·exact h
    ·rw[h,a k,if_pos rfl]
   |kid g t b=>
    rw[q]at g;obtain rfl:=Option.some.inj g;exact k3 _ t j (by rw[Int.toNat_natCast];exact b)
theorem QfQ_ {ps:List PN} (h:KL_ ps=true):Wa_ ps ps.length (ps.length - 1) 0 (List.replicate ps.length 0)=blkV ps:=by
 obtain⟨m,b,_,c,hu⟩:=Zx_ h;have a:=z4_ c b hu;have h0:=a.2.1;rw[b,Nat.add_sub_cancel];obtain⟨h1,_,h3⟩:=Qcn_ c b a (m+1) m (List.replicate (m+1) 0) oo (Nat.le_refl _) (by simp);rw[h0]at h1 h3;refine List.ext_getElem? (fun j=>?_);by_cases hj:j < m+1
 ·have h4:=h3 j (Qgs_ c b hu (m - j) j oo);rw[List.getD_eq_getElem?_getD,List.getD_eq_getElem?_getD,List.getElem?_eq_getElem oo,List.getElem?_eq_getElem (by rw[a.1];exact hj)]at h4;rw[List.getElem?_eq_getElem oo,List.getElem?_eq_getElem (by rw[a.1];exact hj)];simpa using h4
 ·rw[List.getElem?_eq_none oo,List.getElem?_eq_none (by rw[a.1];omega)]
theorem qv_ {w:World} {g n k:Nat} {o:LI} {x:Int} (h:Own w g 3 n (Qa_ o)) (hl:o.length=n) (hk:k < n):Own (w.setCell ⟨g,k,none⟩ (.int .i64 x)) g 3 n (Qa_ (o.set k x)):=by
 have:=h.put (i:=k) (by simp[Qa_,hl];exact hk) (.int .i64 x);unfold Qa_ at this |-
 rw[List.map_set];exact this
theorem Qee_ (ps:List PN):∀(f k:Nat) (x:Int) (o:LI),(Wa_ ps f k x o).length=o.length:=by
 intro f
 induction f with
 |zero=>intro k x o;rfl
 |succ f ih=>
  intro k x o;unfold Wa_
  cases ps[k]? with
  |none=>rfl
  |some p=>
   have b:∀(l:LI) (o:LI),(l.foldl (fun o v=>Wa_ ps f v.toNat (x+X2_ p) o) o).length=o.length:=by
    intro l
    induction l with
    |nil=>intro o;rfl
    |cons v l a=>intro o;rw[List.foldl_cons,a,ih]
   dsimp only;rw[b,List.length_set]
def BlkC (w0:World) (A:OA) (n c g:Nat) (ps:List PN) (f:Nat):Prop:=
 ∀(k:Nat) (x:Int) (o:LI) (W:World),k < f->k < n->o.length=n->0<=x->x+f<=1000->Below w0.heap.size w0 W->Own W g 3 n (Qa_ o)->
  Calls prog 29 #[.slice A n c,.int .i64 k,.int .i64 x,.slice (some ⟨g,0,none⟩) n n] W fun e w'=>e=.returned (.tuple #[])/\Below w0.heap.size w0 w'/\Own w' g 3 n (Qa_ (Wa_ ps f k x o))
theorem ze_ (w0:World) (A:OA) (n c g:Nat) (ps:List PN) (U:Nps w0 A n ps) (hg:Good ps) (ar:w0.heap.size<=g) (hn:n<=300) (f:Nat) (hC:BlkC w0 A n c g ps f):BlkC w0 A n c g ps (f+1):=by
 intro k x o W aI F ho aJ aK hb I;obtain⟨p,hp⟩:=U.get F;obtain⟨af,S⟩:=hg k p hp;obtain⟨y,hy⟩:=ex_ (x+X2_ p);obtain⟨ks,M⟩:=ex_ p.kids;obtain⟨s,T⟩:=ex_ ks.length;obtain⟨G,hG⟩:=ex_ (fun i=>(ks.take i).foldl (fun o v=>Wa_ ps f v.toNat y o) (o.set k x));have HE:=hid (show Wa_ ps (f+1) k x o=G s by
  conv=>lhs;unfold Wa_
  rw[hp,<-hG];dsimp only;rw[hy,M,<-T,List.take_length])
 have X:=hid (show G 0=o.set k x by rw[<-hG];rfl);have Z:=hid (show ∀(i:Nat) (v:Int),ks[i]? =some v->G (i+1)=Wa_ ps f v.toNat y (G i)from fun i v J=>by
  rw[<-hG];dsimp only;rw[List.take_add_one,J,Option.toList_some,List.foldl_append]
  rfl)
 have Y:=hid (show ∀i,(G i).length=n from fun i=>by
  rw[<-hG];have aD:∀(l:LI) (o:LI),(l.foldl (fun o v=>Wa_ ps f v.toNat y o) o).length=o.length:=by
   intro l
   induction l with
   |nil=>intro o;rfl
   |cons v l aC=>intro o;rw[List.foldl_cons,aC,Qee_]
  dsimp only;rw[aD,List.length_set,ho])
 rw[M]at S af;have ab:=hid S;have ac:=hid U;have HC:=hid hC;have HP:=hid hp;have aa:=hid M;have L:=hid T;have aF:(k:Int) < (n:Int):=oo;have ax:s<=12:=oo;have aG:=hid hb;have z:=hid (qv_ (x:=x) I ho F);obtain⟨u0,ay⟩:=I.there F;have az:=I.frozen;have aA:=I.lt;rw[HE.o];have t:=hid (hb.setCell (show w0.heap.size<=(⟨g,k,none⟩:Addr).block from ar) (.int .i64 x));clear U hg hC hp M T hG hb I S HE;have av:=vq_ p;go_enter func29,ntmps29;go_upto_region 1 with fail
 clear u0 ay az aA;generalize W.setCell ⟨g,k,none⟩ (.int .i64 x)=W1 at t z |-
 obtain⟨b,off,A',c',rfl,N,x0,aE,x2,x3,_,_⟩:=(ac.o.below t.o).atc F HP.o;have HY:Hid (y=if (p.kind==18)=true then x+1 else x):=(show y=if (p.kind==18)=true then x+1 else x by
  rw[<-hy];unfold X2_;split<;>omega)
 clear aE x2 x3 hy av;have V:=hid (fun(wr:World) (h:Below w0.heap.size w0 wr)=>(ac.o.below h).atc F HP.o);have aH:(x+1)+(f:Int)<=1000:=oo;rcases bft (p.kind==18)with g1|g1
 ·rw[g1,if_pos rfl]at HY;obtain rfl:=HY.o;go_upto_region 3 with fail
  clear x0 N;go_wp2;go_loopw [8] (fun i wr=>∃j:Nat,j<=s/\i=.int .i64 j/\Hid (Below w0.heap.size w0 wr)/\Hid (Own wr g 3 n (Qa_ (G j)))) (fun i _=>s - (intOf i).toNat)
  case atStart=>exact⟨0,Nat.zero_le _,rfl,t,by rw[X.o];exact z⟩
  case round=>
   clear t z;obtain⟨j,hj,rfl,d,B⟩:=hrel;obtain⟨b',ag,A2,c2,R,m,y0,y1,y2,y3,_,a⟩:=V.o wr d.o;injection R with R;injection R with e81 e82;subst e81;subst e82;rw[aa.o,L.o]at y2 a;by_cases E:j < s
   ·obtain⟨v,J⟩:∃v,ks[j]? =some v:=⟨_,gE (by rw[L.o];exact E)⟩;have K:=ab.o v (List.mem_of_getElem? J);obtain⟨q,rfl⟩:=Int.eq_ofNat_of_zero_le K.1;obtain⟨b7,ah,rfl,r,c7⟩:=Ql_ a E J;have ae:(j:Int) < (s:Int):=oo;have C:=hid (Z.o j _ J);rw[Int.toNat_natCast]at C;have P:=hid (HC.o q (x+1) (G j) wr oo oo (Y.o j) oo oo d.o B.o);rw[<-C.o]at P;clear J K a y0 y1 y3;go_wp2_with fail
    refine P.o.mono ?_;rintro e w2 ⟨rfl,D,H⟩;have O:=hid D;have Q:=hid H;clear D H y2 m c7 r P;go_wp2;go_roundw
    case rel=>exact⟨j+1,oo,by go_num,O,Q⟩
    case measure=>simp[intOf];omega
   ·obtain rfl:j=s:=oo;clear y0 y1 y3 a;go_wp2;go_end0;exact⟨rfl,d.o,B.o⟩
 ·rw[g1,if_neg (by decide)]at HY;obtain rfl:=HY.o;go_upto_region 3 with fail
  clear x0 N;go_wp2;go_loopw [8] (fun i wr=>∃j:Nat,j<=s/\i=.int .i64 j/\Hid (Below w0.heap.size w0 wr)/\Hid (Own wr g 3 n (Qa_ (G j)))) (fun i _=>s - (intOf i).toNat)
  case atStart=>exact⟨0,Nat.zero_le _,rfl,t,by rw[X.o];exact z⟩
  case round=>
   clear t z;obtain⟨j,hj,rfl,d,B⟩:=hrel;obtain⟨b',ag,A2,c2,R,m,y0,y1,y2,y3,_,a⟩:=V.o wr d.o;injection R with R;injection R with e81 e82;subst e81;subst e82;rw[aa.o,L.o]at y2 a;by_cases E:j < s
   ·obtain⟨v,J⟩:∃v,ks[j]? =some v:=⟨_,gE (by rw[L.o];exact E)⟩;have K:=ab.o v (List.mem_of_getElem? J);obtain⟨q,rfl⟩:=Int.eq_ofNat_of_zero_le K.1;obtain⟨b7,ah,rfl,r,c7⟩:=Ql_ a E J;have ae:(j:Int) < (s:Int):=oo;have C:=hid (Z.o j _ J);rw[Int.toNat_natCast]at C;have P:=hid (HC.o q y (G j) wr oo oo (Y.o j) oo oo d.o B.o);rw[<-C.o]at P;clear J K a y0 y1 y3;go_wp2_with fail
    refine P.o.mono ?_;rintro e w2 ⟨rfl,D,H⟩;have O:=hid D;have Q:=hid H;clear D H y2 m c7 r P;go_wp2;go_roundw
    case rel=>exact⟨j+1,oo,by go_num,O,Q⟩
    case measure=>simp[intOf];omega
   ·obtain rfl:j=s:=oo;clear y0 y1 y3 a;go_wp2;go_end0;exact⟨rfl,d.o,B.o⟩
theorem gPow:prog.globalNamed "internal/strconv.uint64pow10" =some 1:=by kernel_rfl
def Tab (w:World):Prop:=Lib.TabIs prog w "internal/strconv.uint64pow10" .u64 Lib.pow10Tab
section
variable {w w' w2:World} {o o':Obj}
theorem Tab.next (h:Tab w) (hb:Below w.heap.size w w'):Tab w':=Joins.tab_stays gPow h hb (Nat.le_refl _)
theorem Tab.alloc (h:Tab w) (o:Obj):Tab (w.alloc o):=h.next (br.alloc (Nat.le_refl _) o)
theorem Tab.next1 (h:Tab w) (hb:Below (w.alloc o).heap.size (w.alloc o) w2):Tab w2:=(h.alloc o).next hb
theorem Tab.next2 (h:Tab w) (hb:Below ((w.alloc o).alloc o').heap.size ((w.alloc o).alloc o') w2):Tab w2:=((h.alloc o).alloc o').next hb
theorem Tab.drewN (h:Tab w) (k:Nat):Tab (w.drewN k):=h
theorem Tab.drew (h:Tab w):Tab w.drew:=h
end
def WZ_ (n:Int):BA:=⟨(Lib.itoa n).toArray⟩
theorem XK_ (n:Int) (w:World) (h0: -9223372036854775808<=n) (h1:n<=9223372036854775807) (ht:Tab w):
  Calls prog 32 #[.int .i64 n] w fun e w'=>e=.returned (.string (WZ_ n))/\Below w.heap.size w w':=by
 go_enter func32,ntmps32;go_wp2_with fail
 refine(Tryz.strconv_Itoa n h0 h1 _ ht).mono ?_;rintro e w2 ⟨rfl,k,os,rfl⟩;go_wp2;go_ret;exact⟨rfl,Lib.below_grow _ _ (Nat.le_refl _) _ _⟩
def Qa4_ (q:Nat):List UInt8:=if q=0 then []else Lib.decDigits q
theorem Qa5_ {q:Nat} (h:0 < q):Qa4_ q=Qa4_ (q / 10)++[UInt8.ofNat (48+q % 10)]:=by
 unfold Qa4_;rw[if_neg oo];by_cases a:q < 10
 ·rw[if_pos oo,Lib.decDigits_one a,Nat.mod_eq_of_lt a];rfl
 ·rw[if_neg oo,Lib.decDigits,dif_neg a]
def WY_ (k q:Nat) (a:BA):Prop:=Lib.decDigits k=Qa4_ q++a.data.toList
theorem v8_ {k q:Nat} {a:BA} (h:WY_ k q a) (hq:0 < q):WY_ k (q / 10) ((⟨#[48+UInt8.ofNat (q % 10)]⟩:BA)++a):=by
 unfold WY_ at h |-
 rw[h,Qa5_ hq,QgG_,List.append_assoc];congr 1;rw[show(48+UInt8.ofNat (q % 10):UInt8)=UInt8.ofNat (48+q % 10)by rw[UInt8.ofNat_add];rfl]
theorem QbU_ {k:Nat} {a:BA} (h:WY_ k 0 a):WZ_ k=a:=by
 unfold WY_ Qa4_ at h;refine kd_ ?_;rw[if_pos rfl,List.nil_append]at h;rw[<-h,WZ_,Lib.itoa_nonneg]
theorem v7_ {k q:Nat} {a:BA} (h:WY_ k q a) (hk:k<=9223372036854775807):a.size<=21:=by
 have h1:=Lib.itoa_length_le (k:Int) oo oo;rw[Lib.itoa_nonneg]at h1;unfold WY_ at h;have h2:=congrArg List.length h;rw[lA,Qz_]at h2;omega
theorem Qac_ (d:Int) (w:World) (h0:0<=d) (h1:d < 10):Calls prog 63 #[.int .i64 d] w fun e w'=>e=.returned (.int .u8 (48+d))/\w=w':=by
 go_enter func63,ntmps63;go_wp2;go_ret;exact⟨rfl,rfl⟩
theorem WL_ (k:Nat) (w:World) (h1:k<=9223372036854775807):
  Calls prog 30 #[.int .i64 (k:Int)] w fun e w'=>e=.returned (.string (WZ_ k))/\Below w.heap.size w w':=by
 by_cases hk:k=0
 ·subst hk;have HE:=hid (show WZ_ (0:Nat)=⟨#[48]⟩by rw[WZ_,Lib.itoa_nonneg,Lib.decDigits_one oo];rfl);go_enter func30,ntmps30;go_wp2;go_ret;exact⟨XP_ HE.o.symm,grow_⟩
 ·have j:0 < k:=oo;have l:((k:Int)==0)=false:=by rw[beq_eq_false_iff_ne];omega
  have g:=hid (show WY_ k k ⟨#[]⟩by unfold WY_ Qa4_;rw[if_neg oo];simp);clear hk;go_enter func30,ntmps30;go_wp2;go_loopw [0,4,5] (fun a o d wr=>∃(q:Nat) (f:BA),q<=k/\Hid (WY_ k q f)/\a=.int .i64 q/\o=.string f/\Below w.heap.size w wr) (fun a _ _ _=>(intOf a).toNat)
  case atStart=>exact⟨k,⟨#[]⟩,Nat.le_refl _,g,rfl,rfl,br⟩
  case round=>
   obtain⟨q,f,r,b,rfl,rfl,hb⟩:=hrel;have h:=v7_ b.o h1;by_cases hq:0 < q
   ·have c:=hid (v8_ b.o hq);have p:((q:Int) != 0)=true:=(by rw[bne_iff_ne];omega);have m:(0:Int)<=(q:Int) % 10:=oo;have n:(q:Int) % 10 < 10:=oo;have i:=fun W=>vi_ W q
    have hz:=hb.size;go_wp2_with (go_at_call 63;refine(Qac_ _ _ oo oo).mono ?_;rintro e w2 ⟨rfl,rfl⟩)
    go_roundw
    case rel=>exact⟨q / 10,_,oo,c,by go_num,rfl,grow_⟩
    case measure=>simp[intOf];omega
   ·obtain rfl:q=0:=oo;have c:=hid (QbU_ b.o);go_wp2;go_ret;exact⟨XP_ c.o.symm,hb⟩
theorem XR_ (n:Int) (w:World) (h0:0<=n) (h1:n<=9223372036854775807):
  Calls prog 30 #[.int .i64 n] w fun e w'=>e=.returned (.string (WZ_ n))/\Below w.heap.size w w':=by
 obtain⟨k,rfl⟩:=Int.eq_ofNat_of_zero_le h0;exact WL_ k w oo
open Go.ChangeShapes Go.WideShapes Go.ChangeAt Go.RowKit
theorem Qf8_:(Rows.laid_internal_strconv_uint64pow10:DataW Unit)=Lib.tabData .u64 Lib.pow10Tab:=by
 unfold Rows.laid_internal_strconv_uint64pow10 Lib.tabData Lib.pow10Tab
 rfl
theorem maxLenCell {W:World} (h:W.ShapedOpen prog):∃m,W.cell? ⟨0,0,none⟩=some (.int .i64 m):=
 cell_of_shapedOpen_int (t:=3) (zero:=#[.int .i64 0]) h (of_decide_eq_true (by kernel_rfl)) (by kernel_rfl) rfl (by kernel_rfl) (by kernel_rfl) underlying3
theorem tab_of_laidT {W:World} (h:laidMetH prog Rows.fnExactFindDeepRow.laid W):Tab W:=by
 rw[MakeChecks.laidMetH_plain _ _ _ (by kernel_rfl)]at h;have h2:=laidMet.tail (laidMet.tail h);rw[Qf8_]at h2;exact Lib.tabIs_of_head (n:=20) (e:=148) (t:=163) gPow (by kernel_rfl) underlying163 underlying148 (by kernel_rfl) (by kernel_rfl) h2
theorem qB_ (w0:World) (A:OA) (n c g:Nat) (ps:List PN) (b:Nps w0 A n ps) (hg:Good ps) (a:w0.heap.size<=g) (hn:n<=300):∀f,BlkC w0 A n c g ps f:=by
 intro f
 induction f with
 |zero=>intro k x o W h;omega
 |succ f ih=>exact ze_ w0 A n c g ps b hg a hn f ih
def YX_ (p:PN):Bool:=(p.kind==16)||(p.kind==17)
def XF_ (t:BA) (ps:List PN) (D:LI) (most:Int):Nat->List FindingD
 |0=>[]
 |k+1=>XF_ t ps D most k++(match ps[k]? with|none=>[]|some p=>if (YX_ p&&decide (most < D.getD k 0))=true then [(3,KS_ t (Q3_ ps k),WZ_ (D.getD k 0))]else [])
def XV_ (t:BA) (most:Int):List FindingD:=match KF_ t with|none=>[]|some ps=>XF_ t ps (blkV ps) most ps.length
section
variable {t:BA} {ps:List PN} {D:LI} {most:Int} {k:Nat} {p:PN}
theorem zr_ (h:ps[k]? =some p) (hp:YX_ p=true) (hd:most < D.getD k 0):XF_ t ps D most (k+1)=XF_ t ps D most k++[(3,KS_ t (Q3_ ps k),WZ_ (D.getD k 0))]:=by
 rw[XF_,h];simp only[hp,decide_eq_true hd,Bool.and_self,if_true]
theorem km_ (h:ps[k]? =some p) (hp:(YX_ p&&decide (most < D.getD k 0))=false):XF_ t ps D most (k+1)=XF_ t ps D most k:=by
 rw[XF_,h];simp only[hp,Bool.false_eq_true,if_false,List.append_nil]
theorem Gk_:∀k,(XF_ t ps D most k).length<=k:=by
 intro k
 induction k with
 |zero=>simp[XF_]
 |succ k ih=>
  rw[XF_,lA];split
  ·simp;omega
  ·split<;>simp<;>omega
end
theorem ks_ (t:BA) (most:Int):(XV_ t most).length<=300:=by
 unfold XV_;split
 ·simp
 ·next ps h=>exact Nat.le_trans (Gk_ _) (QU_ h).2.1
theorem WN_ (t:BA) (most:Int) (w:World) (ht:t.size<=1048576) (h:KF_ t=none):Calls prog 14 #[.string t,.int .i64 most] w (Kj_ w []):=by
 have b:=hid (fun W=>Zb_ t W ht);unfold SRd at b;rw[h]at b;unfold Kj_;go_enter func14,ntmps14;go_wp2_with fail
 refine(b.o _).mono ?_;rintro e w1 ⟨h1,g,p,rfl,a⟩;have M0:=hid (show Mine w1 w.heap.size 41 3 (some ⟨w.heap.size,0,none⟩) 0 0 []from Mine.next (QI_ w 41 3) h1);have hb:=QA_ br h1;clear h1 a b;go_wp2;go_ret;exact⟨_,_,rfl,M0.o,hb⟩
theorem Uq_ (t:BA) (most:Int) (w:World) (ht:t.size<=1048576) (ps:List PN) (h:KF_ t=some ps):Calls prog 14 #[.string t,.int .i64 most] w (Kj_ w (XF_ t ps (blkV ps) most ps.length)):=by
 obtain⟨i0,hi,aQ,aR,aS⟩:=info_parts Kl_;have G:=hid (And.intro hi (And.intro aQ (And.intro aR aS)));obtain⟨j0,hj,aN,aO,aP⟩:=info_parts QB_;have HR:=hid (fun W=>Zb_ t W ht);unfold SRd at HR;rw[h]at HR;dsimp only at HR;have aA:=hid (fun(A:OA) (n c:Nat) (k:Int) (W:World) h1 V h3=>XZ_ t A n c ps k W ht h1 V h3);have aD:=hid (QU_ h).2.2;have aq:=(QU_ h).1;obtain⟨m,hm,a8,hg,hu⟩:=Zx_ aq;have hD:=z4_ hg hm hu;have O:=QfQ_ aq;obtain⟨D,aI⟩:=ex_ (blkV ps);rw[aI]at hD O |-
 have aU:=hid hD.2.2.1;have aj:=hid hD.1;rw[hm]at HR O |-
 rw[Nat.add_sub_cancel]at O;obtain⟨F,hF⟩:=ex_ (XF_ t ps D most);have aE:=hid (show ∀(k:Nat) (p:PN),ps[k]? =some p->YX_ p=true->most < D.getD k 0->F (k+1)=F k++[(3,KS_ t (Q3_ ps k),WZ_ (D.getD k 0))]from fun k p h1 V h3=>by rw[<-hF];exact zr_ h1 V h3);have ak:=hid (show ∀(k:Nat) (p:PN),ps[k]? =some p->(YX_ p&&decide (most < D.getD k 0))=false->F (k+1)=F k from fun k p h1 V=>by rw[<-hF];exact km_ h1 V);have aX:=hid (show ∀k,(F k).length<=k from fun k=>by rw[<-hF];exact Gk_ k);have HZ:=hid (show F 0=[]by rw[<-hF];rfl);rw[hF];have ad:=fun W=>QK_ (P:=prog) 34 3 j0 _ underlying34 hj aN .i64 .i64 (m+1) (m+1) (Nat.le_refl _) (by rw[aP];omega) oo W
 rw[aO,Nat.mul_one]at ad;simp only[Value.cells]at ad;have e9:((m+1:Nat):Int)=(m:Int)+1:=oo;have e8:(m:Int)+1 - 1=(m:Int):=oo;rw[e9]at ad;have HG:=hid hg;have aV:=hid O;unfold Kj_;clear hi aQ aR aS hj aN aO aP hF h aq hg hu hD O aI hm;go_enter func14,ntmps14;go_wp2_with fail
 refine(HR.o _).mono ?_;rintro e w1 ⟨h1,AN,cN,rfl,S⟩;have aB:=hid (show Mine w1 w.heap.size 41 3 (some ⟨w.heap.size,0,none⟩) 0 0 []from Mine.next (QI_ w 41 3) h1);have aC:=hid (S.more (show w.heap.size<=_ by simp));have ah:=hid (QA_ br h1);have ai:=hid (qB_ w1 AN (m+1) cN w1.heap.size ps S.nps HG.o (Nat.le_refl _) a8 (m+1) m 0 (List.replicate (m+1) 0) (w1.alloc (.cells (madeCells #[.int .i64 0] (m+1)) 3)) oo oo (by simp) oo oo bra (Own.zeros (m+1)));rw[aV.o]at ai;clear S h1 HR;go_wp2_with fail
 refine ai.o.mono ?_;rintro e w2 ⟨rfl,V,aL⟩;clear ad;have aH:Mine w2 w.heap.size 3 1 (some ⟨w1.heap.size,0,none⟩) D.length (m+1) (Qa_ D):=Mine.mk_own (by rw[Nat.mul_one];exact aL) (by simp[Qa_]) ah.o.size (by rw[aj.o];exact Nat.le_refl _) (by unfold maxLen;omega);have az:Hid (SF w AN (m+1) cN ps (some ⟨w1.heap.size,0,none⟩) (m+1) D none 0 [] (some ⟨w.heap.size,0,none⟩) 0 [] w2):=(show SF w AN (m+1) cN ps (some ⟨w1.heap.size,0,none⟩) (m+1) D none 0 [] (some ⟨w.heap.size,0,none⟩) 0 [] w2 from⟨aC.o.next V,aH,Mine.mk_nil _ _ _ _,aB.o.next V,Qb_ ah.o V⟩);clear V aL aH aB aC ah ai;go_wp2;go_loopw [5,10] (fun o i wr=>∃(k:Nat) (A:OA) (c:Nat),k<=m+1/\i=.int .i64 k/\o=.slice A (F k).length c/\Hid (SF w AN (m+1) cN ps (some ⟨w1.heap.size,0,none⟩) (m+1) D none 0 [] A c (F k) wr)) (fun _ i _=>m+1 - (intOf i).toNat)
 case atStart=>
  refine⟨0,some ⟨w.heap.size,0,none⟩,0,Nat.zero_le _,rfl,?_,?_⟩
  all_goals rw[HZ.o]
  ·rfl
  ·exact az
 case round=>
  clear az;obtain⟨k,A,c,hk,rfl,rfl,a⟩:=hrel;have aK:=aX.o k;obtain⟨fs,ao⟩:=ex_ (F k);have C:=hid ao;rw[ao]at a aK |-
  obtain⟨n1,ap⟩:=ex_ fs.length;have y:=hid ap;rw[ap]at aK |-
  clear ap ao;by_cases ac:k < m+1
  ·obtain⟨p1,z⟩:=a.o.1.nps.get ac;obtain⟨d,hd⟩:∃d,D[k]? =some d:=⟨_,gE (by rw[aj.o];exact ac)⟩;have v:D.getD k 0=d:=(by rw[List.getD_eq_getElem?_getD,hd];rfl);have a5:=aU.o k oo;rw[v]at a5;obtain⟨b7,a9,e7,q,c7⟩:=Ql_ a.o.2.1.rd (by rw[aj.o];exact ac) hd;injection e7 with e7;injection e7 with e71 e72;subst e71;subst e72;simp only[Nat.zero_add]at c7;obtain⟨b,off,A2,c2,rfl,af,x0,x1,x2,x3,_,_⟩:=a.o.1.nps.atc ac z;have ba:(k:Int) < (m:Int)+1:=oo;clear x1 x2 x3;rcases bft (p1.kind==16)with g1|g1
   ·have E:YX_ p1=true:=(by unfold YX_;rw[g1];rfl);by_cases H:most < d
    ·have j:=hid (aE.o k p1 z E (by rw[v];exact H));rw[v,C.o]at j;clear z v hd E;have Y:=hid a.o.2.2.2.1;rw[y.o]at Y;have a4:=a.o.2.2.2.2.size;have X:=hid (fun(W:World) (h:Below wr.heap.size wr W)=>aA.o (some ⟨b,off,none⟩) (m+1) cN k W oo (a.o.next h).1.nps aD);have B:=hid (fun(W:World)=>XR_ d W oo oo);obtain⟨L,hL⟩:=ex_ (KS_ t (Q3_ ps k));obtain⟨I,Q⟩:=ex_ (WZ_ d);rw[hL]at X j;rw[Q]at B j;clear hL Q;go_upto_region 11 with fail
     clear x0 af;go_region_law (first
      |(
        have _s:=S5;refine step_append_lies _ rfl (.tmp 58) (.tmp 69) 22 rfl w.heap.size 41 i0 (.agg #[.int .i64 0,.int .i64 0,.string ⟨#[]⟩]) 3 32 underlying22 G.o.1 G.o.2.1 G.o.2.2.1 G.o.2.2.2 rfl (by decide) (.slice A n1 c) n1 (fs.flatMap Qc_) (by first|(simp[Act.eval];done)|(simp[Act.eval,Act.put];done)|rfl) (by first|exact(Mine.alloc Z.o _).drew|exact Mine.alloc Z.o _) ⟨U.heap.size,0,none⟩ 1 1 [.int .i64 3,.int .i64 L,.string I] (by first|(simp[Act.eval];done)|(simp[Act.eval,Act.put];done)|rfl) (by rfl) (World.news_of_block (cs:=#[.int .i64 3,.int .i64 L,.string I]) (t:=41) (fr:=(0,0)) (heap_alloc_new U _)) (fun x hx=>by simp at hx;rcases hx with rfl|rfl|rfl<;>rfl) (by decide) (by unfold maxLen;omega) oo (by simp;omega) (U.heap.size+1) (by simp) ?_;intro v' cap w6 s r an R;have l:(U.alloc (.cells #[.int .i64 3,.int .i64 L,.string I] 41)).grownBy w6 (Value.slice A n1 c).ownBlock:=(by first|exact r|exact Kw_ r))
      |(
        have _s:=am;refine KY_ rfl 30 func30 (by kernel_rfl) (by kernel_rfl) _ _ rfl #[.int .i64 d] (by first|(simp[Act.eval];done)|(simp[Act.eval,Act.put];done)|rfl) (B.o _) ?_;rintro e U ⟨rfl,N⟩;refine⟨_,rfl,?_⟩;have g:=Qb_ f (by first|exact N|exact(Below.refl _ T).drew.trans N);have K:=((QE_ g).1 _ _ q).trans c7;have av:=g.size;have S5:=hid (a.o.next g);have Z:=hid (Y.o.next g))
      |(
        have _s:=al;refine KY_ rfl 20 func20 (by kernel_rfl) (by kernel_rfl) _ _ rfl #[.string t,.slice (some ⟨b,off,none⟩) (m+1) cN,.int .i64 k] (by first|(simp[Act.eval];done)|(simp[Act.eval,Act.put];done)|rfl) (X.o _ (by first|exact f|exact f.drew)) ?_;rintro e U ⟨rfl,N⟩;refine⟨_,rfl,?_⟩;have g:=Qb_ f (by first|exact N|exact(Below.refl _ T).drew.trans N);have K:=((QE_ g).1 _ _ q).trans c7;have av:=g.size;have S5:=hid (a.o.next g);have Z:=hid (Y.o.next g))
      |(
        refine KY_ rfl 20 func20 (by kernel_rfl) (by kernel_rfl) _ _ rfl #[.string t,.slice (some ⟨b,off,none⟩) (m+1) cN,.int .i64 k] (by first|(simp[Act.eval];done)|(simp[Act.eval,Act.put];done)|rfl) (X.o _ (by first|exact br|exact br.drew)) ?_;rintro e T ⟨rfl,M⟩;refine⟨_,rfl,?_⟩;have f:Below wr.heap.size wr T:=(by first|exact M|exact(Below.refl _ wr).drew.trans M);have J:=((QE_ f).1 _ _ q).trans c7;have ar:=f.size;have am:=True.intro)
      |(
        refine KY_ rfl 30 func30 (by kernel_rfl) (by kernel_rfl) _ _ rfl #[.int .i64 d] (by first|(simp[Act.eval];done)|(simp[Act.eval,Act.put];done)|rfl) (B.o _) ?_;rintro e T ⟨rfl,M⟩;refine⟨_,rfl,?_⟩;have f:Below wr.heap.size wr T:=(by first|exact M|exact(Below.refl _ wr).drew.trans M);have J:=((QE_ f).1 _ _ q).trans c7;have ar:=f.size;have al:=True.intro))
     all_goals
      rw[<-y.o]at s l;obtain⟨A6,c6,ev,h6⟩:=SF.find (S5.o.alloc (.cells #[.int .i64 3,.int .i64 L,.string I] 41)) s l;injection ev with ev1 ev2 ev3;subst ev1;subst ev3;have S6:=hid h6;clear s r l an R h6 Z S5 Y a X B J K f g;go_wp2;go_roundw
      case rel=>exact⟨k+1,_,_,oo,by go_num,by rw[j.o,lA,<-y.o];rfl,by rw[j.o];exact S6⟩
      case measure=>simp[intOf];omega
    ·have j:=hid (ak.o k p1 z (by rw[E,v,Bool.true_and];exact decide_eq_false H));clear z v hd E;go_wp2;go_roundw
     case rel=>exact⟨k+1,A,c,oo,by go_num,by rw[j.o,C.o,y.o],by rw[j.o,C.o];exact a⟩
     case measure=>simp[intOf];omega
   ·rcases bft (p1.kind==17)with g2|g2
    ·have E:YX_ p1=true:=(by unfold YX_;rw[g2,Bool.or_true]);by_cases H:most < d
     ·have j:=hid (aE.o k p1 z E (by rw[v];exact H));rw[v,C.o]at j;clear z v hd E;have Y:=hid a.o.2.2.2.1;rw[y.o]at Y;have a4:=a.o.2.2.2.2.size;have X:=hid (fun(W:World) (h:Below wr.heap.size wr W)=>aA.o (some ⟨b,off,none⟩) (m+1) cN k W oo (a.o.next h).1.nps aD);have B:=hid (fun(W:World)=>XR_ d W oo oo);obtain⟨L,hL⟩:=ex_ (KS_ t (Q3_ ps k));obtain⟨I,Q⟩:=ex_ (WZ_ d);rw[hL]at X j;rw[Q]at B j;clear hL Q;go_upto_region 11 with fail
      clear x0 af;go_region_law (first
       |(
         have _s:=S5;refine step_append_lies _ rfl (.tmp 58) (.tmp 69) 22 rfl w.heap.size 41 i0 (.agg #[.int .i64 0,.int .i64 0,.string ⟨#[]⟩]) 3 32 underlying22 G.o.1 G.o.2.1 G.o.2.2.1 G.o.2.2.2 rfl (by decide) (.slice A n1 c) n1 (fs.flatMap Qc_) (by first|(simp[Act.eval];done)|(simp[Act.eval,Act.put];done)|rfl) (by first|exact(Mine.alloc Z.o _).drew|exact Mine.alloc Z.o _) ⟨U.heap.size,0,none⟩ 1 1 [.int .i64 3,.int .i64 L,.string I] (by first|(simp[Act.eval];done)|(simp[Act.eval,Act.put];done)|rfl) (by rfl) (World.news_of_block (cs:=#[.int .i64 3,.int .i64 L,.string I]) (t:=41) (fr:=(0,0)) (heap_alloc_new U _)) (fun x hx=>by simp at hx;rcases hx with rfl|rfl|rfl<;>rfl) (by decide) (by unfold maxLen;omega) oo (by simp;omega) (U.heap.size+1) (by simp) ?_;intro v' cap w6 s r an R;have l:(U.alloc (.cells #[.int .i64 3,.int .i64 L,.string I] 41)).grownBy w6 (Value.slice A n1 c).ownBlock:=(by first|exact r|exact Kw_ r))
       |(
         have _s:=am;refine KY_ rfl 30 func30 (by kernel_rfl) (by kernel_rfl) _ _ rfl #[.int .i64 d] (by first|(simp[Act.eval];done)|(simp[Act.eval,Act.put];done)|rfl) (B.o _) ?_;rintro e U ⟨rfl,N⟩;refine⟨_,rfl,?_⟩;have g:=Qb_ f (by first|exact N|exact(Below.refl _ T).drew.trans N);have K:=((QE_ g).1 _ _ q).trans c7;have av:=g.size;have S5:=hid (a.o.next g);have Z:=hid (Y.o.next g))
       |(
         have _s:=al;refine KY_ rfl 20 func20 (by kernel_rfl) (by kernel_rfl) _ _ rfl #[.string t,.slice (some ⟨b,off,none⟩) (m+1) cN,.int .i64 k] (by first|(simp[Act.eval];done)|(simp[Act.eval,Act.put];done)|rfl) (X.o _ (by first|exact f|exact f.drew)) ?_;rintro e U ⟨rfl,N⟩;refine⟨_,rfl,?_⟩;have g:=Qb_ f (by first|exact N|exact(Below.refl _ T).drew.trans N);have K:=((QE_ g).1 _ _ q).trans c7;have av:=g.size;have S5:=hid (a.o.next g);have Z:=hid (Y.o.next g))
       |(
         refine KY_ rfl 20 func20 (by kernel_rfl) (by kernel_rfl) _ _ rfl #[.string t,.slice (some ⟨b,off,none⟩) (m+1) cN,.int .i64 k] (by first|(simp[Act.eval];done)|(simp[Act.eval,Act.put];done)|rfl) (X.o _ (by first|exact br|exact br.drew)) ?_;rintro e T ⟨rfl,M⟩;refine⟨_,rfl,?_⟩;have f:Below wr.heap.size wr T:=(by first|exact M|exact(Below.refl _ wr).drew.trans M);have J:=((QE_ f).1 _ _ q).trans c7;have ar:=f.size;have am:=True.intro)
       |(
         refine KY_ rfl 30 func30 (by kernel_rfl) (by kernel_rfl) _ _ rfl #[.int .i64 d] (by first|(simp[Act.eval];done)|(simp[Act.eval,Act.put];done)|rfl) (B.o _) ?_;rintro e T ⟨rfl,M⟩;refine⟨_,rfl,?_⟩;have f:Below wr.heap.size wr T:=(by first|exact M|exact(Below.refl _ wr).drew.trans M);have J:=((QE_ f).1 _ _ q).trans c7;have ar:=f.size;have al:=True.intro))
      all_goals
       rw[<-y.o]at s l;obtain⟨A6,c6,ev,h6⟩:=SF.find (S5.o.alloc (.cells #[.int .i64 3,.int .i64 L,.string I] 41)) s l;injection ev with ev1 ev2 ev3;subst ev1;subst ev3;have S6:=hid h6;clear s r l an R h6 Z S5 Y a X B J K f g;go_wp2;go_roundw
       case rel=>exact⟨k+1,_,_,oo,by go_num,by rw[j.o,lA,<-y.o];rfl,by rw[j.o];exact S6⟩
       case measure=>simp[intOf];omega
     ·have j:=hid (ak.o k p1 z (by rw[E,v,Bool.true_and];exact decide_eq_false H));clear z v hd E;go_wp2;go_roundw
      case rel=>exact⟨k+1,A,c,oo,by go_num,by rw[j.o,C.o,y.o],by rw[j.o,C.o];exact a⟩
      case measure=>simp[intOf];omega
    ·have j:=hid (ak.o k p1 z (by unfold YX_;rw[g1,g2];rfl));clear z v hd;go_wp2;go_roundw
     case rel=>exact⟨k+1,A,c,oo,by go_num,by rw[j.o,C.o,y.o],by rw[j.o,C.o];exact a⟩
     case measure=>simp[intOf];omega
  ·obtain rfl:k=m+1:=oo;go_wp2;go_ret;rw[C.o,y.o];exact⟨A,c,rfl,by rw[<-y.o];exact a.o.2.2.2.1,a.o.2.2.2.2⟩
theorem Up_ (t:BA) (most:Int) (w:World) (ht:t.size<=1048576):Calls prog 14 #[.string t,.int .i64 most] w (Kj_ w (XV_ t most)):=by
 unfold XV_;rcases hr:KF_ t with _|ps
 ·exact WN_ t most w ht hr
 ·exact Uq_ t most w ht ps hr
theorem UL_ (A:OA) (c:Nat) (w:World):Calls prog 31 #[.slice A 0 c] w fun e w'=>∃A',e=.returned (.slice A' 0 0)/\Below w.heap.size w w':=by
 obtain⟨j0,hj,b,d,f⟩:=info_parts QB_;have a:=fun W=>QK_ (P:=prog) 34 3 j0 _ underlying34 hj b .i64 .i64 0 0 (Nat.le_refl _) (by rw[f];omega) oo W
 rw[d,Nat.mul_one]at a;simp only[Value.cells,Int.natCast_zero]at a;clear hj b d f;go_enter func31,ntmps31;go_wp2;go_loopw [4] (fun i wr=>i=.int .i64 (-1)/\Below w.heap.size w wr) (fun i _=>0)
 case atStart=>exact⟨by go_num,grow_⟩
 case round=>
  obtain⟨rfl,hb⟩:=hrel;clear a;go_wp2;go_ret;exact⟨_,rfl,hb⟩
theorem Uh_ (A:OA) (m c:Nat) (ps:List PN) (w:World) (ai:Nps w A (m+1) ps) (hl:ps.length=m+1) (hm:m+1<=300) (hg:Good ps) (hu:Xm_ ps (m+1) m):
  Calls prog 31 #[.slice A (m+1) c] w fun e w'=>e=.returned (.slice (some ⟨w.heap.size,0,none⟩) (m+1) (m+1))/\Own w' w.heap.size 3 (m+1) (Qa_ (blkV ps))/\Below w.heap.size w w':=by
 obtain⟨j0,hj,aj,ak,al⟩:=info_parts QB_;have H:=fun W=>QK_ (P:=prog) 34 3 j0 _ underlying34 hj aj .i64 .i64 (m+1) (m+1) (Nat.le_refl _) (by rw[al];omega) oo W
 rw[ak,Nat.mul_one]at H;simp only[Value.cells]at H;have e9:((m+1:Nat):Int)=(m:Int)+1:=oo;have e8:(m:Int)+1 - 1=(m:Int):=oo;rw[e9]at H;have HI:=hid (fun j=>kf_ hg hl hu j);have HV:=hid (show blkV ps=Ug_ ps (m+1) (m+1)by unfold blkV;rw[hl]);have HS:=hid (show ∀q,q < m+1->Ug_ ps (m+1) (m+1 - q)=kg_ ps (Ug_ ps (m+1) (m+1 - (q+1))) q from fun q hq=>by
  rw[show m+1 - q=(m+1 - (q+1))+1 from oo];show kg_ ps _ (m+1 - 1 - (m+1 - (q+1)))=_;rw[show m+1 - 1 - (m+1 - (q+1))=q from oo])
 have HG:=hid hg;have ac:=hid ai;rw[HV.o];have HZ:=hid (Own.zeros (w:=w) (e:=3) (m+1));clear hj aj ak al hg hu hl ai HV;go_enter func31,ntmps31;go_wp2;clear H;go_loopw [4] (fun i wr=>∃(q:Nat) (x:Int),q<=m+1/\x=(q:Int) - 1/\i=.int .i64 x/\Hid (Own wr w.heap.size 3 (m+1) (Qa_ (Ug_ ps (m+1) (m+1 - q))))/\Below w.heap.size w wr) (fun i _=>(intOf i+1).toNat)
 case atStart=>exact⟨m+1,(m:Int),Nat.le_refl _,oo,by go_num,by rw[Nat.sub_self];exact HZ,grow_⟩
 case round=>
  clear HZ;obtain⟨q,x,hq,hx,rfl,HO,J⟩:=hrel;rcases Nat.eq_zero_or_pos q with rfl|aM
  ·have aN:¬(0:Int)<=x:=oo;have ab:=HO;rw[Nat.sub_zero]at ab;clear hx HO;go_wp2;go_ret;exact⟨rfl,ab.o,J⟩
  ·obtain⟨k,rfl⟩:∃k,q=k+1:=⟨q - 1,oo⟩;obtain rfl:x=(k:Int):=oo;have s:=hid (HS.o k oo);obtain⟨p,hp⟩:=ac.o.get (show k < m+1 from oo);have af:=HI.o (m+1 - (k+1)) oo;obtain⟨B,hB⟩:=ex_ (Ug_ ps (m+1) (m+1 - (k+1)));rw[hB]at HO s af;obtain⟨M,_,ad,_⟩:=af;have ax:=ad k oo;obtain⟨d,hd⟩:∃d,B[k]? =some d:=⟨_,gE oo⟩;have Q:B.getD k 0=d:=(by rw[List.getD_eq_getElem?_getD,hd];rfl);rw[Q]at ax;obtain⟨y,hy⟩:=ex_ (d+X2_ p);have HY:Hid (y=if (p.kind==18)=true then d+1 else d):=(show y=if (p.kind==18)=true then d+1 else d by
    rw[<-hy];unfold X2_;split<;>omega)
   have L:kg_ ps B k=p.kids.foldl (fun b v=>b.set v.toNat y) B:=(by unfold kg_;rw[hp];dsimp only;rw[Q,hy]);rw[L]at s;obtain⟨ah,T⟩:=HG.o k p hp;obtain⟨ks,S⟩:=ex_ p.kids;obtain⟨g,I⟩:=ex_ ks.length;rw[S]at s ah T;obtain⟨G,hG⟩:=ex_ (fun i=>(ks.take i).foldl (fun b v=>b.set v.toNat y) B);have HE:=hid (show Ug_ ps (m+1) (m+1 - k)=G g by rw[s.o,<-hG];dsimp only;rw[<-I,List.take_length]);have U:=hid (show G 0=B by rw[<-hG];rfl);have X:=hid (show ∀(i:Nat) (v:Int),ks[i]? =some v->G (i+1)=(G i).set v.toNat y from fun i v E=>by
    rw[<-hG];dsimp only;rw[List.take_add_one,E,Option.toList_some,List.foldl_append]
    rfl)
   have V:=hid (show ∀i,(G i).length=m+1 from fun i=>by
    rw[<-hG];have aH:∀(l:LI) (o:LI),(l.foldl (fun b v=>b.set v.toNat y) o).length=o.length:=by
     intro l
     induction l with
     |nil=>intro o;rfl
     |cons v l aG=>intro o;rw[List.foldl_cons,aG,List.length_set]
    dsimp only;rw[aH,M])
   have Z:=hid T;have aa:=hid I;obtain⟨b,off,A',c',rfl,t,y0,_,y2,_,_,R⟩:=ac.o.atc (show k < m+1 from oo) hp;rw[S,I]at y2 R;have x0:=((QE_ J).1 _ _ t).trans y0;have x2:=((QE_ J).1 _ _ t).trans y2;have K:b < wr.heap.size:=(by have:=J.size;omega);have Y:=hid R;obtain⟨b7,aJ,e7,C,c7⟩:=Ql_ (HO.o.rd (size:=1) (n:=m+1) (by simp[Qa_,M])) (show k < m+1 from oo) hd;injection e7 with e7;injection e7 with e71 e72;subst e71;subst e72;simp only[Nat.zero_add]at c7;have aA:g<=12:=oo;have aK:(0:Int)<=(k:Int):=oo;have aL:(k:Int) < (m:Int)+1:=oo;clear hx hp hd Q hy L S I hG T hB s R ad M y0 y2;rcases bft (p.kind==18)with g1|g1
   ·rw[g1,if_pos rfl]at HY;obtain rfl:=HY.o;go_upto_region 8 with fail
    clear c7 C x0;go_wp2;go_loopw [36] (fun i wr=>∃j:Nat,j<=g/\i=.int .i64 j/\Hid (Own wr w.heap.size 3 (m+1) (Qa_ (G j)))/\Below w.heap.size w wr) (fun i _=>g - (intOf i).toNat)
    case atStart=>exact⟨0,Nat.zero_le _,rfl,by rw[U.o];exact HO,J⟩
    case round=>
     clear HO J x2 K;obtain⟨j,hj,rfl,a,f⟩:=hrel;by_cases D:j < g
     ·obtain⟨v,E⟩:∃v,ks[j]? =some v:=⟨_,gE (by rw[aa.o];exact D)⟩;have F:=Z.o v (List.mem_of_getElem? E);obtain⟨z,rfl⟩:=Int.eq_ofNat_of_zero_le F.1;obtain⟨b9,am,rfl,O,c9⟩:=Ql_ (Y.o.below f) D E;have ag:(j:Int) < (g:Int):=oo;have aF:(z:Int) < (m:Int)+1:=oo;have h:=hid (X.o j _ E);rw[Int.toNat_natCast]at h;have r:=hid (qv_ (x:=(d+1)) a.o (V.o j) (show z < m+1 from oo));rw[<-h.o]at r;obtain⟨u0,aB⟩:=a.o.there (show z < m+1 from oo);have aC:=a.o.frozen;have aD:=a.o.lt;have N:=hid (f.setCell (show w.heap.size<=(⟨w.heap.size,z,none⟩:Addr).block from Nat.le_refl _) (.int .i64 (d+1)));clear E F;go_wp2;go_roundw
      case rel=>exact⟨j+1,oo,by go_num,r,N.o⟩
      case measure=>simp[intOf];omega
     ·obtain rfl:j=g:=oo;rw[<-HE.o]at a;go_wp2;exact⟨⟨k,(k:Int) - 1,oo,rfl,rfl,a,f⟩,by simp[intOf]⟩
   ·rw[g1,if_neg (by decide)]at HY;obtain rfl:=HY.o;go_upto_region 8 with fail
    clear c7 C x0;go_wp2;go_loopw [36] (fun i wr=>∃j:Nat,j<=g/\i=.int .i64 j/\Hid (Own wr w.heap.size 3 (m+1) (Qa_ (G j)))/\Below w.heap.size w wr) (fun i _=>g - (intOf i).toNat)
    case atStart=>exact⟨0,Nat.zero_le _,rfl,by rw[U.o];exact HO,J⟩
    case round=>
     clear HO J x2 K;obtain⟨j,hj,rfl,a,f⟩:=hrel;by_cases D:j < g
     ·obtain⟨v,E⟩:∃v,ks[j]? =some v:=⟨_,gE (by rw[aa.o];exact D)⟩;have F:=Z.o v (List.mem_of_getElem? E);obtain⟨z,rfl⟩:=Int.eq_ofNat_of_zero_le F.1;obtain⟨b9,am,rfl,O,c9⟩:=Ql_ (Y.o.below f) D E;have ag:(j:Int) < (g:Int):=oo;have aF:(z:Int) < (m:Int)+1:=oo;have h:=hid (X.o j _ E);rw[Int.toNat_natCast]at h;have r:=hid (qv_ (x:=y) a.o (V.o j) (show z < m+1 from oo));rw[<-h.o]at r;obtain⟨u0,aB⟩:=a.o.there (show z < m+1 from oo);have aC:=a.o.frozen;have aD:=a.o.lt;have N:=hid (f.setCell (show w.heap.size<=(⟨w.heap.size,z,none⟩:Addr).block from Nat.le_refl _) (.int .i64 y));clear E F;go_wp2;go_roundw
      case rel=>exact⟨j+1,oo,by go_num,r,N.o⟩
      case measure=>simp[intOf];omega
     ·obtain rfl:j=g:=oo;rw[<-HE.o]at a;go_wp2;exact⟨⟨k,(k:Int) - 1,oo,rfl,rfl,a,f⟩,by simp[intOf]⟩
theorem U1_ (t:BA) (most:Int) (w:World) (ht:t.size<=1048576) (h:KF_ t=none):Calls prog 15 #[.string t,.int .i64 most] w (Kj_ w []):=by
 have HR:=hid (V5_ t w ht h);unfold Kj_;go_enter func15,ntmps15;go_wp2_with fail
 refine HR.o.mono ?_;rintro e w1 ⟨T,rfl,d⟩;have c:=hid d;obtain⟨AL,cL,AF,cF,a,m,l,j,b,g⟩:=d;have k0:=a.q0;have kf:=a.frozen;have k:=a.lt;clear a m l j b g HR;go_wp2_with fail
 refine(UL_ none 0 w1).mono ?_;rintro e w2 ⟨A',rfl,h2⟩;obtain⟨AL,cL,AF,cF,a,m,l,j,b,g⟩:=c.o.next rfl h2;have f:=hid j;have HB:=hid g;have k0:=a.q0;have n:=a.q2;have kf:=a.frozen;have k:=a.lt;clear a m l j b g c h2;go_wp2;go_loopw [21] (fun i wr=>i=.int .i64 0/\wr.cell? ⟨T,2,none⟩=some (.slice AF ([]:List FindingD).length cF)/\T < wr.heap.size/\Hid (Mine wr w.heap.size 41 3 AF ([]:List FindingD).length cF (([]:List FindingD).flatMap Qc_))/\Below w.heap.size w wr) (fun i _=>0)
 case atStart=>exact⟨rfl,n,k,f,HB.o⟩
 case round=>
  clear k0 n kf k f HB;obtain⟨rfl,n,k,f,hb⟩:=hrel;go_wp2;go_ret;exact⟨AF,cF,rfl,f.o,hb⟩
theorem Uj_ (t:BA) (most:Int) (w:World) (ht:t.size<=1048576) (hT:Tab w) (ps:List PN) (h:KF_ t=some ps):Calls prog 15 #[.string t,.int .i64 most] w (Kj_ w (XF_ t ps (blkV ps) most ps.length)):=by
 have HR:=hid (Y0_ t w ht ps h);have Z:=(QU_ h).1;obtain⟨m,hm,aF,hg,hu⟩:=Zx_ Z;have hD:=z4_ hg hm hu;have ab:=hid (show ∀k,k < m+1->(YP_ t ps)[k]? =some (KS_ t (Q3_ ps k))from fun k hk=>qC_ Z oo);have Q:=hid (show(YP_ t ps).length=m+1 by rw[Gx_,hm]);have N:=hid (fun(A:OA) (c:Nat) (W:World) aG=>Uh_ A m c ps W aG hm aF hg hu);obtain⟨D,ah⟩:=ex_ (blkV ps);rw[ah]at hD N |-
 have av:=hid hD.2.2.1;have O:=hid hD.1;obtain⟨ls,aj⟩:=ex_ (YP_ t ps);rw[aj]at HR ab Q;rw[hm]at HR |-
 obtain⟨F,r⟩:=ex_ (XF_ t ps D most);have ad:=hid (show ∀(k:Nat) (p:PN),ps[k]? =some p->YX_ p=true->most < D.getD k 0->F (k+1)=F k++[(3,KS_ t (Q3_ ps k),WZ_ (D.getD k 0))]from fun k p h1 U V=>by rw[<-r];exact zr_ h1 U V);have S:=hid (show ∀(k:Nat) (p:PN),ps[k]? =some p->(YX_ p&&decide (most < D.getD k 0))=false->F (k+1)=F k from fun k p h1 U=>by rw[<-r];exact km_ h1 U);have ax:=hid (show ∀k,(F k).length<=k from fun k=>by rw[<-r];exact Gk_ k);have HZ:=hid (show F 0=[]by rw[<-r];rfl);rw[r];have HT:=hid (fun(W:World) (h:Below w.heap.size w W)=>(Joins.tab_stays gPow hT h (Nat.le_refl _):Tab W));unfold Kj_;clear h Z hg hu hD ah aj r hT hm;go_enter func15,ntmps15;go_wp2_with fail
 refine HR.o.mono ?_;rintro e w1 ⟨T,AN,cN,rfl,ai⟩;have P:=hid ai;obtain⟨AL,cL,AF,cF,o,K,y,r,v,J⟩:=ai;have k0:=o.q0;have kf:=o.frozen;have kz:=o.lt;have aa:=hid (N.o AN cN w1 K.nps);have aI:=J.size;clear o K y r v J HR N;go_wp2_with fail
 refine aa.o.mono ?_;rintro e w2 ⟨rfl,al,U⟩;have ag:Mine w2 w.heap.size 3 1 (some ⟨w1.heap.size,0,none⟩) D.length (m+1) (Qa_ D):=Mine.mk_own (by rw[Nat.mul_one];exact al) (by simp[Qa_]) aI (by rw[O.o];exact Nat.le_refl _) (by unfold maxLen;omega);have ac:Hid (FP w T AN (m+1) cN ps ls (some ⟨w1.heap.size,0,none⟩) (m+1) D none 0 [] [] w2):=(show FP w T AN (m+1) cN ps ls (some ⟨w1.heap.size,0,none⟩) (m+1) D none 0 [] [] w2 from⟨P.o.next rfl U,ag,Mine.mk_nil _ _ _ _⟩);obtain⟨AL,cL,AF,cF,o,K,y,r,v,J⟩:=P.o.next rfl U;have k0:=o.q0;have kf:=o.frozen;have kz:=o.lt;clear o K y r v J P U al ag aa;go_wp2;go_loopw [21] (fun i wr=>∃(k:Nat),k<=m+1/\i=.int .i64 k/\Hid (FP w T AN (m+1) cN ps ls (some ⟨w1.heap.size,0,none⟩) (m+1) D none 0 [] (F k) wr)) (fun i _=>m+1 - (intOf i).toNat)
 case atStart=>exact⟨0,Nat.zero_le _,rfl,by rw[HZ.o];exact ac⟩
 case round=>
  clear ac k0 kf kz;obtain⟨k,hk,rfl,HP⟩:=hrel;have aE:=ax.o k;obtain⟨fs,Y⟩:=ex_ (F k);have s:=hid Y;rw[Y]at HP aE;clear Y;obtain⟨AL,cL,AF,cF,o,K,y,r,v,J⟩:=id HP.o.1;have k2:=o.q2;have kf:=o.frozen;have kz:=o.lt;by_cases I:k < m+1
  ·obtain⟨x,g⟩:=K.nps.get I;obtain⟨d,hd⟩:∃d,D[k]? =some d:=⟨_,gE (by rw[O.o];exact I)⟩;have f:D.getD k 0=d:=(by rw[List.getD_eq_getElem?_getD,hd];rfl);have aC:=av.o k oo;rw[f]at aC;obtain⟨b7,aJ,e7,G,c7⟩:=Ql_ HP.o.2.1.rd (by rw[O.o];exact I) hd;injection e7 with e7;injection e7 with e71 e72;subst e71;subst e72;simp only[Nat.zero_add]at c7;obtain⟨b,off,A2,c2,rfl,M,x0,x1,x2,x3,_,_⟩:=K.nps.atc I g;have aK:(k:Int) < (m:Int)+1:=oo;have q:=ab.o k I;have hb:=hid J;have gT:wr.heap.size≠T:=oo;have C:=hid (HP.o.alloc (.cells #[.int .i64 x.kind,.string x.text,.slice A2 x.kids.length c2,.bool x.blank] 36));clear o K y r v J k2;rcases bft (x.kind==16)with g1|g1
   ·have j:YX_ x=true:=(by unfold YX_;rw[g1];rfl);by_cases l:most < d
    ·have a:=hid (ad.o k x g j (by rw[f];exact l));rw[f,s.o]at a;clear g f hd j;have z:=hid (fun W X=>XK_ d W oo oo (HT.o W X));have n:=hid (fun(W:World) X=>Jw_ w T (some ⟨b,off,none⟩) (m+1) cN ps ls fs 3 k (KS_ t (Q3_ ps k)) (WZ_ d) W X q oo (by rw[Q.o];omega));obtain⟨L,y⟩:=ex_ (KS_ t (Q3_ ps k));obtain⟨T5,E⟩:=ex_ (WZ_ d);rw[y]at n a;rw[E]at z n a;clear y E q;go_wp2_with fail
     refine(z.o _ (hb.o.alloc hb.o.size _)).mono ?_;rintro e w3 ⟨rfl,V⟩;have B:=hid (C.o.next V);clear V;go_wp2_with fail
     refine(n.o _ B.o.1).mono ?_;rintro e w4 ⟨rfl,h4,H⟩;have R:=hid (B.o.found h4 H);clear h4 H x0 x1 x2 x3 M c7 G kf kz;go_wp2;go_roundw
     case rel=>exact⟨k+1,oo,by go_num,by rw[a.o];exact R⟩
     case measure=>simp[intOf];omega
    ·have a:=hid (S.o k x g (by rw[j,f,Bool.true_and];exact decide_eq_false l));clear g f hd j;clear q;go_wp2;go_roundw
     case rel=>exact⟨k+1,oo,by go_num,by rw[a.o,s.o];exact C⟩
     case measure=>simp[intOf];omega
   ·rcases bft (x.kind==17)with g2|g2
    ·have j:YX_ x=true:=(by unfold YX_;rw[g2,Bool.or_true]);by_cases l:most < d
     ·have a:=hid (ad.o k x g j (by rw[f];exact l));rw[f,s.o]at a;clear g f hd j;have z:=hid (fun W X=>XK_ d W oo oo (HT.o W X));have n:=hid (fun(W:World) X=>Jw_ w T (some ⟨b,off,none⟩) (m+1) cN ps ls fs 3 k (KS_ t (Q3_ ps k)) (WZ_ d) W X q oo (by rw[Q.o];omega));obtain⟨L,y⟩:=ex_ (KS_ t (Q3_ ps k));obtain⟨T5,E⟩:=ex_ (WZ_ d);rw[y]at n a;rw[E]at z n a;clear y E q;go_wp2_with fail
      refine(z.o _ (hb.o.alloc hb.o.size _)).mono ?_;rintro e w3 ⟨rfl,V⟩;have B:=hid (C.o.next V);clear V;go_wp2_with fail
      refine(n.o _ B.o.1).mono ?_;rintro e w4 ⟨rfl,h4,H⟩;have R:=hid (B.o.found h4 H);clear h4 H x0 x1 x2 x3 M c7 G kf kz;go_wp2;go_roundw
      case rel=>exact⟨k+1,oo,by go_num,by rw[a.o];exact R⟩
      case measure=>simp[intOf];omega
     ·have a:=hid (S.o k x g (by rw[j,f,Bool.true_and];exact decide_eq_false l));clear g f hd j;clear q;go_wp2;go_roundw
      case rel=>exact⟨k+1,oo,by go_num,by rw[a.o,s.o];exact C⟩
      case measure=>simp[intOf];omega
    ·have a:=hid (S.o k x g (by unfold YX_;rw[g1,g2];rfl));clear g f hd;clear q;go_wp2;go_roundw
     case rel=>exact⟨k+1,oo,by go_num,by rw[a.o,s.o];exact C⟩
     case measure=>simp[intOf];omega
  ·obtain rfl:k=m+1:=oo;have HM:=hid r;have HB:=hid J;clear o K y r v J;go_wp2;go_ret;rw[s.o];exact⟨AF,cF,rfl,HM.o,HB.o⟩
theorem Ui_ (t:BA) (most:Int) (w:World) (ht:t.size<=1048576) (hT:Tab w):Calls prog 15 #[.string t,.int .i64 most] w (Kj_ w (XV_ t most)):=by
 unfold XV_;rcases hr:KF_ t with _|ps
 ·exact U1_ t most w ht hr
 ·exact Uj_ t most w ht hT ps hr
end Go.Proofs.YtgbikafalcbibaaGreatDoor

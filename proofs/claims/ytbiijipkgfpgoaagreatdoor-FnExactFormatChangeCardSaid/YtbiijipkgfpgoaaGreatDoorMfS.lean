/-
  Put together by program.
-/
import Derived.Test.YtbiijipkgfpgoaaGreatDoorMfR
set_option maxRecDepth 100000
set_option linter.all false
set_option maxHeartbeats 25600000
open Go.Proofs.Tryz
open Go.Value renaming int→I_,slice→S_,bool→B_,agg→A_,tuple→U_
open Go.IntKind renaming i64→j_
open Go.Obj renaming cells→C_
open Go.Ending renaming returned→R_
namespace Go.Proofs.YtbiijipkgfpgoaaGreatDoor
open Go.RowKit
abbrev HSt:=(OA × Nat × Nat) × SSt
def Zy_ (d:HSt):List Value:=[S_ d.1.1 d.1.2.1 d.1.2.2,I_ j_ d.2.2]
theorem Xz_ (d:HSt):(Zy_ d).length=2:=rfl
def HIn (B:Nat) (w:World) (d:HSt):Prop:=d.1.2.1<=8/\Mine w B 3 1 d.1.1 d.1.2.1 d.1.2.2 (Qa_ d.2.1)
theorem HIn.grown {B:Nat} {w w':World} {d:HSt} {row:ON} (h:HIn B w d) (k:w.grownBy w' row) (hr:∀g,row=some g->∃cs,Blk w g 185 cs):HIn B w' d:=⟨h.1,h.2.grown k (fun g e=>.inr (fun e2=>by
 obtain⟨cs,b1⟩:=hr g e;obtain⟨a,b2⟩:=Qw_ h.2 e2;exact Kj_ b2 b1 dc_ rfl))⟩
theorem HIn.next {B:Nat} {w w':World} {d:HSt} (h:HIn B w d) (k:Below w.heap.size w w'):HIn B w' d:=⟨h.1,h.2.next k⟩
def HpD (B:Nat) (A:OA) (n c:Nat) (ds:List HSt) (w:World):Prop:=Mine w B 185 2 A n c (ds.flatMap Zy_)/\∀d∈ds,HIn B w d
def HpM (B:Nat) (A:OA) (n c:Nat) (l:List SSt) (w:World):Prop:=∃ds:List HSt,ds.map Prod.snd=l/\HpD B A n c ds w
section
variable {B:Nat} {A:OA} {n c:Nat} {ds:List HSt} {l:List SSt} {w w':World}
theorem HpD.len (h:HpD B A n c ds w):ds.length=n:=by have:=h.1.len;rw[Xs_ Zy_ Xz_]at this;omega
theorem HpM.len (h:HpM B A n c l w):l.length=n:=by obtain⟨ds,rfl,h⟩:=h;rw[List.length_map];exact h.len
theorem HpD.next (h:HpD B A n c ds w) (k:Below w.heap.size w w'):HpD B A n c ds w':=⟨h.1.next k,fun d hd=>(h.2 d hd).next k⟩
theorem HpM.next (h:HpM B A n c l w) (k:Below w.heap.size w w'):HpM B A n c l w':=by obtain⟨ds,e,h⟩:=h;exact⟨ds,e,h.next k⟩
theorem HpD.at_ (h:HpD B A n c ds w) {k:Nat} (hk:k < n) {A1:OA} {n1 c1:Nat} {v:LI} {x:Int} (hd:ds[k]? =some ((A1,n1,c1),(v,x))):
  ∃b off,A=some ⟨b,off,none⟩/\b < w.heap.size/\w.cell? ⟨b,off+k * 2,none⟩=some (S_ A1 n1 c1)/\w.cell? ⟨b,off+k * 2+1,none⟩=some (I_ j_ x):=by
 obtain⟨b,off,e,hb,hc⟩:=h.1.rd.at_ oo;exact⟨b,off,e,hb,hc _ _ (Kw_ Zy_ Xz_ hd (j:=0) rfl),hc _ _ (Kw_ Zy_ Xz_ hd (j:=1) rfl)⟩
theorem HpD.blk (h:HpD B A n c ds w) (hn:0 < n):∃g,A=some ⟨g,0,none⟩/\B<=g/\n<=c/\(∀o,w.frozen? ⟨g,o,none⟩=false)/\g < w.heap.size/\∃cs,Blk w g 185 cs:=by
 rcases h.1.own with⟨_,h0,_⟩|⟨g,e,hB,b,_,ho⟩
 ·omega
 ·obtain⟨rest,a,_⟩:=ho;exact⟨g,e,hB,b,fun o=>a.frozen o,a.lt,_,a⟩
end
theorem QcY_ {ds:List HSt}:∀{i:Nat} {d:HSt},i < ds.length->((ds.flatMap Zy_).set (i * 2) (S_ d.1.1 d.1.2.1 d.1.2.2)).set (i * 2+1) (I_ j_ d.2.2)=(ds.set i d).flatMap Zy_:=by
 induction ds with
 |nil=>intro i d h;simp at h
 |cons a r ih=>
  intro i d h
  cases i with
  |zero=>simp[Zy_]
  |succ i=>
   have h2:=ih (i:=i) (d:=d) (by simpa using h);rw[List.set_cons_succ,List.flatMap_cons,List.flatMap_cons,<-h2];rw[show(i+1) * 2=i * 2+2 from oo];simp[Zy_]
theorem Own.setAt {w:World} {g:Nat} {t:TypeId} {cap:Nat} {xs:List Value} (h:Own w g t cap xs) {i:Nat} (hi:i < xs.length) (u:Value):Own (w.setCell ⟨g,i,none⟩ u) g t cap (xs.set i u):=by
 obtain⟨rest,hb,hs⟩:=h;refine⟨rest,?_,by simpa using hs⟩;have h2:=hb.set_ i u;have e:((xs++rest).toArray).setIfInBounds i u=((xs.set i u)++rest).toArray:=by
  simp[List.set_append,hi]
 rwa[e]at h2
section
variable {B g:Nat} {n c:Nat} {ds:List HSt} {w w':World}
def Wv_ (w:World) (g i:Nat) (d:HSt):World:=(w.setCell ⟨g,i * 2,none⟩ (S_ d.1.1 d.1.2.1 d.1.2.2)).setCell ⟨g,i * 2+1,none⟩ (I_ j_ d.2.2)
theorem J3_ (w:World) (p:Addr) (u:Value):w.grownBy (w.setCell p u) (some p.block):=by
 refine⟨rfl,rfl,rfl,by simp[World.setCell],fun k hk a=>?_⟩;exact Below.heap_setCell w p u k (fun e=>a (by rw[e]))
theorem XP_ (w:World) (g i:Nat) (d:HSt):w.grownBy (Wv_ w g i d) (some g):=Z6_ (J3_ w ⟨g,i * 2,none⟩ _) (J3_ _ ⟨g,i * 2+1,none⟩ _)
theorem HpD.put (h:HpD B (some ⟨g,0,none⟩) n c ds w) {i:Nat} (hi:i < n) {d:HSt} (hd:HIn B w d):HpD B (some ⟨g,0,none⟩) n c (ds.set i d) (Wv_ w g i d):=by
 have hl:=h.len;obtain⟨g',e,hB,f,hf,k,cs,hb⟩:=h.blk oo;injection e with e;injection e with e;subst e;have hk:=XP_ w g i d;have a:∀q,some g=some q->∃cs,Blk w q 185 cs:=fun q e=>by injection e with e;subst e;exact⟨_,hb⟩
 refine⟨?_,fun q j=>?_⟩
 ·rcases h.1.own with⟨h0,_⟩|⟨g',e,_,_,b,ho⟩
  ·cases h0
  ·injection e with e;injection e with e;subst e;have h1:=(ho.setAt (i:=i * 2) (by rw[Xs_ Zy_ Xz_];omega) (S_ d.1.1 d.1.2.1 d.1.2.2)).setAt (i:=i * 2+1) (by rw[List.length_set,Xs_ Zy_ Xz_];omega) (I_ j_ d.2.2);rw[QcY_ oo]at h1;exact Mine.mk_own h1 (by rw[Xs_ Zy_ Xz_,List.length_set,hl]) hB f b
 ·rcases List.mem_or_eq_of_mem_set j with j|rfl
  ·exact(h.2 q j).grown hk a
  ·exact hd.grown hk a
theorem grow_put {row:ON} {wr:World} (h:w.grownBy wr row) (b:row=some g\/w.heap.size<=g) (i:Nat) (d:HSt):w.grownBy (Wv_ wr g i d) row:=by
 have k:=XP_ wr g i d;refine⟨k.os.trans h.os,k.tape.trans h.tape,k.output.trans h.output,lt_ h.size k.size,fun q hq a=>(k.block q (ll_ hq h.size) (fun e=>?_)).trans (h.block q hq a)⟩;injection e with e;subst e;rcases b with b|b
 ·exact a b.symm
 ·omega
theorem Qz_ {row:ON} {w1 w2:World} (h:w.grownBy w1 row) (k:Below w1.heap.size w1 w2):w.grownBy w2 row:=
 ⟨k.os.trans h.os,k.tape.trans h.tape,k.output.trans h.output,lt_ h.size k.size,fun q hq a=>(k.block q (ll_ hq h.size)).trans (h.block q hq a)⟩
theorem Mine.cut {B:Nat} {e:TypeId} {s:Nat} {A:OA} {n c k:Nat} {xs:List Value} (h:Mine w B e s A n c xs) (hk:k<=n) (hA:∃a,A=some a):Mine w B e s A k c (xs.take (k * s)):=by
 have hl:=h.len;have b:k * s<=n * s:=Nat.mul_le_mul_right _ hk;rcases h.own with⟨h0,_⟩|⟨g,rfl,hB,hn,hc,rest,hb,hs⟩
 ·obtain⟨a,e⟩:=hA;rw[h0]at e;cases e
 ·refine Mine.mk_own ⟨xs.drop (k * s)++rest,?_,?_⟩ (by rw[List.length_take];omega) hB oo hc
  ·rw[<-List.append_assoc,List.take_append_drop];exact hb
  ·rw[<-List.append_assoc,List.take_append_drop];exact hs
end
def Vx_ (l:List HSt) (i j:Nat):List HSt:=match l[i]?,l[j]? with|some x,some y=>(l.set i y).set j x|_,_=>l
theorem xL_ (l:List HSt) (i j:Nat):(Vx_ l i j).map Prod.snd=xM_ (l.map Prod.snd) i j:=by
 unfold Vx_ xM_;rw[List.getElem?_map,List.getElem?_map]
 cases l[i]? <;>cases l[j]? <;>simp[List.map_set]
theorem Yq_ {l:List HSt} {i j:Nat} {x y:HSt} (hx:l[i]? =some x) (hy:l[j]? =some y):k8_ (l.map Prod.snd) i j=Xt_ x.2 y.2:=by
 unfold k8_;rw[List.getElem?_map,List.getElem?_map,hx,hy];rfl
theorem Qf9_ {l:List HSt} {i j:Nat} {x y:HSt} (hx:l[i]? =some x) (hy:l[j]? =some y):Vx_ l i j=(l.set i y).set j x:=by unfold Vx_;rw[hx,hy]
theorem HpD.swap {B g n c:Nat} {ds:List HSt} {w:World} (h:HpD B (some ⟨g,0,none⟩) n c ds w) {i j:Nat} {x y:HSt} (hi:i < n) (hj:j < n) (hx:ds[i]? =some x) (hy:ds[j]? =some y):HpD B (some ⟨g,0,none⟩) n c (Vx_ ds i j) (Wv_ (Wv_ w g i y) g j x):=by
 rw[Qf9_ hx hy];have h1:=h.put hi (h.2 _ (lm_ hy));obtain⟨g',e,_,_,_,_,cs,hb⟩:=h.blk oo;injection e with e;injection e with e;subst e;exact h1.put hj ((h.2 _ (lm_ hx)).grown (XP_ w g i y) (fun q e=>by injection e with e;subst e;exact⟨_,hb⟩))
theorem Ga_ (l:List HSt) (i j:Nat):(Vx_ l i j).length=l.length:=by unfold Vx_;split<;>simp
theorem Qam_ {f:Nat} {l:List HSt} {i:Nat} {x y:HSt} (h0:0 < i) (hx:l[i]? =some x) (hy:l[upN i]? =some y) (hl:Xt_ x.2 y.2=true):YN_ (f+1) (l.map Prod.snd) i=YN_ f ((Vx_ l i (upN i)).map Prod.snd) (upN i):=by
 conv=>lhs;unfold YN_
 rw[ip_ ⟨h0,by rw[Yq_ hx hy];exact hl⟩,xL_]
theorem zQ_ {f:Nat} {l:List HSt} {i:Nat} {x y:HSt} (hx:l[i]? =some x) (hy:l[upN i]? =some y) (hl:Xt_ x.2 y.2=false):YN_ (f+1) (l.map Prod.snd) i=l.map Prod.snd:=by
 conv=>lhs;unfold YN_
 rw[in_ (fun h=>by rw[Yq_ hx hy,hl]at h;exact absurd h.2 sm_)]
theorem zR_ {f:Nat} {l:List SSt}:YN_ (f+1) l 0=l:=by
 conv=>lhs;unfold YN_
 rw[in_ (fun h=>absurd h.1 oo)]
theorem Qiq_:(prog.info? 185).map (fun i=>(i.zero,i.size,i.bytes))=some (some (A_ #[S_ none 0 0,I_ j_ 0]),2,32):=by kernel_rfl
theorem QiD_ (w:World) (d:HSt) (t:TypeId):∀j u,(Zy_ d)[j]? =some u->(w.alloc (C_ #[S_ d.1.1 d.1.2.1 d.1.2.2,I_ j_ d.2.2] t)).cell? ((⟨w.heap.size,0,none⟩:Addr).add j)=some u:=by
 intro j u a;have hb:=Blk.new w t #[S_ d.1.1 d.1.2.1 d.1.2.2,I_ j_ d.2.2]
 match j,a with
 |0,a=>obtain rfl:=oi_ a;exact hb.cell 0
 |1,a=>obtain rfl:=oi_ a;exact hb.cell 1
 |j+2,a=>simp[Zy_]at a
theorem QiE_ (d:HSt):∀u∈Zy_ d,u.oneCell'=true:=by intro u hu;simp[Zy_]at hu;rcases hu with rfl|rfl<;>rfl
theorem Qgh_ {m:Array Oper} {rest:List Oper} {o:Oper} {a:Act} {Q:Exit->Act->World->Prop} (s x:Operand) {B:Nat} {w1:World} {A:OA} {i c:Nat} {ds:List HSt} {d:HSt}
  (n:Hid (HpD B A i c ds w1)) (HD:Hid (HIn B w1 d)) (hB:B<=w1.heap.size) (r:o.guard=none) (ho:o.op=.call { callee:=.builtin .append,args:=#[s,x],argTypes:=#[186,186] }) (hs:a.eval s=S_ A i c) (hx:a.eval x=S_ (some ⟨w1.heap.size,0,none⟩) 1 1) (z:i<=1000000)
  (h:∀g c' w',Hid (HpD B (some ⟨g,0,none⟩) (i+1) c' (ds++[d]) w')->Hid (w1.grownBy w' (A.map (·.block)))->Hid (A.map (·.block)=some g\/w1.heap.size<=g)->wpList prog m Q rest (a.put o.dst (S_ (some ⟨g,0,none⟩) (i+1) c')) w'):wpList prog m Q (o::rest) a (w1.alloc (C_ #[S_ d.1.1 d.1.2.1 d.1.2.2,I_ j_ d.2.2] 185)):=by
 obtain⟨i0,hi,t,v,y⟩:=info_parts Qiq_;refine Qi_ _ r s x _ ho B 185 i0 (A_ #[S_ none 0 0,I_ j_ 0]) 2 32 underlying186 hi t v y rfl dc_ (S_ A i c) i (ds.flatMap Zy_) hs (Mine.alloc n.o.1 _) ⟨w1.heap.size,0,none⟩ 1 1 (Zy_ d) hx rfl (QiD_ _ _ _) (QiE_ _) mx_ oo so_ ?_;intro v' w5 j hg l;obtain⟨A5,c5,rfl,m5⟩:=Mine.of j;rw[Q3_]at hg;rw[Q3_,Q3_]at l;obtain⟨g,rfl⟩:∃g,A5=some ⟨g,0,none⟩:=by
  rcases m5.own with⟨_,h0,_⟩|⟨g,e,_⟩
  ·omega
  ·exact⟨g,e⟩
 have f:w1.grownBy w5 (A.map (·.block)):=Z6_ (World.grownBy_alloc w1 _ _) hg;have b:∀q,A.map (·.block)=some q->∃cs,Blk w1 q 185 cs:=fun q e=>Qw_ n.o.1 e
 refine h g c5 w5 ⟨by rw[List.flatMap_append];simpa using m5,fun q k=>?_⟩ f ?_
 ·rcases List.mem_append.1 k with k|k
  ·exact(n.o.2 q k).grown f b
  ·obtain rfl:=ms1_.1 k;exact HD.o.grown f b
 ·rcases l with e|e
  ·exact .inl e.symm
  ·refine .inr ?_;have p:some g=some (w1.alloc (C_ #[S_ d.1.1 d.1.2.1 d.1.2.2,I_ j_ d.2.2] 185)).heap.size:=e;injection p with p;rw[p,ws_];omega
theorem HpD.at0 {B g n c:Nat} {ds:List HSt} {w:World} (h:HpD B (some ⟨g,0,none⟩) n c ds w) {k:Nat} (hk:k < n) {A1:OA} {n1 c1:Nat} {v:LI} {x:Int} (hd:ds[k]? =some ((A1,n1,c1),(v,x))):
  w.cell? ⟨g,k * 2,none⟩=some (S_ A1 n1 c1)/\w.cell? ⟨g,k * 2+1,none⟩=some (I_ j_ x)/\n1<=8/\Rd w 1 A1 n1 (Qa_ v):=by
 obtain⟨b,off,e,hb,h0,h1⟩:=h.at_ hk hd;injection e with e;injection e with e1 e2;subst e1;subst e2;rw[Nat.zero_add]at h0 h1;have a:=h.2 _ (lm_ hd);exact⟨h0,h1,a.1,a.2.rd⟩
def Qh4_ (B n:Nat) (A:OA) (l:List SSt) (w:World) (e:Ending) (w':World):Prop:=∃g c',e=R_ (S_ (some ⟨g,0,none⟩) n c')/\HpM B (some ⟨g,0,none⟩) n c' l w'/\w.grownBy w' (A.map (·.block))/\(A.map (·.block)=some g\/w.heap.size<=g)
theorem GU_ (B:Nat) (A:OA) (n c:Nat) (ds:List HSt) (a:OA) (na ca:Nat) (v:LI) (x:Int) (w:World) (h:HpD B A n c ds w) (hd:HIn B w ((a,na,ca),(v,x))) (hn:n<=1000000) (hB:B<=w.heap.size):
  Calls prog 290 #[S_ A n c,A_ #[S_ a na ca,I_ j_ x]] w (Qh4_ B (n+1) A (Wu_ (ds.map Prod.snd) (v,x)) w):=by
 have hl:=h.len;obtain⟨R,hR⟩:=ex_ (Wu_ (ds.map Prod.snd) (v,x));have HR:=h_ (show YN_ (n+1) ((ds++[((a,na,ca),(v,x))]).map Prod.snd) n=R by rw[<-hR];unfold Wu_;rw[List.length_map,hl,List.map_append];rfl);rw[hR];have S:=h_ (h.next (br.alloc (lr_ _) (C_ #[S_ a na ca,I_ j_ x] 185)));have E:=h_ (hd.next (br.alloc (lr_ _) (C_ #[S_ a na ca,I_ j_ x] 185)));have X:B<=(w.alloc (C_ #[S_ a na ca,I_ j_ x] 185)).heap.size:=by simp;omega
 have P:=h_ (World.grownBy_alloc w (C_ #[S_ a na ca,I_ j_ x] 185) (A.map (·.block)));have r:=h_ (show(ds++[((a,na,ca),(v,x))]).length=n+1 by simp[hl]);clear h hd hR hl;go_enter func290,ntmps290;go_upto_region 2 with(at_builtin;refine Qgh_ (.tmp 6) (.tmp 8) S E X rfl rfl er_ er_ hn ?_;intro g c5 w5 T O V)
 have F:=h_ (Z6_ P.o O.o);have HW:=h_ (show A.map (·.block)=some g\/w.heap.size<=g from V.o.imp id (fun h=>by rw[ws_]at h;omega));have aB:B<=w5.heap.size:=lt_ hB F.o.size;clear S E X P O V;go_wp2;go_loopw [5] (fun x wr=>∃(i f:Nat) (ds:List HSt),i<=n/\i < f/\x=I_ j_ i/\Hid (ds.length=n+1)/\Hid (YN_ f (ds.map Prod.snd) i=R)/\Hid (HpD B (some ⟨g,0,none⟩) (n+1) c5 ds wr)/\Hid (w.grownBy wr (A.map (·.block)))) (fun x _=>(intOf x).toNat)
 case atStart=>exact⟨n,n+1,_,lr_ _,oo,rfl,r,HR,T,F⟩
 case round=>
  clear HR T F r;obtain⟨i,f,ds,aF,aE,rfl,r,HE,D,F⟩:=hrel;obtain⟨f,rfl⟩:∃q,f=q+1:=⟨f - 1,oo⟩;obtain⟨g',e,aC,aI,Y,b,_⟩:=D.o.blk oo;injection e with e;injection e with e;subst e;by_cases h0:i=0
  ·subst h0;have y:Hid (R=ds.map Prod.snd):=h_ (by rw[<-HE.o];exact zR_);go_wp2;go_quiet (fail);go_wp2;go_ret;exact⟨_,_,rfl,⟨ds,y.o.symm,D.o.next (below_drewN br _)⟩,Qz_ F.o (below_drewN br _),HW.o⟩
  ·have Z:0 < i:=oo;obtain⟨u,H⟩:=ex_ (upN i);have aK:u < i:=(by rw[<-H];unfold upN;omega);obtain⟨⟨⟨a1,n1,k1⟩,v1,s1⟩,m⟩:∃d,ds[i]? =some d:=⟨_,gE (by rw[r.o];omega)⟩;obtain⟨⟨⟨a2,n2,k2⟩,v2,s2⟩,p⟩:∃d,ds[u]? =some d:=⟨_,gE (by rw[r.o];omega)⟩;obtain⟨y0,y1,aG,I⟩:=D.o.at0 (k:=i) oo m;obtain⟨z0,z1,aH,J⟩:=D.o.at0 (k:=u) oo p;have C:=h_ (fun W=>by have h:=Qcj_ i W Z oo;rw[H]at h;exact h);have t:=h_ (fun W h=>ZZ_ a1 n1 k1 v1 s1 a2 n2 k2 v2 s2 W oo oo (I.next (w':=W) h) (J.next h));have E:=h_ (D.o.2 _ (lm_ m));have aA:=h_ (D.o.2 _ (lm_ p));have aD:(i:Int) < (n:Int)+1:=oo;have aJ:(u:Int) < (n:Int)+1:=oo
   cases s:Xt_ (v1,s1) (v2,s2)with
   |false=>
    have y:Hid (R=ds.map Prod.snd):=h_ (by rw[<-HE.o];exact zQ_ m (by rw[H];exact p) s);rw[s]at t;clear s m p I J H;go_wp2
    go_region_held3 (fun w'=>w'.cell? ⟨g,i * 2,none⟩=some (S_ a1 n1 k1)/\w'.cell? ⟨g,i * 2+1,none⟩=some (I_ j_ s1)/\w'.cell? ⟨g,u * 2,none⟩=some (S_ a2 n2 k2)/\w'.cell? ⟨g,u * 2+1,none⟩=some (I_ j_ s2))
     (first|exact⟨y0,y1,z0,z1⟩|exact⟨K,L,M,N⟩)
     (first
      |(go_at_call 297;refine(C.o _).mono ?_;rintro e w9 ⟨rfl,rfl⟩)
      |(
       go_at_call 285;refine(t.o _ (by exact br.drew)).mono ?_;rintro e w8 ⟨rfl,h8⟩;have z:=h_ (show Below wr.heap.size wr w8 from br.drew.trans h8);obtain⟨l,G⟩:=QW_ z.o;have K:=(l _ _ b).trans y0;have L:=(l _ _ b).trans y1;have M:=(l _ _ b).trans z0;have N:=(l _ _ b).trans z1))
    go_wp2;go_ret;exact⟨_,_,rfl,⟨ds,y.o.symm,D.o.next z.o⟩,Qz_ F.o z.o,HW.o⟩
   |true=>
    have y:Hid (YN_ f ((Vx_ ds i u).map Prod.snd) u=R):=h_ (by rw[<-HE.o,Qam_ Z m (by rw[H];exact p) s,H]);have ap:=h_ (fun W (h:HpD B (some ⟨g,0,none⟩) (n+1) c5 ds W)=>h.swap (i:=i) (j:=u) oo oo m p);rw[s]at t;clear s m p I J H;go_wp2
    go_region_held3 (fun w'=>w'.cell? ⟨g,i * 2,none⟩=some (S_ a1 n1 k1)/\w'.cell? ⟨g,i * 2+1,none⟩=some (I_ j_ s1)/\w'.cell? ⟨g,u * 2,none⟩=some (S_ a2 n2 k2)/\w'.cell? ⟨g,u * 2+1,none⟩=some (I_ j_ s2))
     (first|exact⟨y0,y1,z0,z1⟩|exact⟨K,L,M,N⟩)
     (first
      |(go_at_call 297;refine(C.o _).mono ?_;rintro e w9 ⟨rfl,rfl⟩)
      |(
       go_at_call 285;refine(t.o _ (by exact br.drew)).mono ?_;rintro e w8 ⟨rfl,h8⟩;have z:=h_ (show Below wr.heap.size wr w8 from br.drew.trans h8);obtain⟨l,G⟩:=QW_ z.o;have K:=(l _ _ b).trans y0;have L:=(l _ _ b).trans y1;have M:=(l _ _ b).trans z0;have N:=(l _ _ b).trans z1))
    have ao:=h_ (D.o.next z.o);have an:=h_ (Qz_ F.o z.o);have az:=ll_ b z.o.size;have ay:∀o,w8.frozen? ⟨g,o,none⟩=false:=fun o=>(G _ _ b).trans (Y o)
    clear y0 y1 z0 z1 l G z h8 Y b t;go_wp2
    go_region_with (go_at_call 297;refine(C.o _).mono ?_;rintro e w9 ⟨rfl,rfl⟩)
    all_goals
     have U:=h_ (ap.o _ ao.o);have Q:=h_ (grow_put (grow_put an.o HW.o i ((a2,n2,k2),(v2,s2))) HW.o u ((a1,n1,k1),(v1,s1)));unfold Wv_ at U Q;go_wp2_with (go_at_call 297;refine(C.o _).mono ?_;rintro e w9 ⟨rfl,rfl⟩)
     go_roundw
     case rel=>exact⟨u,f,Vx_ ds i u,oo,oo,rfl,h_ (by rw[Ga_];exact r.o),y,h_ (U.o.next br.drew),h_ (Qz_ Q.o br.drew)⟩
     case measure=>simp[intOf];omega
theorem Ua_ (B:Nat) (A:OA) (n c:Nat) (ds:List HSt) (a:OA) (na ca:Nat) (v:LI) (x:Int) (w:World) (h:HpD B A n c ds w) (hd:HIn B w ((a,na,ca),(v,x))) (hn:n<=1000000) (hB:B<=w.heap.size):
  Calls prog 147 #[S_ A n c,A_ #[S_ a na ca,I_ j_ x]] w (Qh4_ B (n+1) A (Wu_ (ds.map Prod.snd) (v,x)) w):=by
 have hl:=h.len;obtain⟨R,hR⟩:=ex_ (Wu_ (ds.map Prod.snd) (v,x));have HR:=h_ (show YN_ (n+1) ((ds++[((a,na,ca),(v,x))]).map Prod.snd) n=R by rw[<-hR];unfold Wu_;rw[List.length_map,hl,List.map_append];rfl);rw[hR];have T:=h_ (h.next (br.alloc (lr_ _) (C_ #[S_ a na ca,I_ j_ x] 185)));have E:=h_ (hd.next (br.alloc (lr_ _) (C_ #[S_ a na ca,I_ j_ x] 185)));have Y:B<=(w.alloc (C_ #[S_ a na ca,I_ j_ x] 185)).heap.size:=by simp;omega
 have Q:=h_ (World.grownBy_alloc w (C_ #[S_ a na ca,I_ j_ x] 185) (A.map (·.block)));have r:=h_ (show(ds++[((a,na,ca),(v,x))]).length=n+1 by simp[hl]);clear h hd hR hl;go_enter func147,ntmps147;go_upto_region 2 with(at_builtin;refine Qgh_ (.tmp 8) (.tmp 10) T E Y rfl rfl er_ er_ hn ?_;intro g c5 w5 U P X)
 have F:=h_ (Z6_ Q.o P.o);have HW:=h_ (show A.map (·.block)=some g\/w.heap.size<=g from X.o.imp id (fun h=>by rw[ws_]at h;omega));have az:B<=w5.heap.size:=lt_ hB F.o.size;clear T E Y Q P X;go_wp2;go_loopw [5] (fun x wr=>∃(i f:Nat) (ds:List HSt),i<=n/\i < f/\x=I_ j_ i/\Hid (ds.length=n+1)/\Hid (YN_ f (ds.map Prod.snd) i=R)/\Hid (HpD B (some ⟨g,0,none⟩) (n+1) c5 ds wr)/\Hid (w.grownBy wr (A.map (·.block)))) (fun x _=>(intOf x).toNat)
 case atStart=>exact⟨n,n+1,_,lr_ _,oo,rfl,r,HR,U,F⟩
 case round=>
  clear HR U F r;obtain⟨i,f,ds,aD,aC,rfl,r,HE,C,F⟩:=hrel;obtain⟨f,rfl⟩:∃q,f=q+1:=⟨f - 1,oo⟩;obtain⟨g',e,aA,aG,Z,b,_⟩:=C.o.blk oo;injection e with e;injection e with e;subst e;by_cases h0:i=0
  ·subst h0;have y:Hid (R=ds.map Prod.snd):=h_ (by rw[<-HE.o];exact zR_);go_wp2;go_quiet (fail);go_wp2;go_ret;exact⟨_,_,rfl,⟨ds,y.o.symm,C.o.next (below_drewN br _)⟩,Qz_ F.o (below_drewN br _),HW.o⟩
  ·have ap:0 < i:=oo;obtain⟨u,D⟩:=ex_ (upN i);have aI:u < i:=(by rw[<-D];unfold upN;omega);obtain⟨⟨⟨N,n1,O⟩,v1,s1⟩,m⟩:∃d,ds[i]? =some d:=⟨_,gE (by rw[r.o];omega)⟩;obtain⟨⟨⟨a2,n2,k2⟩,v2,s2⟩,p⟩:∃d,ds[u]? =some d:=⟨_,gE (by rw[r.o];omega)⟩;obtain⟨y0,y1,aE,H⟩:=C.o.at0 (k:=i) oo m;obtain⟨z0,z1,aF,I⟩:=C.o.at0 (k:=u) oo p;have HU:=h_ (show((i:Int)+1) / 2 - 1=(u:Int)by rw[<-D];unfold upN;omega);have e1:IntKind.i64.wrap ((i:Int)+1)=(i:Int)+1:=(by rw[IntKind.wrap_i64];omega);have e2:IntKind.i64.wrap (((i:Int)+1).tdiv 2)=((i:Int)+1) / 2:=(by rw[IntKind.wrap_i64,Int.tdiv_eq_ediv_of_nonneg oo];omega);have e3:IntKind.i64.wrap (((i:Int)+1) / 2 - 1)=(u:Int):=(by rw[IntKind.wrap_i64,<-D];unfold upN;omega);have t:=h_ (fun W h=>Z2_ N n1 O v1 s1 a2 n2 k2 v2 s2 W oo oo (H.next (w':=W) h) (I.next h));have E:=h_ (C.o.2 _ (lm_ m));have ay:=h_ (C.o.2 _ (lm_ p));have aB:(i:Int) < (n:Int)+1:=oo;have aH:(u:Int) < (n:Int)+1:=oo
   cases s:Xt_ (v1,s1) (v2,s2)with
   |false=>
    have y:Hid (R=ds.map Prod.snd):=h_ (by rw[<-HE.o];exact zQ_ m (by rw[D];exact p) s);rw[s]at t;clear s m p H I D;go_wp2
    go_region_held3 (fun w'=>w'.cell? ⟨g,i * 2,none⟩=some (S_ N n1 O)/\w'.cell? ⟨g,i * 2+1,none⟩=some (I_ j_ s1)/\w'.cell? ⟨g,u * 2,none⟩=some (S_ a2 n2 k2)/\w'.cell? ⟨g,u * 2+1,none⟩=some (I_ j_ s2))
     (first|exact⟨y0,y1,z0,z1⟩|exact⟨J,K,L,M⟩)
     (first
      |(
       go_at_call 195;refine(t.o _ (by exact br.drew)).mono ?_;rintro e w8 ⟨rfl,h8⟩;have z:=h_ (show Below wr.heap.size wr w8 from br.drew.trans h8);obtain⟨l,G⟩:=QW_ z.o;have J:=(l _ _ b).trans y0;have K:=(l _ _ b).trans y1;have L:=(l _ _ b).trans z0;have M:=(l _ _ b).trans z1))
    go_wp2;go_ret;exact⟨_,_,rfl,⟨ds,y.o.symm,C.o.next z.o⟩,Qz_ F.o z.o,HW.o⟩
   |true=>
    have y:Hid (YN_ f ((Vx_ ds i u).map Prod.snd) u=R):=h_ (by rw[<-HE.o,Qam_ ap m (by rw[D];exact p) s,D]);have an:=h_ (fun W (h:HpD B (some ⟨g,0,none⟩) (n+1) c5 ds W)=>h.swap (i:=i) (j:=u) oo oo m p);rw[s]at t;clear s m p H I D;go_wp2
    go_region_held3 (fun w'=>w'.cell? ⟨g,i * 2,none⟩=some (S_ N n1 O)/\w'.cell? ⟨g,i * 2+1,none⟩=some (I_ j_ s1)/\w'.cell? ⟨g,u * 2,none⟩=some (S_ a2 n2 k2)/\w'.cell? ⟨g,u * 2+1,none⟩=some (I_ j_ s2))
     (first|exact⟨y0,y1,z0,z1⟩|exact⟨J,K,L,M⟩)
     (first
      |(
       go_at_call 195;refine(t.o _ (by exact br.drew)).mono ?_;rintro e w8 ⟨rfl,h8⟩;have z:=h_ (show Below wr.heap.size wr w8 from br.drew.trans h8);obtain⟨l,G⟩:=QW_ z.o;have J:=(l _ _ b).trans y0;have K:=(l _ _ b).trans y1;have L:=(l _ _ b).trans z0;have M:=(l _ _ b).trans z1))
    have am:=h_ (C.o.next z.o);have al:=h_ (Qz_ F.o z.o);have ax:=ll_ b z.o.size;have av:∀o,w8.frozen? ⟨g,o,none⟩=false:=fun o=>(G _ _ b).trans (Z o)
    clear y0 y1 z0 z1 l G z h8 Z b t;have V:=h_ ((an.o _ am.o).next (br.alloc (lr_ _) (C_ #[S_ N n1 O,I_ j_ s1] 185)));have S:=h_ (Qz_ (grow_put (grow_put al.o HW.o i ((a2,n2,k2),(v2,s2))) HW.o u ((N,n1,O),(v1,s1))) (br.alloc (lr_ _) (C_ #[S_ N n1 O,I_ j_ s1] 185)));unfold Wv_ at V S;have e4:((i:Int)+1) / 2 - 1=(u:Int):=HU.o;clear e1 e2 e3;go_wp2;go_roundw
    case rel=>exact⟨u,f,Vx_ ds i u,oo,oo,rfl,h_ (by rw[Ga_];exact r.o),y,V,S⟩
    case measure=>simp[intOf];omega
theorem HpD.cut {B:Nat} {A:OA} {n c k:Nat} {ds:List HSt} {w:World} (h:HpD B A n c ds w) (hk:k<=n) (hA:∃a,A=some a):HpD B A k c (ds.take k) w:=by
 refine⟨?_,fun d hd=>h.2 d (List.mem_of_mem_take hd)⟩;have h1:=h.1.cut hk hA;have e:∀(l:List HSt) (k:Nat),(l.flatMap Zy_).take (k * 2)=(l.take k).flatMap Zy_:=by
  intro l
  induction l with
  |nil=>intro k;simp
  |cons a r ih=>
   intro k
   cases k with
   |zero=>simp
   |succ k=>
    rw[List.take_succ_cons,List.flatMap_cons,List.flatMap_cons,<-ih k,show(k+1) * 2=k * 2+2 from oo];simp[Zy_]
 rw[e]at h1;exact h1
section
variable {f:Nat} {l:List HSt} {i:Nat} {x y:HSt}
theorem xv_ (h:¬2 * i+1 < l.length):Y7_ (f+1) (l.map Prod.snd) i=l.map Prod.snd:=by
 conv=>lhs;unfold Y7_
 rw[in_ (fun e=>h (by rw[List.length_map]at e;exact e.1))]
theorem vW_ (h:2 * i+2 < l.length) (hx:l[2 * i+2]? =some x) (hy:l[2 * i+1]? =some y):kR_ (l.map Prod.snd) i=if Xt_ x.2 y.2=true then 2 * i+2 else 2 * i+1:=by
 unfold kR_;rw[List.length_map,Yq_ hx hy]
 cases Xt_ x.2 y.2
 ·rw[in_ sm_,in_ sm_]
 ·rw[ip_ ⟨h,rfl⟩,ip_ rfl]
theorem vV_ (h:¬2 * i+2 < l.length):kR_ (l.map Prod.snd) i=2 * i+1:=by
 unfold kR_;rw[in_ (fun e=>h (by rw[List.length_map]at e;exact e.1))]
theorem Qdf_ (l:List SSt) (i:Nat) (h:2 * i+1 < l.length):i < kR_ l i/\kR_ l i < l.length/\kR_ l i<=2 * i+2:=by
 unfold kR_;split
 ·rename_i e;omega
 ·omega
theorem Qal_ {k:Nat} (h:2 * i+1 < l.length) (hk:kR_ (l.map Prod.snd) i=k) (hx:l[k]? =some x) (hy:l[i]? =some y) (hl:Xt_ x.2 y.2=true):Y7_ (f+1) (l.map Prod.snd) i=Y7_ f ((Vx_ l i k).map Prod.snd) k:=by
 conv=>lhs;unfold Y7_
 rw[hk,ip_ ⟨by rw[List.length_map];exact h,by rw[Yq_ hx hy];exact hl⟩,xL_]
theorem zP_ {k:Nat} (hk:kR_ (l.map Prod.snd) i=k) (hx:l[k]? =some x) (hy:l[i]? =some y) (hl:Xt_ x.2 y.2=false):Y7_ (f+1) (l.map Prod.snd) i=l.map Prod.snd:=by
 conv=>lhs;unfold Y7_
 rw[hk,in_ (fun e=>by rw[Yq_ hx hy,hl]at e;exact absurd e.2 sm_)]
end
theorem QdT_ {ds:List HSt} {n:Nat} (hl:ds.length=n+1) {dl:HSt} (h:ds[n]? =some dl):Vr_ (ds.map Prod.snd)=Y7_ (n+1) (((ds.set 0 dl).take n).map Prod.snd) 0:=by
 unfold Vr_;rw[List.length_map,hl,Nat.add_sub_cancel,List.getD_eq_getElem?_getD,List.getElem?_map,h,List.map_take,List.map_set]
 rfl
theorem HpD.off {B g n c:Nat} {ds:List HSt} {w:World} (h:HpD B (some ⟨g,0,none⟩) n c ds w) {q:Nat} (hq:g≠q) {cs:Array Value} (hb:Blk w q 185 cs) (j:Nat) (u:Value):HpD B (some ⟨g,0,none⟩) n c ds (w.setCell ⟨q,j,none⟩ u):=by
 refine⟨?_,fun d hd=>⟨(h.2 d hd).1,Qt_ (h.2 d hd).2 hb dc_ _ _⟩⟩;have hl:=h.1.len;rcases h.1.own with⟨h0,_⟩|⟨g',e,hB,hn,hc,ho⟩
 ·cases h0
 ·injection e with e;injection e with e;subst e;exact Mine.mk_own (ho.far hq u) hl hB hn hc
theorem grow_cell {w wr:World} {row:ON} (h:w.grownBy wr row) {q:Nat} (hq:w.heap.size<=q) (j:Nat) (u:Value):w.grownBy (wr.setCell ⟨q,j,none⟩ u) row:=
 ⟨h.os,h.tape,h.output,lt_ h.size (by simp[World.setCell]),fun k hk a=>(Below.heap_setCell wr ⟨q,j,none⟩ u k (by dsimp only;omega)).trans (h.block k hk a)⟩
def PopR (B n c g:Nat) (a:HSt) (l:List SSt) (w:World) (e:Ending) (w':World):Prop:=e=R_ (U_ #[S_ (some ⟨g,0,none⟩) n c,A_ #[S_ a.1.1 a.1.2.1 a.1.2.2,I_ j_ a.2.2]])/\HpM B (some ⟨g,0,none⟩) n c l w'/\HIn B w' a/\w.grownBy w' (some g)
theorem jm_ (B g n c:Nat) (ds:List HSt) (E:OA) (n0 k0:Nat) (v0:LI) (O:Int) (w:World) (h:HpD B (some ⟨g,0,none⟩) (n+1) c ds w) (h0:ds[0]? =some ((E,n0,k0),(v0,O))) (hn:n<=1000000):
  Calls prog 271 #[S_ (some ⟨g,0,none⟩) (n+1) c] w (PopR B n c g ((E,n0,k0),(v0,O)) (Vr_ (ds.map Prod.snd)) w):=by
 have hl:=h.len;obtain⟨g',e,bA,bG,bi,a,cs,aT⟩:=h.blk oo;injection e with e;injection e with e;subst e;obtain⟨⟨⟨al,nl,kl⟩,vl,sl⟩,aq⟩:∃d,ds[n]? =some d:=⟨_,gE oo⟩;obtain⟨P,K,_,_⟩:=h.at0 (k:=0) oo h0;obtain⟨T,U,_,_⟩:=h.at0 (k:=n) oo aq;rw[Nat.zero_mul]at P K;rw[Nat.zero_add]at K;obtain⟨R,hR⟩:=ex_ (Vr_ (ds.map Prod.snd));have HR:=h_ (show Y7_ (n+1) (((ds.set 0 ((al,nl,kl),(vl,sl))).take n).map Prod.snd) 0=R by rw[<-hR];exact(QdT_ hl aq).symm);rw[hR];have aN:=h_ (h.2 _ (lm_ h0));have Y:=h.put (i:=0) oo (h.2 _ (lm_ aq));have X:=XP_ w g 0 ((al,nl,kl),(vl,sl));unfold Wv_ at Y X;rw[Nat.zero_mul,Nat.zero_add]at Y X;dsimp only at Y X;have m:=h_ (show((ds.set 0 ((al,nl,kl),(vl,sl))).take n).length=n by rw[List.length_take,List.length_set,hl];omega);generalize aI:(w.setCell ⟨g,0,none⟩ (S_ al nl kl)).setCell ⟨g,1,none⟩ (I_ j_ sl)=w1 at Y X;have aJ:w1.heap.size=w.heap.size:=by rw[<-aI];simp[World.setCell]
 have aD:=h_ (((Y.cut (k:=n) oo ⟨_,rfl⟩).next (br.alloc (lr_ _) (C_ #[S_ none 0 0,I_ j_ 0] 185))).next (br.alloc (lr_ _) (C_ #[S_ E n0 k0,I_ j_ O] 185)));have aA:=h_ (Qz_ X (Z3_ w1 (C_ #[S_ none 0 0,I_ j_ 0] 185) (C_ #[S_ E n0 k0,I_ j_ O] 185)));have aG:=h_ (show Blk ((w1.alloc (C_ #[S_ none 0 0,I_ j_ 0] 185)).alloc (C_ #[S_ E n0 k0,I_ j_ O] 185)) w.heap.size 185 #[S_ none 0 0,I_ j_ 0]from by rw[<-aJ];exact(Blk.new w1 _ _).alloc _);have az:=h_ (show Blk ((w1.alloc (C_ #[S_ none 0 0,I_ j_ 0] 185)).alloc (C_ #[S_ E n0 k0,I_ j_ O] 185)) (w.heap.size+1) 185 #[S_ E n0 k0,I_ j_ O]from by have h:=Blk.new (w1.alloc (C_ #[S_ none 0 0,I_ j_ 0] 185)) 185 #[S_ E n0 k0,I_ j_ O];rw[ws_,aJ]at h;exact h);rw[<-aI]at aD aA aG az;have bv:(n:Int)<=(c:Int):=oo;have aO:=h_ (show ∀q,some g=some q->∃cs,Blk w q 185 cs from fun q e=>by injection e with e;subst e;exact⟨_,aT⟩);clear h h0 aq hR Y X aI aJ aT hl;have Q:=h_ a;go_enter func271,ntmps271;go_wp2;clear P K T U a bi;go_loopw [6] (fun x wr=>∃(i f:Nat) (ds:List HSt),i<=n/\n+1<=i+f/\x=I_ j_ i/\Hid (ds.length=n)/\Hid (Y7_ f (ds.map Prod.snd) i=R)/\Hid (HpD B (some ⟨g,0,none⟩) n c ds wr)/\Hid (w.grownBy wr (some g))/\Hid (Blk wr w.heap.size 185 #[S_ none 0 0,I_ j_ 0])/\Hid (Blk wr (w.heap.size+1) 185 #[S_ E n0 k0,I_ j_ O])) (fun x _=>n - (intOf x).toNat)
 case atStart=>exact⟨0,n+1,_,lz_ _,oo,rfl,m,HR,aD,aA,aG,az⟩
 case round=>
  clear HR aD aA aG az m;obtain⟨i,f,ds,bE,bD,rfl,m,HE,HP,HG,HZ,HF⟩:=hrel;obtain⟨f,rfl⟩:∃q,f=q+1:=⟨f - 1,oo⟩;have a:g < wr.heap.size:=ll_ Q.o HG.o.size;by_cases h1:2 * i+1 < n
  ·obtain⟨k,hk⟩:=ex_ (kR_ (ds.map Prod.snd) i);have aX:=Qdf_ (ds.map Prod.snd) i (by rw[List.length_map,m.o];exact h1);rw[hk,List.length_map,m.o]at aX;obtain⟨aU,ar,aV⟩:=aX;have HK:=h_ hk;clear hk;obtain⟨W0,rfl⟩:∃W0,W0=wr:=⟨_,rfl⟩
   go_upto_if 48 with fail
   obtain⟨p,hp⟩:∃p,p=2 * i+1:=⟨_,rfl⟩;have bx:=h_ hp;have bz:p < n:=oo;rw[show 2 * (i:Int)+1=(p:Int)from oo];obtain⟨z,hz⟩:=ex_ (decide (k=2 * i+2));have ae:=h_ hz;clear hz;go_cut [48] (fun x wx=>x=B_ z/\Hid (Below W0.heap.size W0 wx))
   case first=>
    obtain⟨⟨⟨a2,n2,k2⟩,v2,Z⟩,t⟩:∃d,ds[2 * i+1]? =some d:=⟨_,gE (by rw[m.o];omega)⟩;obtain⟨T,U,bl,F⟩:=HP.o.at0 (k:=2 * i+1) oo t;by_cases h2:2 * i+2 < n
    ·obtain⟨⟨⟨a1,n1,k1⟩,v1,s1⟩,y⟩:∃d,ds[2 * i+2]? =some d:=⟨_,gE (by rw[m.o];omega)⟩;obtain⟨P,K,bk,N⟩:=HP.o.at0 (k:=2 * i+2) oo y;have v:=h_ (fun W h=>ZZ_ a1 n1 k1 v1 s1 a2 n2 k2 v2 Z W oo oo (N.next (w':=W) h) (F.next h));have M:=h_ (vW_ (by rw[m.o];exact h2) y t);have e2:IntKind.i64.wrap ((p:Int)+1)=(p:Int)+1:=(by rw[IntKind.wrap_i64];omega);have e3:decide ((p:Int)+1 < (n:Int))=true:=dt_ oo;have e4:(0:Int)<=(p:Int)+1:=oo;have e5:(p:Int) < (n:Int):=oo;have e6:((p:Int)+1).toNat=p+1:=oo;have e7:(p:Int)+1 < (n:Int):=oo;rw[show 2 * i+2=p+1 from oo]at P K;rw[<-hp]at T U
     cases s:Xt_ (v1,s1) (v2,Z)with
     |true=>
      have ac:Hid (decide (k=2 * i+2)=true):=h_ (by rw[<-HK.o,M.o];dsimp only;rw[s];simp);rw[s]at v;clear s y t N F hp M;go_wp2
      go_region_held3 (fun w'=>w'.cell? ⟨g,(p+1) * 2,none⟩=some (S_ a1 n1 k1)/\w'.cell? ⟨g,(p+1) * 2+1,none⟩=some (I_ j_ s1)/\w'.cell? ⟨g,p * 2,none⟩=some (S_ a2 n2 k2)/\w'.cell? ⟨g,p * 2+1,none⟩=some (I_ j_ Z))
       (first|exact⟨P,K,T,U⟩|exact⟨G,H,I,J⟩)
       ((go_at_call 285;refine(v.o _ (by exact br.drew)).mono ?_;rintro e w8 ⟨rfl,h8⟩;have C:=h_ (show Below W0.heap.size W0 w8 from br.drew.trans h8);obtain⟨b,af⟩:=QW_ C.o;have G:=(b _ _ a).trans P;have H:=(b _ _ a).trans K;have I:=(b _ _ a).trans T;have J:=(b _ _ a).trans U))
      clear e2 e3 e4 e5 e6 e7;go_wp2;go_meet;exact⟨congrArg _ (ac.o.symm.trans ae.o),C⟩
     |false=>
      have ac:Hid (decide (k=2 * i+2)=false):=h_ (by rw[<-HK.o,M.o];dsimp only;rw[s];simp);rw[s]at v;clear s y t N F hp M;go_wp2
      go_region_held3 (fun w'=>w'.cell? ⟨g,(p+1) * 2,none⟩=some (S_ a1 n1 k1)/\w'.cell? ⟨g,(p+1) * 2+1,none⟩=some (I_ j_ s1)/\w'.cell? ⟨g,p * 2,none⟩=some (S_ a2 n2 k2)/\w'.cell? ⟨g,p * 2+1,none⟩=some (I_ j_ Z))
       (first|exact⟨P,K,T,U⟩|exact⟨G,H,I,J⟩)
       ((go_at_call 285;refine(v.o _ (by exact br.drew)).mono ?_;rintro e w8 ⟨rfl,h8⟩;have C:=h_ (show Below W0.heap.size W0 w8 from br.drew.trans h8);obtain⟨b,af⟩:=QW_ C.o;have G:=(b _ _ a).trans P;have H:=(b _ _ a).trans K;have I:=(b _ _ a).trans T;have J:=(b _ _ a).trans U))
      clear e2 e3 e4 e5 e6 e7;go_wp2;go_meet;exact⟨congrArg _ (ac.o.symm.trans ae.o),C⟩
    ·have M:=h_ (vV_ (l:=ds) (i:=i) (by rw[m.o];exact h2));have ac:Hid (decide (k=2 * i+2)=false):=h_ (by rw[<-HK.o,M.o];simp);have e2:IntKind.i64.wrap ((p:Int)+1)=(p:Int)+1:=(by rw[IntKind.wrap_i64];omega);have e1:decide ((p:Int)+1 < (n:Int))=false:=df_ oo;clear t F hp M;go_wp2;go_quiet (fail);go_wp2;go_meet;exact⟨congrArg _ (ac.o.symm.trans ae.o),h_ (below_drewN br _)⟩
   case rest=>
    obtain⟨rfl,D⟩:=hcut;have ax:k=p\/k=p+1:=(by rw[hp,<-HK.o];unfold kR_;split<;>simp);obtain⟨W1,rfl⟩:∃W1,W1=wc:=⟨_,rfl⟩
    go_upto_if 48 with fail
    go_cut [7] (fun x wx=>x=I_ j_ k/\Hid (Below W1.heap.size W1 wx))
    case first=>
     cases z with
     |true=>
      have ag:k=p+1:=(by have:=od_ ae.o;omega);have aC:=h_ ag;clear ag aV aU ar ax;go_wp2;go_meet;exact⟨by rw[aC.o];try go_num,h_ br⟩
     |false=>
      have ag:k=p:=(by have:=of_decide_eq_false ae.o;omega);have aC:=h_ ag;clear ag aV aU ar ax;go_wp2;go_meet;exact⟨by rw[aC.o];try go_num,h_ br⟩
    case rest=>
    obtain⟨rfl,av⟩:=hcut;replace D:=h_ (Qb_ D.o av.o);clear av hp;have V:=h_ (HP.o.next D.o);have an:=h_ (Qz_ HG.o D.o);have ao:=h_ (HZ.o.next D.o);have am:=h_ (HF.o.next D.o);have a:=ll_ a D.o.size;clear HP HG HZ HF D;obtain⟨⟨⟨a1,n1,k1⟩,v1,s1⟩,y⟩:∃d,ds[k]? =some d:=⟨_,gE (by rw[m.o];omega)⟩;obtain⟨⟨⟨a2,n2,k2⟩,v2,Z⟩,t⟩:∃d,ds[i]? =some d:=⟨_,gE (by rw[m.o];omega)⟩;obtain⟨P,K,bk,N⟩:=V.o.at0 (k:=k) ar y;obtain⟨T,U,bl,F⟩:=V.o.at0 (k:=i) oo t;have v:=h_ (fun W h=>ZZ_ a1 n1 k1 v1 s1 a2 n2 k2 v2 Z W oo oo (N.next (w':=W) h) (F.next h));have bF:(k:Int) < (n:Int):=oo;have bC:(i:Int) < (n:Int):=oo
    cases s:Xt_ (v1,s1) (v2,Z)with
    |false=>
     have ad:Hid (R=ds.map Prod.snd):=h_ (by rw[<-HE.o];exact zP_ HK.o y t s);rw[s]at v;clear s y t N F;go_wp2
     go_region_held3 (fun w'=>w'.cell? ⟨g,k * 2,none⟩=some (S_ a1 n1 k1)/\w'.cell? ⟨g,k * 2+1,none⟩=some (I_ j_ s1)/\w'.cell? ⟨g,i * 2,none⟩=some (S_ a2 n2 k2)/\w'.cell? ⟨g,i * 2+1,none⟩=some (I_ j_ Z))
      (first|exact⟨P,K,T,U⟩|exact⟨G,H,I,J⟩)
      ((go_at_call 285;refine(v.o _ (by exact br.drew)).mono ?_;rintro e w8 ⟨rfl,h8⟩;have C:=h_ (show Below wc.heap.size wc w8 from br.drew.trans h8);obtain⟨b,af⟩:=QW_ C.o;have G:=(b _ _ a).trans P;have H:=(b _ _ a).trans K;have I:=(b _ _ a).trans T;have J:=(b _ _ a).trans U))
     have aE:=h_ (V.o.next C.o);have aB:=h_ (Qz_ an.o C.o);have r:=h_ (ao.o.next C.o);have L:=h_ (am.o.next C.o);clear V an ao am P K T U G H I J b af C h8 v;obtain⟨f0,f1⟩:w8.cell? ⟨w.heap.size+1,0,none⟩=some (S_ E n0 k0)/\w8.cell? ⟨w.heap.size+1,1,none⟩=some (I_ j_ O):=⟨L.o.cell 0,L.o.cell 1⟩;obtain⟨r0,r1⟩:w8.cell? ⟨w.heap.size,0,none⟩=some (S_ none 0 0)/\w8.cell? ⟨w.heap.size,1,none⟩=some (I_ j_ 0):=⟨r.o.cell 0,r.o.cell 1⟩;have rf:=r.o.frozen;have rl:=r.o.lt;have fl:=L.o.lt;have A:g≠w.heap.size:=(by have:=Q.o;omega);have aF:=h_ (((aE.o.off A r.o 0 (S_ E n0 k0)).off A (r.o.set_ 0 (S_ E n0 k0)) 1 (I_ j_ O)).next br.drew);have ab:=h_ (Qz_ (grow_cell (grow_cell aB.o (lr_ _) 0 (S_ E n0 k0)) (lr_ _) 1 (I_ j_ O)) br.drew);go_wp2
     go_region
     go_wp2_with fail
     refine bodyPost_ret (by simp[results,Tryz.results271,go_sem,r0,r1];try rfl) rfl ?_;exact⟨rfl,⟨ds,ad.o.symm,aF.o⟩,aN.o.grown ab.o aO.o,ab.o⟩
    |true=>
     have ad:Hid (Y7_ f ((Vx_ ds i k).map Prod.snd) k=R):=h_ (by rw[<-HE.o];exact(Qal_ (by rw[m.o];exact h1) HK.o y t s).symm);have bb:=h_ (fun W (h:HpD B (some ⟨g,0,none⟩) n c ds W)=>h.swap (i:=i) (j:=k) oo ar t y);rw[s]at v;clear s y t N F;go_wp2
     go_region_held3 (fun w'=>w'.cell? ⟨g,k * 2,none⟩=some (S_ a1 n1 k1)/\w'.cell? ⟨g,k * 2+1,none⟩=some (I_ j_ s1)/\w'.cell? ⟨g,i * 2,none⟩=some (S_ a2 n2 k2)/\w'.cell? ⟨g,i * 2+1,none⟩=some (I_ j_ Z))
      (first|exact⟨P,K,T,U⟩|exact⟨G,H,I,J⟩)
      ((go_at_call 285;refine(v.o _ (by exact br.drew)).mono ?_;rintro e w8 ⟨rfl,h8⟩;have C:=h_ (show Below wc.heap.size wc w8 from br.drew.trans h8);obtain⟨b,af⟩:=QW_ C.o;have G:=(b _ _ a).trans P;have H:=(b _ _ a).trans K;have I:=(b _ _ a).trans T;have J:=(b _ _ a).trans U))
     have aR:=h_ (V.o.next C.o);have ba:=h_ (Qz_ an.o C.o);have bd:=h_ (ao.o.next C.o);have a8:=h_ (am.o.next C.o);have bs:=ll_ a C.o.size;have bB:g < w.heap.size:=Q.o;have bq:∀o,w8.frozen? ⟨g,o,none⟩=false:=(by obtain⟨q,e,_,_,hf,_⟩:=aR.o.blk oo;injection e with e;injection e with e;rw[e];exact hf);clear P K T U b af C h8 a v V an ao am;go_wp2
     go_region
     have aS:=h_ ((bb.o _ aR.o).next br.drew);have aP:=h_ (Qz_ (grow_put (grow_put ba.o (.inl rfl) i ((a1,n1,k1),(v1,s1))) (.inl rfl) k ((a2,n2,k2),(v2,Z))) br.drew);unfold Wv_ at aS aP;have A:w.heap.size≠g:=oo;have S:w.heap.size+1≠g:=oo;have be:=h_ (((((bd.o.far (p:=⟨g,i * 2,none⟩) A (S_ a1 n1 k1)).far (p:=⟨g,i * 2+1,none⟩) A (I_ j_ s1)).far (p:=⟨g,k * 2,none⟩) A (S_ a2 n2 k2)).far (p:=⟨g,k * 2+1,none⟩) A (I_ j_ Z)).drew);have a9:=h_ (((((a8.o.far (p:=⟨g,i * 2,none⟩) S (S_ a1 n1 k1)).far (p:=⟨g,i * 2+1,none⟩) S (I_ j_ s1)).far (p:=⟨g,k * 2,none⟩) S (S_ a2 n2 k2)).far (p:=⟨g,k * 2+1,none⟩) S (I_ j_ Z)).drew);go_wp2;go_roundw
     case rel=>exact⟨k,f,Vx_ ds i k,oo,oo,rfl,h_ (by rw[Ga_];exact m.o),ad,aS,aP,be,a9⟩
     case measure=>simp[intOf];omega
  ·have ad:Hid (R=ds.map Prod.snd):=h_ (by rw[<-HE.o];exact xv_ (by rw[m.o];exact h1));have aE:=HP;have aB:=HG;have r:=HZ;have L:=HF;obtain⟨f0,f1⟩:wr.cell? ⟨w.heap.size+1,0,none⟩=some (S_ E n0 k0)/\wr.cell? ⟨w.heap.size+1,1,none⟩=some (I_ j_ O):=⟨L.o.cell 0,L.o.cell 1⟩;obtain⟨r0,r1⟩:wr.cell? ⟨w.heap.size,0,none⟩=some (S_ none 0 0)/\wr.cell? ⟨w.heap.size,1,none⟩=some (I_ j_ 0):=⟨r.o.cell 0,r.o.cell 1⟩;have rf:=r.o.frozen;have rl:=r.o.lt;have fl:=L.o.lt;have A:g≠w.heap.size:=(by have:=Q.o;omega);have aF:=h_ (((aE.o.off A r.o 0 (S_ E n0 k0)).off A (r.o.set_ 0 (S_ E n0 k0)) 1 (I_ j_ O)).next br.drew);have ab:=h_ (Qz_ (grow_cell (grow_cell aB.o (lr_ _) 0 (S_ E n0 k0)) (lr_ _) 1 (I_ j_ O)) br.drew);go_wp2
   go_region
   go_wp2_with fail
   refine bodyPost_ret (by simp[results,Tryz.results271,go_sem,r0,r1];try rfl) rfl ?_;exact⟨rfl,⟨ds,ad.o.symm,aF.o⟩,aN.o.grown ab.o aO.o,ab.o⟩
end Go.Proofs.YtbiijipkgfpgoaaGreatDoor

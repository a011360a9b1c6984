/-
  Put together by program.
-/
import Derived.Test.YtbiijipkgfpgoaaGreatDoorMfC
import Derived.Deep.CutBlock
set_option maxRecDepth 100000
set_option linter.all false
set_option maxHeartbeats 25600000
open Go.Proofs.Tryz
open Go.Value renaming int→I_,slice→S_,string→T_,bool→B_,agg→A_,tuple→U_
open Go.IntKind renaming i64→j_
open Go.Obj renaming cells→C_
open Go.Ending renaming returned→R_
namespace Go.Proofs.YtbiijipkgfpgoaaGreatDoor
open Go.RowKit
theorem kA_ {l:LI} {n:Nat} (hl:l.length=n) (hn:0 < n):∃x r,l=x::r/\l[0]? =some x/\r.length+1=n:=by
 match l,hl with
 |[],hl=>simp at hl;omega
 |x::r,hl=>exact⟨x,r,rfl,rfl,by simpa using hl⟩
theorem Qbg_ (A:OA) (n c:Nat) (l:LI) (w:World) (hn:n<=4096) (hc:n<=c) (hl:Hid (l.length=n)) (g:Rd w 1 A n (Qa_ l)):
  Calls prog 173 #[I_ j_ 10,S_ A n c] w (RB_ (B_ (kfB 10 l)) w):=by
 have f:=h_ (fun c=>Ku_ A n c l w oo hl g);have j:kfB 10 l=(decide (2<=n)&&Jg_ Qk_ l&&(l.drop 1).all (isK 5)):=by rw[<-hl.o];rfl
 rw[j];clear j;by_cases ht:2<=n
 ·rw[dt_ ht,Bool.true_and];obtain⟨x,r,s,hd,y⟩:=kA_ hl.o oo;obtain⟨b,off,rfl,t,c0⟩:=Qu_ g oo hd;have m:=h_ (UL_ g hl.o (oo:n - 1+1=n));have i:=h_ (fun(v:Bool) (j:Qk_ x=v) (W:World)=>show Calls prog 213 #[I_ j_ x] W fun e w'=>e=R_ (B_ v)/\W=w' by rw[<-j];exact Z0_ _ W);have q:Jg_ Qk_ l=Qk_ x:=by rw[s];rfl
  rw[q];have i1:(2:Int)<=n:=oo;simp only[Nat.add_zero]at c0
  cases k:Qk_ x with
  |false=>
   have d:=h_ (i.o _ k);rw[Bool.false_and];clear i k hd g q s m;generalize l.all Qk_=u at f;go_enter func173,ntmps173;go_wp2_with fail
   refine(f.o _).mono ?_;rintro e w1 ⟨rfl,a⟩;obtain⟨o,p⟩:=QW_ a;go_wp2_with (go_at_call 213;refine(d.o _).mono ?_;rintro e w1 ⟨rfl,rfl⟩)
   go_ret;exact⟨rfl,a⟩
  |true=>
   have d:=h_ (i.o _ k);rw[Bool.true_and];have HL:=h_ (fun w1 (h:Below w.heap.size w w1) c=>Qe3_ (some ⟨b,off+1,none⟩) (n - 1) c (l.drop 1) w1 oo (h_ (by rw[List.length_drop,hl.o])) (m.o.next h));have e1:(n:Int) - 1=((n - 1:Nat):Int):=oo;clear i k hd g q s m;generalize l.all Qk_=u at f;generalize (l.drop 1).all (isK 5)=v at HL |-
   go_enter func173,ntmps173;go_wp2_with fail
   refine(f.o _).mono ?_;rintro e w1 ⟨rfl,a⟩;obtain⟨o,p⟩:=QW_ a;go_wp2_with fail
   refine(d.o _).mono ?_;rintro e w1 ⟨rfl,rfl⟩;go_wp2_with fail
   refine(HL.o _ a _).mono ?_;rintro e w3 ⟨rfl,h3⟩;go_wp2;go_ret;exact⟨rfl,Qb_ a h3⟩
 ·rw[df_ ht,Bool.false_and,Bool.false_and];have i1:¬(2:Int)<=n:=oo;clear g;generalize l.all Qk_=u at f;go_enter func173,ntmps173;go_wp2_with (go_at_call 212;refine(f.o _).mono ?_;rintro e w1 ⟨rfl,a⟩)
  go_ret;exact⟨rfl,a⟩
theorem QiV_ (A:OA) (n c:Nat) (l:LI) (w:World) (hn:n<=4096) (hc:n<=c) (hl:Hid (l.length=n)) (g:Rd w 1 A n (Qa_ l)):
  Calls prog 173 #[I_ j_ 16,S_ A n c] w (RB_ (B_ (kfB 16 l)) w):=by
 have f:=h_ (fun c=>Ku_ A n c l w oo hl g);have k:kfB 16 l=(decide (2<=n/\n<=3)&&Jg_ Qk_ l&&(l.drop 1).all (isK 18)):=by rw[<-hl.o];rfl
 rw[k];clear k;by_cases ht:2<=n/\n<=3
 ·rw[dt_ ht,Bool.true_and];obtain⟨x,r,t,hd,z⟩:=kA_ hl.o oo;obtain⟨b,off,rfl,y,c0⟩:=Qu_ g oo hd;have o:=h_ (UL_ g hl.o (oo:n - 1+1=n));have i:=h_ (fun(v:Bool) (k:Qk_ x=v) (W:World)=>show Calls prog 213 #[I_ j_ x] W fun e w'=>e=R_ (B_ v)/\W=w' by rw[<-k];exact Z0_ _ W);have s:Jg_ Qk_ l=Qk_ x:=by rw[t];rfl
  rw[s];have j:=h_ (fun W=>Q2_ (show inB (n:Int) 2 3=true from dt_ oo) W);simp only[Nat.add_zero]at c0
  cases m:Qk_ x with
  |false=>
   have d:=h_ (i.o _ m);rw[Bool.false_and];clear i m hd g s t o;generalize l.all Qk_=u at f;go_enter func173,ntmps173;go_wp2_with fail
   refine(f.o _).mono ?_;rintro e w1 ⟨rfl,a⟩;obtain⟨p,q⟩:=QW_ a;go_wp2_with fail
   refine(j.o _).mono ?_;rintro e w5 ⟨rfl,rfl⟩;go_wp2_with fail
   refine(d.o _).mono ?_;rintro e w1 ⟨rfl,rfl⟩;go_wp2;go_ret;exact⟨rfl,a⟩
  |true=>
   have d:=h_ (i.o _ m);rw[Bool.true_and];have HL:=h_ (fun w1 (h:Below w.heap.size w w1) c=>Qco_ (some ⟨b,off+1,none⟩) (n - 1) c (l.drop 1) w1 oo (h_ (by rw[List.length_drop,hl.o])) (o.o.next h));have e1:(n:Int) - 1=((n - 1:Nat):Int):=oo;clear i m hd g s t o;generalize l.all Qk_=u at f;generalize (l.drop 1).all (isK 18)=v at HL |-
   go_enter func173,ntmps173;go_wp2_with fail
   refine(f.o _).mono ?_;rintro e w1 ⟨rfl,a⟩;obtain⟨p,q⟩:=QW_ a;go_wp2_with fail
   refine(j.o _).mono ?_;rintro e w5 ⟨rfl,rfl⟩;go_wp2_with fail
   refine(d.o _).mono ?_;rintro e w1 ⟨rfl,rfl⟩;go_wp2_with fail
   refine(HL.o _ a _).mono ?_;rintro e w3 ⟨rfl,h3⟩;go_wp2;go_ret;exact⟨rfl,Qb_ a h3⟩
 ·rw[df_ ht,Bool.false_and,Bool.false_and];have j:=h_ (fun W=>Q2_ (show inB (n:Int) 2 3=false from df_ oo) W);clear g;generalize l.all Qk_=u at f;go_enter func173,ntmps173;go_wp2_with fail
  refine(f.o _).mono ?_;rintro e w1 ⟨rfl,a⟩;go_wp2_with fail
  refine(j.o _).mono ?_;rintro e w5 ⟨rfl,rfl⟩;go_wp2;go_ret;exact⟨rfl,a⟩
theorem Qfz_ (A:OA) (n c:Nat) (l:LI) (w:World) (hn:n<=4096) (hc:n<=c) (hl:Hid (l.length=n)) (g:Rd w 1 A n (Qa_ l)):
  Calls prog 173 #[I_ j_ 17,S_ A n c] w (RB_ (B_ (kfB 17 l)) w):=by
 have f:=h_ (fun c=>Ku_ A n c l w oo hl g);have j:kfB 17 l=(decide (n=2)&&Jg_ Qk_ l&&(l.drop 1).all (isK 18)):=by rw[<-hl.o];rfl
 rw[j];clear j;by_cases t:n=2
 ·rw[dt_ t,Bool.true_and];obtain rfl:n=2:=t;obtain⟨x,y,h⟩:∃x y,l=[x,y]:=by
   match l,hl.o with
   |[x,y],_=>exact⟨x,y,rfl⟩
  obtain⟨b,off,rfl,z,c0⟩:=Qu_ (k:=0) (x:=x) g oo (by rw[h];rfl);obtain⟨b',B,o,p,c1⟩:=Qu_ (k:=1) (x:=y) g oo (by rw[h];rfl);injection o with o;injection o with e41 e42;subst e41;subst e42;have i:=h_ (fun(v:Bool) (j:Qk_ x=v) (W:World)=>show Calls prog 213 #[I_ j_ x] W fun e w'=>e=R_ (B_ v)/\W=w' by rw[<-j];exact Z0_ _ W);have HB:=h_ (fun(W:World)=>Ji_ y W);have s:(Jg_ Qk_ l&&(l.drop 1).all (isK 18))=(Qk_ x&&isK 18 y):=by rw[h];simp[Jg_]
  rw[s];simp only[Nat.add_zero]at c0
  cases m:Qk_ x with
  |false=>
   have a:=h_ (i.o _ m);rw[Bool.false_and];clear i m g s h;generalize l.all Qk_=u at f;go_enter func173,ntmps173;go_wp2_with fail
   refine(f.o _).mono ?_;rintro e w1 ⟨rfl,d⟩;obtain⟨q,r⟩:=QW_ d;go_wp2_with fail
   refine(a.o _).mono ?_;rintro e w1 ⟨rfl,rfl⟩;go_wp2;go_ret;exact⟨rfl,d⟩
  |true=>
   have a:=h_ (i.o _ m);rw[Bool.true_and];clear i m g s h;generalize l.all Qk_=u at f;generalize isK 18 y=v at HB |-
   go_enter func173,ntmps173;go_wp2_with fail
   refine(f.o _).mono ?_;rintro e w1 ⟨rfl,d⟩;obtain⟨q,r⟩:=QW_ d;go_wp2_with fail
   refine(a.o _).mono ?_;rintro e w1 ⟨rfl,rfl⟩;go_wp2_with fail
   refine(HB.o _).mono ?_;rintro e w1 ⟨rfl,rfl⟩;go_wp2;go_ret;exact⟨rfl,d⟩
 ·rw[df_ t,Bool.false_and,Bool.false_and];have i1:((n:Int)==2)=false:=by rw[bn_];omega
  clear g;generalize l.all Qk_=u at f;go_enter func173,ntmps173;go_wp2_with fail
  refine(f.o _).mono ?_;rintro e w1 ⟨rfl,d⟩;go_wp2;go_ret;exact⟨rfl,d⟩
theorem kV_ (kind:Int) (A:OA) (n c:Nat) (l:LI) (w:World) (b:n<=4096) (a:n<=c) (hl:Hid (l.length=n)) (d:Rd w 1 A n (Qa_ l)):
  Calls prog 173 #[I_ j_ kind,S_ A n c] w (RB_ (B_ (kfB kind l)) w):=by
 by_cases h:1<=kind/\kind<=22
 ·have h2:kind=1\/kind=2\/kind=3\/kind=4\/kind=5\/kind=6\/kind=7\/kind=8\/kind=9\/kind=10\/kind=11\/kind=12\/kind=13\/kind=14\/kind=15\/kind=16\/kind=17\/kind=18\/kind=19\/kind=20\/kind=21\/kind=22:=oo;rcases h2 with rfl|rfl|rfl|rfl|rfl|rfl|rfl|rfl|rfl|rfl|rfl|rfl|rfl|rfl|rfl|rfl|rfl|rfl|rfl|rfl|rfl|rfl
  ·exact qA_ A n c l w b a hl d 1 oo
  ·exact qA_ A n c l w b a hl d 2 oo
  ·exact qA_ A n c l w b a hl d 3 oo
  ·exact Qhi_ A n c l w b a hl d
  ·exact Qhf_ A n c l w b a hl d 5 oo
  ·exact vU_ A n c l w b a hl d 6 oo
  ·exact Qfv_ A n c l w b a hl d 7 oo
  ·exact Qhj_ A n c l w b a hl d 8 oo
  ·exact QiU_ A n c l w b a hl d
  ·exact Qbg_ A n c l w b a hl d
  ·exact vU_ A n c l w b a hl d 11 oo
  ·exact Qgn_ A n c l w b a hl d 12 oo
  ·exact vU_ A n c l w b a hl d 13 oo
  ·exact vU_ A n c l w b a hl d 14 oo
  ·exact Qgn_ A n c l w b a hl d 15 oo
  ·exact QiV_ A n c l w b a hl d
  ·exact Qfz_ A n c l w b a hl d
  ·exact Qft_ A n c l w b a hl d
  ·exact qA_ A n c l w b a hl d 19 oo
  ·exact Qde_ A n c l w b a hl d
  ·exact Qfx_ A n c l w b a hl d
  ·exact Qhg_ A n c l w b a hl d
 ·exact Qhk_ A n c l w b a hl d kind h
def Qc_ (ps:List PN) (j:Int):Int:=match ps[j.toNat]? with|some z=>z.kind|none=>0
theorem Qr_ {ps:List PN} {j:Nat} {z:PN} (h:ps[j]? =some z):Qc_ ps (j:Int)=z.kind:=by unfold Qc_;rw[it_,h]
def Zt_ (ps:List PN) (kind:Int) (i:Nat) (kid:Int):Bool:=
 match ps[kid.toNat]? with
 |some y=>if y.kind=5 then (match y.kids with|[]=>false|j::_=>inB j 0 ((ps.length:Int) - 1)&&(!(kind==10&&decide (0 < i))||Qc_ ps j==1))else true
 |none=>false
section
variable {ps:List PN} {kind:Int} {i k:Nat} {y z:PN} {j:Int} {js:LI}
theorem kk_ (h:ps[k]? =some y) (h5:¬y.kind=5):Zt_ ps kind i (k:Int)=true:=by unfold Zt_;rw[it_,h];simp only;rw[in_ h5]
theorem jc_ (h:ps[k]? =some y) (h5:y.kind=5) (hk:y.kids=[]):Zt_ ps kind i (k:Int)=false:=by unfold Zt_;rw[it_,h];simp only;rw[ip_ h5,hk]
theorem QaJ_ (h:ps[k]? =some y) (h5:y.kind=5) (hk:y.kids=j::js) (hj:inB j 0 ((ps.length:Int) - 1)=false):Zt_ ps kind i (k:Int)=false:=by unfold Zt_;rw[it_,h];simp only;rw[ip_ h5,hk];simp only;rw[hj,Bool.false_and]
theorem QcB_ (h:ps[k]? =some y) (h5:y.kind=5) (hk:y.kids=j::js) (hj:inB j 0 ((ps.length:Int) - 1)=true):Zt_ ps kind i (k:Int)=(!(kind==10&&decide (0 < i))||Qc_ ps j==1):=by unfold Zt_;rw[it_,h];simp only;rw[ip_ h5,hk];simp only;rw[hj,Bool.true_and]
end
def Kd_ (p:Nat->Int->Bool) (l:LI):Bool:=l.zipIdx.all (fun q=>p q.2 q.1)
theorem ZF_ {p:Nat->Int->Bool} {l:LI} {k:Nat} {x:Int} (hx:l[k]? =some x) (hp:p k x=false):Kd_ p l=false:=by
 unfold Kd_;rw[List.all_eq_false];exact⟨(x,k),by rw[List.mem_zipIdx_iff_getElem?];exact hx,by simp[hp]⟩
theorem XD_ {p:Nat->Int->Bool} {l:LI} (h:∀j x,l[j]? =some x->p j x=true):Kd_ p l=true:=by
 unfold Kd_;rw[List.all_eq_true];rintro⟨x,j⟩ hm;rw[List.mem_zipIdx_iff_getElem?]at hm;exact h j x hm
theorem Z4_ {p:Nat->Int->Bool} {l:LI} {k:Nat} {x:Int} (h:Kd_ p l=true) (hx:l[k]? =some x):p k x=true:=by
 cases hp:p k x with
 |true=>rfl
 |false=>rw[ZF_ hx hp]at h;cases h
theorem x4_ {p q:Nat->Int->Bool} {l:LI} (h:∀j x,l[j]? =some x->p j x=q j x):Kd_ p l=Kd_ q l:=by
 cases b:Kd_ q l with
 |true=>exact XD_ (fun j x a=>by rw[h j x a];exact Z4_ b a)
 |false=>
  cases hp:Kd_ p l with
  |false=>rfl
  |true=>rw[XD_ (fun j x a=>by rw[<-h j x a];exact Z4_ hp a)]at b;cases b
def AllI (p:Nat->Int->Bool) (l:LI) (k:Nat):Prop:=∀j x,j < k->l[j]? =some x->p j x=true
theorem Jz_ (p:Nat->Int->Bool) (l:LI):AllI p l 0:=fun j x h=>absurd h oo
theorem XE_ {p:Nat->Int->Bool} {l:LI} {k:Nat} {x:Int} (h:AllI p l k) (hx:l[k]? =some x) (hp:p k x=true):AllI p l (k+1):=by
 intro j y hj a;by_cases e:j=k
 ·subst e;rw[hx]at a;obtain rfl:=oi_ a;exact hp
 ·exact h j y oo a
theorem Ux_ {p:Nat->Int->Bool} {l:LI} {k:Nat} (h:AllI p l k) (hk:l.length<=k):Kd_ p l=true:=
 XD_ (fun j x hx=>h j x (by have:=(gs_.1 hx).1;omega) hx)
def Yh_ (ps:List PN) (kind:Int) (kids:LI):Bool:=Kd_ (Zt_ ps kind) kids
theorem Qbb_ (A:OA) (n c:Nat) (j:Int) (w:World):Calls prog 121 #[S_ A n c,I_ j_ j] w fun e w'=>e=R_ (B_ (inB j 0 ((n:Int) - 1)))/\w=w':=by
 by_cases h0:0<=j
 ·by_cases h1:j < n
  ·rw[ju_ h0 oo];go_enter func121,ntmps121;go_wp2;go_ret;exact⟨rfl,rfl⟩
  ·rw[vO_ oo];go_enter func121,ntmps121;go_wp2;go_ret;exact⟨rfl,rfl⟩
 ·rw[Qc8_ h0];go_enter func121,ntmps121;go_wp2;go_ret;exact⟨rfl,rfl⟩
theorem Ym_ {n:Nat} {j:Int} {v:Bool} (h:inB j 0 ((n:Int) - 1)=v) (A:OA) (c:Nat) (w:World):Calls prog 121 #[S_ A n c,I_ j_ j] w (RS_ (B_ v) w):=by rw[<-h];exact Qbb_ A n c j w
theorem kl_ (A:OA) (n c:Nat) (ps:List PN) (kind:Int) (text:BA) (kids:LI) (z:Bool) (A':OA) (m c':Nat) (w:World) (hn:n<=1048576) (hm:m<=1048576) (H:Nps w A n ps) (P:Hid (kids.length=m)) (hk:Rd w 1 A' m (Qa_ kids)) (ab:Hid (∀x∈kids,0<=x/\x < (n:Int))) (hb:Hid (∀p∈ps,p.kids.length<=1048576)):
  Calls prog 174 #[S_ A n c,A_ #[I_ j_ kind,T_ text,S_ A' m c',B_ z]] w (RB_ (B_ (Yh_ ps kind kids)) w):=by
 have V:=h_ H;have HK:=h_ hk;have HL:=h_ H.len;have M:=Blk.new w 96 #[I_ j_ kind,T_ text,S_ A' m c',B_ z];clear H hk;go_enter func174,ntmps174;go_wp2;go_loopw [11] (fun i wr=>∃k:Nat,k<=m/\Hid (AllI (Zt_ ps kind) kids k)/\i=I_ j_ k/\Blk wr w.heap.size 96 #[I_ j_ kind,T_ text,S_ A' m c',B_ z]/\Below w.heap.size w wr) (fun i _=>m - (intOf i).toNat)
 case atStart=>exact⟨0,lz_ _,Jz_ _ kids,rfl,M,grow_⟩
 case round=>
  clear M;obtain⟨k,al,B,rfl,K,F⟩:=hrel;have k0:=K.cell 0;simp only[List.getElem?_toArray,List.getElem?_cons_zero]at k0;have kz:=K.lt;by_cases ad:k < m
  ·obtain⟨x,hd⟩:∃d,kids[k]? =some d:=⟨_,gE (by have:=P.o;omega)⟩;have hx:=ab.o x (lm_ hd);obtain⟨q,rfl⟩:=eo_ hx.1;have Q:q < n:=oo;have g0:(0:Int)<=(q:Int):=oo;have g1:(q:Int) < n:=oo;obtain⟨b,off,rfl,ah,cx⟩:=Qu_ (HK.o.below F) ad hd;obtain⟨y,t⟩:=V.o.get Q;obtain⟨b2,T,A2,c2,rfl,Y,y0,y1,y2,y3,C⟩:=(V.o.below F).at_ Q t;have am:=hb.o y (lm_ t);clear hx;by_cases J:y.kind=5
   ·have e5:(y.kind==5)=true:=by rw[beq_iff_eq];exact J
    cases a:y.kids with
    |nil=>
     have l:=h_ (ZF_ (p:=Zt_ ps kind) hd (jc_ t J a));rw[a]at y2;clear B hd t C;go_wp2;go_ret;exact⟨Qg_ (by unfold Yh_;exact l.o.symm),grow_⟩
    |cons j js=>
     have ae:0 < y.kids.length:=(by rw[a];simp);have ac:y.kids[0]? =some j:=(by rw[a];rfl);obtain⟨b3,ai,rfl,Z,cj⟩:=Qu_ C ae ac;simp only[Nat.add_zero]at cj;have i1:((y.kids.length:Int)==0)=false:=(by rw[bn_];omega);have i2:(0:Int) < y.kids.length:=oo;have U:=h_ (fun(v:Bool) (h:inB j 0 ((n:Int) - 1)=v) c W=>Ym_ (n:=n) h (some ⟨b2,T,none⟩) c W)
     cases g:inB j 0 ((n:Int) - 1)with
     |false=>
      have l:=h_ (ZF_ (p:=Zt_ ps kind) hd (QaJ_ (kind:=kind) (i:=k) t J a (by rw[HL.o];exact g)));have o:=h_ (U.o _ g);clear B hd t C U g a;go_wp2_with (go_at_call 121;refine(o.o _ _).mono ?_;rintro e w1 ⟨rfl,rfl⟩)
      go_ret;exact⟨Qg_ (by unfold Yh_;exact l.o.symm),grow_⟩
     |true=>
      have f:=QcB_ (kind:=kind) (i:=k) t J a (by rw[HL.o];exact g);have o:=h_ (U.o _ g);have N:=od_ g;obtain⟨r,rfl⟩:=eo_ N.1;have R:r < n:=oo;have g2:(0:Int)<=(r:Int):=oo;have g3:(r:Int) < n:=oo;obtain⟨zz,I⟩:=V.o.get R;obtain⟨b4,aj,A4,c4,X,aa,z0,z1,z2,z3,af⟩:=(V.o.below F).at_ R I;injection X with X;injection X with e41 e42;subst e41;subst e42;rw[Qr_ I]at f;clear I af z1 z2 z3 N U C g;by_cases E:kind=10/\0 < k
      ·obtain⟨O,G⟩:=E;subst O;have ik:(0:Int) < (k:Int):=oo;rw[show((10:Int)==10)=true from rfl,dt_ G]at f
       cases D:(zz.kind==1)with
       |true=>
        have s:=h_ (XE_ (p:=Zt_ ps 10) B.o hd (by rw[f,D];rfl));clear B hd t f a;have S:(zz.kind != 1)=false:=(by unfold bne;rw[D];rfl);go_wp2_with (go_at_call 121;refine(o.o _ _).mono ?_;rintro e w1 ⟨rfl,rfl⟩)
        go_roundw
        case rel=>exact⟨k+1,oo,s,by go_num,K.alloc _,grow_⟩
        case measure=>exact ms_
       |false=>
        have l:=h_ (ZF_ (p:=Zt_ ps 10) hd (by rw[f,D];rfl));clear B hd t f a;have S:(zz.kind != 1)=true:=(by unfold bne;rw[D];rfl);go_wp2_with (go_at_call 121;refine(o.o _ _).mono ?_;rintro e w1 ⟨rfl,rfl⟩)
        go_ret;exact⟨Qg_ (by unfold Yh_;exact l.o.symm),grow_⟩
      ·have s:=h_ (XE_ (p:=Zt_ ps kind) B.o hd (by
        rw[f];by_cases h1:kind=10
        ·rw[df_ (show ¬0 < k from fun h=>E ⟨h1,h⟩),Bool.and_false];rfl
        ·rw[show(kind==10)=false by rw[bn_];exact h1];rfl))
       clear B hd t f a;by_cases L:kind=10
       ·subst L;have ik:¬(0:Int) < (k:Int):=oo;go_wp2_with (go_at_call 121;refine(o.o _ _).mono ?_;rintro e w1 ⟨rfl,rfl⟩)
        go_roundw
        case rel=>exact⟨k+1,oo,s,by go_num,K.alloc _,grow_⟩
        case measure=>exact ms_
       ·have an:(kind==10)=false:=(by rw[bn_];exact L);go_wp2_with (go_at_call 121;refine(o.o _ _).mono ?_;rintro e w1 ⟨rfl,rfl⟩)
        go_roundw
        case rel=>exact⟨k+1,oo,s,by go_num,K.alloc _,grow_⟩
        case measure=>exact ms_
   ·have e5:(y.kind==5)=false:=(by rw[bn_];exact J);have ak:(y.kind != 5)=true:=(by unfold bne;rw[e5];rfl);have s:=h_ (XE_ (p:=Zt_ ps kind) B.o hd (kk_ t J));clear B hd t C;go_wp2;go_roundw
    case rel=>exact⟨k+1,oo,s,by go_num,K.alloc _,grow_⟩
    case measure=>exact ms_
  ·have l:=h_ (Ux_ B.o (by have:=P.o;omega));clear B;go_wp2;go_ret;exact⟨Qg_ (by unfold Yh_;exact l.o.symm),grow_⟩
theorem JD_ (w:World) (u:Value) (t:TypeId):∀j v,[u][j]? =some v->(w.alloc (C_ #[u] t)).cell? ((⟨w.heap.size,0,none⟩:Addr).add j)=some v:=by
 intro j v a
 match j,a with
 |0,a=>
  obtain rfl:=oi_ a;exact(Blk.new w t #[u]).cell 0
 |j+1,a=>simp at a
theorem Ws_ {w:World} {B:Nat} {e:TypeId} {s:Nat} {v:Value} {n:Nat} {xs:List Value} (h:w.ownsRow B e s v n xs) {g:Nat} (hg:v.ownBlock=some g):B<=g:=by
 rcases h.2 with⟨rfl,_⟩|⟨g',cap,a,rfl,b,_⟩
 ·simp[Value.ownBlock]at hg
 ·simp[Value.ownBlock]at hg;omega
def Gf_ (k:Int):Bool:=VW_ k||Ka_ k||k==21
def Un_ (k:Nat) (kids:LI) (i:Nat) (x:Int):Bool:=inB x 0 ((k:Int) - 1)&&!(kids.take i).contains x
def JP_ (k:Nat) (kids:LI):Bool:=Kd_ (Un_ k kids) kids
def Qe_ (ps:List PN) (kids:LI):LI:=kids.map (Qc_ ps)
def Za_ (ps:List PN) (k:Nat):Bool:=
 match ps[k]? with
 |some x=>decide (x.kids.length<=12)&&Zi_ x.kind x.text&&JP_ k x.kids&&(kfB x.kind (Qe_ ps x.kids)&&(Yh_ ps x.kind x.kids&&(Gf_ x.kind||!x.blank)))
 |none=>false
def QbH_ (ps:List PN) (k:Int):Bool:=if 0<=k/\k < (ps.length:Int)then Za_ ps k.toNat else false
def PNs (ps:List PN):Prop:=∀p∈ps,p.text.size<=1048576/\p.kids.length<=1048576
section
variable {ps:List PN} {k:Nat} {x:PN}
theorem zJ_ (h:ps[k]? =some x) (h1:¬x.kids.length<=12):Za_ ps k=false:=by unfold Za_;rw[h];simp[h1]
theorem QbG_ (h:ps[k]? =some x) (h1:Zi_ x.kind x.text=false):Za_ ps k=false:=by unfold Za_;rw[h];simp[h1]
theorem zI_ (h:ps[k]? =some x) (h1:JP_ k x.kids=false):Za_ ps k=false:=by unfold Za_;rw[h];simp[h1]
theorem QbF_ (h:ps[k]? =some x) (h1:x.kids.length<=12) (h2:Zi_ x.kind x.text=true) (h3:JP_ k x.kids=true):Za_ ps k=(kfB x.kind (Qe_ ps x.kids)&&(Yh_ ps x.kind x.kids&&(Gf_ x.kind||!x.blank))):=by unfold Za_;rw[h];simp[h1,h2,h3]
theorem QdL_ {k:Int} (h:¬(0<=k/\k < (ps.length:Int))):QbH_ ps k=false:=by unfold QbH_;rw[in_ h]
theorem v6_ (h:k < ps.length):QbH_ ps (k:Int)=Za_ ps k:=by unfold QbH_;rw[ip_ ⟨oo,oo⟩,it_]
end
theorem Qbi_ {ps:List PN} {kids:LI} {t:Nat} {q:Nat} {y:PN} (hd:kids[t]? =some (q:Int)) (hy:ps[q]? =some y):Qe_ ps (kids.take (t+1))=Qe_ ps (kids.take t)++[y.kind]:=by
 unfold Qe_;rw[List.take_add_one,hd];simp[Qr_ hy]
theorem W6_ (A:OA) (n c:Nat) (ps:List PN) (k:Int) (w:World) (hl:Hid (ps.length=n)) (hk:¬(0<=k/\k < (n:Int))):
  Calls prog 122 #[S_ A n c,I_ j_ k] w (RB_ (B_ (QbH_ ps k)) w):=by
 rw[QdL_ (by rw[hl.o];exact hk)];have HN:=h_ (fun W=>Ym_ (n:=n) (show inB k 0 ((n:Int) - 1)=false from df_ oo) A c W);go_enter func122,ntmps122;go_wp2_with (go_at_call 121;refine(HN.o _).mono ?_;rintro e w1 ⟨rfl,rfl⟩)
 go_ret;exact⟨rfl,grow_⟩
theorem Mine.cap {w:World} {B:Nat} {e:TypeId} {s:Nat} {A:OA} {n c:Nat} {xs:List Value} (h:Mine w B e s A n c xs):n<=c:=by
 rcases h.own with⟨_,rfl,rfl⟩|⟨g,_,_,h2,_⟩
 ·exact lr_ _
 ·exact h2
theorem vX_ {k:Nat} {kids:LI} {i:Nat} {x:Int} (h:inB x 0 ((k:Int) - 1)=false):Un_ k kids i x=false:=by unfold Un_;rw[h];rfl
theorem kS_ {k:Nat} {kids:LI} {i:Nat} {x:Int} (h:(kids.take i).contains x=true):Un_ k kids i x=false:=by unfold Un_;rw[h];simp
theorem kT_ {k:Nat} {kids:LI} {i:Nat} {x:Int} (h:inB x 0 ((k:Int) - 1)=true) (h2:(kids.take i).contains x=false):Un_ k kids i x=true:=by unfold Un_;rw[h,h2];rfl
theorem Qha_ {l:LI} {j:Nat} {x:Int} (h:l[j]? =some x):l.getD j 0=x:=by rw[List.getD_eq_getElem?_getD,h];rfl
theorem qs_ (A:OA) (n c:Nat) (ps:List PN) (k:Nat) (w:World) (hn:n<=1048576) (V:Nps w A n ps) (hb:Hid (PNs ps)) (hk:k < n):
  Calls prog 122 #[S_ A n c,I_ j_ k] w (RB_ (B_ (Za_ ps k)) w):=by
 have HP:=h_ V;have HL:=h_ V.len;have aO:Hid (∀p∈ps,p.kids.length<=1048576):=(show ∀p∈ps,_ from fun p hp=>(hb.o p hp).2);obtain⟨x,hx⟩:=V.get hk;obtain⟨b,off,A2,c2,rfl,av,x0,x1,x2,x3,bb,aB⟩:=V.atc hk hx;have a6:=hb.o x (lm_ hx);have HX:=h_ hx;have ar:=h_ aB;have HN:=h_ (fun W=>Ym_ (n:=n) (show inB (k:Int) 0 ((n:Int) - 1)=true from dt_ oo) (some ⟨b,off,none⟩) c W);have bf:(k:Int) < n:=oo;obtain⟨bl,a7⟩:=a6;clear V hx aB;by_cases hm:x.kids.length<=12
 ·have a2:¬((12:Int) < x.kids.length):=oo;have HT:=h_ (fun(v:Bool) (h:Zi_ x.kind x.text=v) A n c z W=>show Calls prog 169 #[A_ #[I_ j_ x.kind,T_ x.text,S_ A n c,B_ z]] W fun e w'=>e=R_ (B_ v)/\Below W.heap.size W w' by rw[<-h];exact xN_ x.kind x.text A n c z W mx_)
  cases ht:Zi_ x.kind x.text with
  |false=>
   have Z:=h_ (HT.o _ ht);rw[QbG_ HX.o ht];clear HT ht;go_enter func122,ntmps122;go_wp2_with fail
   refine(HN.o _).mono ?_;rintro e w1 ⟨rfl,rfl⟩;go_wp2_with fail
   refine(Z.o _ _ _ _ _).mono ?_;rintro e w2 ⟨rfl,h2⟩;go_wp2;go_ret;exact⟨rfl,Ql_ h2⟩
  |true=>
   have Z:=h_ (HT.o _ ht);have L:=h_ (fun h3=>QbF_ HX.o hm ht h3);have E:=h_ (fun h3=>zI_ (k:=k) HX.o h3);clear HT ht;generalize f:Za_ ps k=NB at L E |-
   clear f;go_enter func122,ntmps122;go_wp2_with fail
   refine(HN.o _).mono ?_;rintro e w1 ⟨rfl,rfl⟩;go_wp2_with fail
   refine(Z.o _ _ _ _ _).mono ?_;rintro e w2 ⟨rfl,h2⟩;have K:=Blk.fresh h2;have a:=Ql_ h2;clear h2 x0 x1 x2 x3 av HN Z;have ap:Mine w2 (w.heap.size+1) 3 1 none 0 0 (Qa_ (Qe_ ps (x.kids.take 0))):=Mine.mk_nil _ _ _ _;obtain⟨i0,hi,aC,aD,aE⟩:=info_parts QY_;have HI:=h_ (ai_ hi (ai_ aC (ai_ aD aE)));clear hi aC aD aE;have k2:=K.q2;have kz:=K.lt;go_wp2;go_loopw [6,30] (fun s6 i wr=>∃(t:Nat) (A6:OA) (c6:Nat),t<=x.kids.length/\i=I_ j_ t/\s6=S_ A6 t c6/\Mine wr (w.heap.size+1) 3 1 A6 t c6 (Qa_ (Qe_ ps (x.kids.take t)))/\Hid (AllI (Un_ k x.kids) x.kids t)/\Blk wr w.heap.size 96 #[I_ j_ x.kind,T_ x.text,S_ A2 x.kids.length c2,B_ x.blank]/\Below w.heap.size w wr) (fun _ i _=>x.kids.length - (intOf i).toNat)
   case atStart=>exact⟨0,none,0,lz_ _,rfl,rfl,ap,Jz_ _ _,K,a⟩
   case round=>
    clear ap K a k2 kz;obtain⟨t,A6,c6,bk,rfl,rfl,X,HA,F,a⟩:=hrel;have o:=h_ X;have kz:=F.lt;clear X;by_cases aA:t < x.kids.length
    ·have k2:=F.cell 2;simp only[List.getElem?_toArray,List.getElem?_cons_zero,List.getElem?_cons_succ]at k2;obtain⟨v,hd⟩:∃d,x.kids[t]? =some d:=⟨_,List.getElem?_eq_getElem aA⟩;have S:=ar.o.below a;obtain⟨b5,ac,rfl,a1,cv⟩:=Qu_ S aA hd
     cases H:inB v 0 ((k:Int) - 1)with
     |false=>
      have f:NB=false:=E.o (ZF_ hd (vX_ H));subst f;have ab:¬(0<=v/\v<=(k:Int) - 1):=of_decide_eq_false H;clear hd L E S H HA o;by_cases a4:v < 0
      ·go_wp2;go_ret;exact⟨rfl,a⟩
      ·have a5:(k:Int)<=v:=oo;go_wp2;go_ret;exact⟨rfl,a⟩
     |true=>
      have ab:0<=v/\v<=(k:Int) - 1:=od_ H;obtain⟨q,rfl⟩:=eo_ ab.1;have bh:q < k:=oo;have a4:¬(q:Int) < 0:=oo;have a5:¬(k:Int)<=(q:Int):=oo;have bj:t<=c2:=oo;have bc:(t:Int)<=c2:=oo;have HC:=h_ (fun(u:Bool) (h:(x.kids.take t).contains (q:Int)=u) c W (hW:Below wr.heap.size wr W)=>show Calls prog 170 #[S_ (some ⟨b5,ac,none⟩) t c,I_ j_ q] W fun e w'=>e=R_ (B_ u)/\W=w' by
       rw[<-h];refine(Tryz.slices_Contains_int b5 ac t c x.kids q W oo oo ?_).mono (fun e w' ⟨h1,h2⟩=>⟨h1,h2.symm⟩);exact(fun j hj=>by
        obtain⟨y,hy⟩:∃y,x.kids[j]? =some y:=⟨_,List.getElem?_eq_getElem hj⟩;obtain⟨b6,be,e6,_,cy⟩:=Qu_ (S.below hW) hj hy;injection e6 with e6;injection e6 with e61 e62;subst e61;subst e62;rw[Qha_ hy];exact cy))
      cases r:(x.kids.take t).contains (q:Int)with
      |true=>
       have f:NB=false:=E.o (ZF_ hd (kS_ r));subst f;have ad:=h_ (HC.o _ r);clear hd L E S H HA o HC r;go_wp2_with (go_at_call 170;refine(ad.o _ _ br).mono ?_;rintro e w1 ⟨rfl,rfl⟩)
       go_ret;exact⟨rfl,a⟩
      |false=>
       have aU:=h_ (XE_ HA.o hd (kT_ H r));have ad:=h_ (HC.o _ r);obtain⟨y,hy⟩:=HP.o.get (show q < n from oo);obtain⟨b3,bd,A3,c3,e3,a0,y0,y1,y2,y3,a8⟩:=(HP.o.below a).at_ (show q < n from oo) hy;injection e3 with e3;injection e3 with e31 e32;subst e31;subst e32;have a3:=h_ (Qbi_ hd hy);have bi:(q:Int) < n:=oo;have bg:(0:Int)<=q:=oo;clear hd L E H HA HC r a8 y1 y2 y3 hy;go_wp2_with (first|(go_at_call 170;refine(ad.o _ _ br).mono ?_;rintro e w1 ⟨rfl,rfl⟩)|(at_builtin;(refine wpList_append_own _ rfl (.tmp 50) (.tmp 56) _ rfl (w.heap.size+1) 3 i0 (I_ j_ 0) 1 8 underlying83 HI.o.1 HI.o.2.1 HI.o.2.2.1 HI.o.2.2.2 rfl dc_ _ _ _ rfl (Mine.alloc o.o _) ⟨wr.heap.size,0,none⟩ 1 1 [I_ j_ y.kind] rfl rfl (JD_ _ _ _) (fun x hx=>by simp at hx;subst hx;rfl) mx_ oo so_ ?_);intro v' w3 U ag ai))
       have af:=a.alloc a.size (C_ #[I_ j_ y.kind] 3);have aZ:Below w.heap.size w w3:=af.grown ag af.size (fun g hg=>by have:=(Ws_ o.o hg);omega);have aV:=(F.alloc (C_ #[I_ j_ y.kind] 3)).grown ag (fun e=>by have:=Ws_ o.o e.symm;omega);obtain⟨A7,c7,rfl,m3⟩:=Mine.of U;have aP:=h_ m3;clear U ag ai af m3 S;go_wp2;go_roundw
       case rel=>exact⟨t+1,A7,c7,oo,by go_num,rfl,by rw[a3.o];simpa[Qa_]using aP.o,aU,aV,aZ⟩
       case measure=>exact ms_
    ·obtain rfl:t=x.kids.length:=oo;have ah:=Ux_ HA.o (lr_ _);have l:=h_ (L.o ah);have O:Hid (∀v∈x.kids,0<=v/\v < (n:Int)):=(show ∀v∈x.kids,_ from fun v hv=>by
      obtain⟨j,hj⟩:=List.mem_iff_getElem?.1 hv;have h1:=Z4_ ah hj;unfold Un_ at h1;rw[Bool.and_eq_true]at h1;have h2:=od_ h1.1;exact⟨h2.1,oo⟩)
     have az:Qe_ ps (x.kids.take x.kids.length)=Qe_ ps x.kids:=(by rw[List.take_length]);rw[az]at o;clear L E HA ah az;have k0:=F.q0;go_upto_region 14 with fail
     go_cut [9] (fun s wx=>s=B_ (Gf_ x.kind)/\Mine wx (w.heap.size+1) 3 1 A6 x.kids.length c6 (Qa_ (Qe_ ps x.kids))/\Blk wx w.heap.size 96 #[I_ j_ x.kind,T_ x.text,S_ A2 x.kids.length c2,B_ x.blank]/\Below w.heap.size w wx)
     case first=>
      have HS:=h_ (fun(u:Bool) (h:VW_ x.kind=u) (W:World)=>show Calls prog 171 #[I_ j_ x.kind] W fun e w'=>e=R_ (B_ u)/\W=w' by rw[<-h];exact zw_ _ W);have P:=h_ (fun(u:Bool) (h:Ka_ x.kind=u) (W:World)=>show Calls prog 172 #[I_ j_ x.kind] W fun e w'=>e=R_ (B_ u)/\W=w' by rw[<-h];exact Vi_ _ W)
      cases hs:VW_ x.kind with
      |true=>
       have Y:=h_ (HS.o _ hs);have T:Gf_ x.kind=true:=(by unfold Gf_;rw[hs];rfl);clear HS P hs l;go_wp2_with (go_at_call 171;refine(Y.o _).mono ?_;rintro e w1 ⟨rfl,rfl⟩)
       go_meet
       case rel=>exact⟨by rw[T],o.o,F,a⟩
      |false=>
       have Y:=h_ (HS.o _ hs)
       cases M:Ka_ x.kind with
       |true=>
        have Q:=h_ (P.o _ M);have T:Gf_ x.kind=true:=(by unfold Gf_;rw[hs,M];rfl);clear HS P hs M l;go_wp2_with (first|(go_at_call 171;refine(Y.o _).mono ?_;rintro e w1 ⟨rfl,rfl⟩)|(go_at_call 172;refine(Q.o _).mono ?_;rintro e w1 ⟨rfl,rfl⟩))
        go_meet
        case rel=>exact⟨by rw[T],o.o,F,a⟩
       |false=>
        have Q:=h_ (P.o _ M);have T:Gf_ x.kind=(x.kind==21):=(by unfold Gf_;rw[hs,M];rfl);clear HS P hs M l;go_wp2_with (first|(go_at_call 171;refine(Y.o _).mono ?_;rintro e w1 ⟨rfl,rfl⟩)|(go_at_call 172;refine(Q.o _).mono ?_;rintro e w1 ⟨rfl,rfl⟩))
        go_meet
        case rel=>exact⟨by rw[T],o.o,F,a⟩
     case rest=>
      clear o F a k0 kz;obtain⟨rfl,X,F,a⟩:=hcut;have k0:=F.q0;have k1:=F.q1;have k2:=F.q2;have k3:=F.q3;have kz:=F.lt;have J:=h_ (fun(u:Bool) (h:kfB x.kind (Qe_ ps x.kids)=u)=>show Calls prog 173 #[I_ j_ x.kind,S_ A6 x.kids.length c6] wc fun e w'=>e=R_ (B_ u)/\Below wc.heap.size wc w' by rw[<-h];exact kV_ x.kind A6 x.kids.length c6 (Qe_ ps x.kids) wc oo X.cap (h_ (by unfold Qe_;rw[List.length_map])) X.rd)
      cases D:kfB x.kind (Qe_ ps x.kids)with
      |false=>
       have f:NB=false:=(by rw[l.o,D];rfl);subst f;have B:=h_ (J.o _ D);clear J D l X O;go_wp2_with fail
       refine(B.o).mono ?_;rintro e w5 ⟨rfl,R⟩;go_wp2;go_ret;exact⟨rfl,Qb_ a R⟩
      |true=>
       have B:=h_ (J.o _ D);have f:NB=(Yh_ ps x.kind x.kids&&(Gf_ x.kind||!x.blank)):=(by rw[l.o,D];rfl);have N:=h_ (fun(u:Bool) (h:Yh_ ps x.kind x.kids=u) (W:World) (hW:Below w.heap.size w W)=>show Calls prog 174 #[S_ (some ⟨b,off,none⟩) n c,A_ #[I_ j_ x.kind,T_ x.text,S_ A2 x.kids.length c2,B_ x.blank]] W fun e w'=>e=R_ (B_ u)/\Below W.heap.size W w' by rw[<-h];exact kl_ _ n c ps x.kind x.text x.kids x.blank A2 x.kids.length c2 W hn a7 (HP.o.below hW) (h_ rfl) (ar.o.below hW) O aO)
       cases G:Yh_ ps x.kind x.kids with
       |false=>
        have I:=h_ (N.o _ G);rw[G]at f;have C:NB=false:=f;subst C;clear J D l X O f N G;go_wp2_with fail
        refine(B.o).mono ?_;rintro e w5 ⟨rfl,R⟩;have m:=Qb_ a R;obtain⟨ax,ay⟩:=QW_ R;go_wp2_with fail
        refine(I.o _ m).mono ?_;rintro e w6 ⟨rfl,h6⟩;go_wp2;go_ret;exact⟨rfl,Qb_ m h6⟩
       |true=>
        have I:=h_ (N.o _ G);rw[G,Bool.true_and]at f;generalize Gf_ x.kind=mb at f
        cases mb with
        |true=>
         have C:NB=true:=f;subst C;clear J D l X O f N G;go_wp2_with fail
         refine(B.o).mono ?_;rintro e w5 ⟨rfl,R⟩;have m:=Qb_ a R;obtain⟨ax,ay⟩:=QW_ R;go_wp2_with fail
         refine(I.o _ m).mono ?_;rintro e w6 ⟨rfl,h6⟩;go_wp2;go_ret;exact⟨rfl,Qb_ m h6⟩
        |false=>
         have C:NB=!x.blank:=f;subst C;clear J D l X O N G f;go_wp2_with fail
         refine(B.o).mono ?_;rintro e w5 ⟨rfl,R⟩;have m:=Qb_ a R;have aX:=F.next R;obtain⟨ax,ay⟩:=QW_ R;go_wp2_with fail
         refine(I.o _ m).mono ?_;rintro e w6 ⟨rfl,h6⟩;have aY:=aX.next h6;have bm:=aY.q3;go_wp2;go_ret;exact⟨rfl,Qb_ m h6⟩
 ·have a2:(12:Int) < x.kids.length:=oo;rw[zJ_ HX.o hm];go_enter func122,ntmps122;go_wp2_with fail
  refine(HN.o _).mono ?_;rintro e w1 ⟨rfl,rfl⟩;go_wp2;go_ret;exact⟨rfl,grow_⟩
theorem W5_ (A:OA) (n c:Nat) (ps:List PN) (k:Int) (w:World) (hn:n<=1048576) (a:Nps w A n ps) (hb:Hid (PNs ps)):
  Calls prog 122 #[S_ A n c,I_ j_ k] w (RB_ (B_ (QbH_ ps k)) w):=by
 have hl:=a.len;by_cases hk:0<=k/\k < (n:Int)
 ·obtain⟨q,rfl⟩:=eo_ hk.1;rw[v6_ oo];exact qs_ A n c ps q w hn a hb oo
 ·exact W6_ A n c ps k w (h_ hl) hk
def Ki_ (kind:Int):Int:=
 if kind=5\/kind=9\/kind=20\/kind=6\/kind=11\/kind=13\/kind=14 then 1
 else if kind=7\/kind=10\/kind=16\/kind=17 then 2
 else if kind=8 then 3 else 0
def Kb_ (kind:Int):Int:=
 if kind=4\/kind=18\/kind=21\/kind=22\/kind=5\/kind=9\/kind=20\/kind=7\/kind=10 then 12
 else if kind=6\/kind=11\/kind=13\/kind=14\/kind=12\/kind=15 then 1
 else if kind=8\/kind=16 then 3
 else if kind=17 then 2 else 0
def Vf_ (ps:List PN) (kind:Int) (n i:Nat) (kid:Int):Bool:=
 if kind=9 then (if i+1 < n then isK 1 (Qc_ ps kid)else Qk_ (Qc_ ps kid))
 else if kind=20 then (if i+1 < n then isK 1 (Qc_ ps kid)else isK 18 (Qc_ ps kid))
 else if kind=10 then (if 0 < i then isK 5 (Qc_ ps kid)&&(match ps[kid.toNat]? with|some y=>(match y.kids with|j::_=>isK 1 (Qc_ ps j)|[]=>false)|none=>false)else Qk_ (Qc_ ps kid))
 else if kind=16\/kind=17 then (if 0 < i then isK 18 (Qc_ ps kid)else Qk_ (Qc_ ps kid))
 else if kind=18 then ZR_ (Qc_ ps kid)
 else if kind=21 then Ka_ (Qc_ ps kid)
 else if kind=22 then isK 21 (Qc_ ps kid)||Ka_ (Qc_ ps kid)
 else Qk_ (Qc_ ps kid)
theorem UB_ (kind:Int) (w:World) (hk:kind=4\/kind=18\/kind=21\/kind=22):Calls prog 129 #[I_ j_ kind] w (RS_ (U_ #[I_ j_ 0,I_ j_ 12]) w):=by
 rcases hk with rfl|rfl|rfl|rfl
 all_goals
  go_enter func129,ntmps129;go_wp2;go_ret2;exact⟨rfl,rfl⟩
theorem qg_ (kind:Int) (w:World) (hk:kind=5\/kind=9\/kind=20):Calls prog 129 #[I_ j_ kind] w (RS_ (U_ #[I_ j_ 1,I_ j_ 12]) w):=by
 rcases hk with rfl|rfl|rfl
 all_goals
  go_enter func129,ntmps129;go_wp2;go_ret2;exact⟨rfl,rfl⟩
theorem qh_ (kind:Int) (w:World) (hk:kind=6\/kind=11\/kind=13\/kind=14):Calls prog 129 #[I_ j_ kind] w (RS_ (U_ #[I_ j_ 1,I_ j_ 1]) w):=by
 rcases hk with rfl|rfl|rfl|rfl
 all_goals
  go_enter func129,ntmps129;go_wp2;go_ret2;exact⟨rfl,rfl⟩
theorem kp_ (kind:Int) (w:World) (hk:kind=7\/kind=10):Calls prog 129 #[I_ j_ kind] w (RS_ (U_ #[I_ j_ 2,I_ j_ 12]) w):=by
 rcases hk with rfl|rfl
 all_goals
  go_enter func129,ntmps129;go_wp2;go_ret2;exact⟨rfl,rfl⟩
theorem Qfb_ (kind:Int) (w:World) (hk:kind=8):Calls prog 129 #[I_ j_ kind] w (RS_ (U_ #[I_ j_ 3,I_ j_ 3]) w):=by
 rcases hk with rfl
 all_goals
  go_enter func129,ntmps129;go_wp2;go_ret2;exact⟨rfl,rfl⟩
theorem QcH_ (kind:Int) (w:World) (hk:kind=12\/kind=15):Calls prog 129 #[I_ j_ kind] w (RS_ (U_ #[I_ j_ 0,I_ j_ 1]) w):=by
 rcases hk with rfl|rfl
 all_goals
  go_enter func129,ntmps129;go_wp2;go_ret2;exact⟨rfl,rfl⟩
theorem Qh7_ (kind:Int) (w:World) (hk:kind=16):Calls prog 129 #[I_ j_ kind] w (RS_ (U_ #[I_ j_ 2,I_ j_ 3]) w):=by
 rcases hk with rfl
 all_goals
  go_enter func129,ntmps129;go_wp2;go_ret2;exact⟨rfl,rfl⟩
theorem QcI_ (kind:Int) (w:World) (hk:kind=17):Calls prog 129 #[I_ j_ kind] w (RS_ (U_ #[I_ j_ 2,I_ j_ 2]) w):=by
 rcases hk with rfl
 all_goals
  go_enter func129,ntmps129;go_wp2;go_ret2;exact⟨rfl,rfl⟩
theorem UC_ (kind:Int) (w:World) (hk:kind=1\/kind=2\/kind=3\/kind=19):Calls prog 129 #[I_ j_ kind] w (RS_ (U_ #[I_ j_ 0,I_ j_ 0]) w):=by
 rcases hk with rfl|rfl|rfl|rfl
 all_goals
  go_enter func129,ntmps129;go_wp2;go_ret2;exact⟨rfl,rfl⟩
theorem k1_ (kind:Int) (w:World) (hk:1<=kind/\kind<=22):Calls prog 129 #[I_ j_ kind] w (RS_ (U_ #[I_ j_ (Ki_ kind),I_ j_ (Kb_ kind)]) w):=by
 have h2:kind=1\/kind=2\/kind=3\/kind=4\/kind=5\/kind=6\/kind=7\/kind=8\/kind=9\/kind=10\/kind=11\/kind=12\/kind=13\/kind=14\/kind=15\/kind=16\/kind=17\/kind=18\/kind=19\/kind=20\/kind=21\/kind=22:=oo;rcases h2 with rfl|rfl|rfl|rfl|rfl|rfl|rfl|rfl|rfl|rfl|rfl|rfl|rfl|rfl|rfl|rfl|rfl|rfl|rfl|rfl|rfl|rfl
 ·exact UC_ 1 w oo
 ·exact UC_ 2 w oo
 ·exact UC_ 3 w oo
 ·exact UB_ 4 w oo
 ·exact qg_ 5 w oo
 ·exact qh_ 6 w oo
 ·exact kp_ 7 w oo
 ·exact Qfb_ 8 w oo
 ·exact qg_ 9 w oo
 ·exact kp_ 10 w oo
 ·exact qh_ 11 w oo
 ·exact QcH_ 12 w oo
 ·exact qh_ 13 w oo
 ·exact qh_ 14 w oo
 ·exact QcH_ 15 w oo
 ·exact Qh7_ 16 w oo
 ·exact QcI_ 17 w oo
 ·exact UB_ 18 w oo
 ·exact UC_ 19 w oo
 ·exact qg_ 20 w oo
 ·exact UB_ 21 w oo
 ·exact UB_ 22 w oo
theorem QgU_ (A:OA) (n c:Nat) (ps:List PN) (k i:Nat) (x y:PN) (q:Nat) (w:World) (hn:n<=1048576) (g:Nps w A n ps) (hb:Hid (PNs ps)) (hk:k < n) (hx:Hid (ps[k]? =some x)) (hi:i < x.kids.length) (hd:Hid (x.kids[i]? =some (q:Int))) (hq:q < n) (hy:Hid (ps[q]? =some y)) (a:x.kind=1\/x.kind=2\/x.kind=3\/x.kind=4\/x.kind=5\/x.kind=6\/x.kind=7\/x.kind=8\/x.kind=11\/x.kind=12\/x.kind=13\/x.kind=14\/x.kind=15\/x.kind=19):
  Calls prog 132 #[S_ A n c,I_ j_ k,I_ j_ i] w (RB_ (B_ (Vf_ ps x.kind x.kids.length i q)) w):=by
 have F:=(hb.o x (lm_ hx.o)).2;obtain⟨b,off,A2,c2,rfl,p,x0,x1,x2,x3,h⟩:=g.at_ hk hx.o;obtain⟨b3,r,A3,c3,j,l,y0,y1,y2,y3,o⟩:=g.at_ hq hy.o;injection j with j;injection j with e31 e32;subst e31;subst e32;obtain⟨b5,s,rfl,m,cv⟩:=Qu_ h hi hd.o;have g0:(0:Int)<=(q:Int):=oo;have g1:(q:Int) < n:=oo;have g2:(k:Int) < n:=oo;have g3:(i:Int) < x.kids.length:=oo;have f:=Qr_ hy.o;have d:Vf_ ps x.kind x.kids.length i (q:Int)=Qk_ y.kind:=by
  unfold Vf_;rw[f,in_ oo,in_ oo,in_ oo,in_ oo,in_ oo,in_ oo,in_ oo]
 rw[d];have HV:=h_ (fun W=>Zq_ y.kind W);generalize Qk_ y.kind=u at HV |-
 have d9:(x.kind==9)=false:=by rw[bn_];omega
 have C:(x.kind==20)=false:=by rw[bn_];omega
 have t:(x.kind==10)=false:=by rw[bn_];omega
 have v:(x.kind==16)=false:=by rw[bn_];omega
 have z:(x.kind==17)=false:=by rw[bn_];omega
 have B:(x.kind==18)=false:=by rw[bn_];omega
 have D:(x.kind==21)=false:=by rw[bn_];omega
 have E:(x.kind==22)=false:=by rw[bn_];omega
 clear a d f h o;go_enter func132,ntmps132;go_wp2_with fail
 refine(HV.o _).mono ?_;rintro e w1 ⟨rfl,rfl⟩;go_wp2;go_ret;exact⟨rfl,grow_⟩
theorem Qib_ (A:OA) (n c:Nat) (ps:List PN) (k i:Nat) (x y:PN) (q:Nat) (w:World) (hn:n<=1048576) (g:Nps w A n ps) (hb:Hid (PNs ps)) (hk:k < n) (hx:Hid (ps[k]? =some x)) (hi:i < x.kids.length) (hd:Hid (x.kids[i]? =some (q:Int))) (hq:q < n) (hy:Hid (ps[q]? =some y)) (a:x.kind=9):
  Calls prog 132 #[S_ A n c,I_ j_ k,I_ j_ i] w (RB_ (B_ (Vf_ ps x.kind x.kids.length i q)) w):=by
 have t:=(hb.o x (lm_ hx.o)).2;obtain⟨b,off,A2,c2,rfl,p,x0,x1,x2,x3,h⟩:=g.at_ hk hx.o;obtain⟨b3,r,A3,c3,j,l,y0,y1,y2,y3,o⟩:=g.at_ hq hy.o;injection j with j;injection j with e31 e32;subst e31;subst e32;obtain⟨b5,s,rfl,m,cv⟩:=Qu_ h hi hd.o;have g0:(0:Int)<=(q:Int):=oo;have g1:(q:Int) < n:=oo;have g2:(k:Int) < n:=oo;have g3:(i:Int) < x.kids.length:=oo;have f:=Qr_ hy.o;rw[a]at x0;have d:Vf_ ps x.kind x.kids.length i (q:Int)=if i+1 < x.kids.length then isK 1 y.kind else Qk_ y.kind:=by
  rw[a];unfold Vf_;rw[f];simp
 rw[d];clear d f h o a;by_cases ht:i+1 < x.kids.length
 ·rw[ip_ ht];have i1:((i:Int)+1 < x.kids.length):=oo;go_enter func132,ntmps132;go_wp2;go_ret;exact⟨rfl,grow_⟩
 ·rw[in_ ht];have i1:(¬(i:Int)+1 < x.kids.length):=oo;have HV:=h_ (fun W=>Zq_ y.kind W);generalize Qk_ y.kind=u at HV |-
  go_enter func132,ntmps132;go_wp2_with fail
  refine(HV.o _).mono ?_;rintro e w1 ⟨rfl,rfl⟩;go_wp2;go_ret;exact⟨rfl,grow_⟩
theorem QaX_ (A:OA) (n c:Nat) (ps:List PN) (k i:Nat) (x y:PN) (q:Nat) (w:World) (hn:n<=1048576) (g:Nps w A n ps) (hb:Hid (PNs ps)) (hk:k < n) (hx:Hid (ps[k]? =some x)) (hi:i < x.kids.length) (hd:Hid (x.kids[i]? =some (q:Int))) (hq:q < n) (hy:Hid (ps[q]? =some y)) (a:x.kind=20):
  Calls prog 132 #[S_ A n c,I_ j_ k,I_ j_ i] w (RB_ (B_ (Vf_ ps x.kind x.kids.length i q)) w):=by
 have t:=(hb.o x (lm_ hx.o)).2;obtain⟨b,off,A2,c2,rfl,p,x0,x1,x2,x3,h⟩:=g.at_ hk hx.o;obtain⟨b3,r,A3,c3,j,l,y0,y1,y2,y3,o⟩:=g.at_ hq hy.o;injection j with j;injection j with e31 e32;subst e31;subst e32;obtain⟨b5,s,rfl,m,cv⟩:=Qu_ h hi hd.o;have g0:(0:Int)<=(q:Int):=oo;have g1:(q:Int) < n:=oo;have g2:(k:Int) < n:=oo;have g3:(i:Int) < x.kids.length:=oo;have f:=Qr_ hy.o;rw[a]at x0;have d:Vf_ ps x.kind x.kids.length i (q:Int)=if i+1 < x.kids.length then isK 1 y.kind else isK 18 y.kind:=by
  rw[a];unfold Vf_;rw[f];simp
 rw[d];clear d f h o a;by_cases ht:i+1 < x.kids.length
 ·rw[ip_ ht];have i1:((i:Int)+1 < x.kids.length):=oo;go_enter func132,ntmps132;go_wp2;go_ret;exact⟨rfl,grow_⟩
 ·rw[in_ ht];have i1:(¬(i:Int)+1 < x.kids.length):=oo;go_enter func132,ntmps132;go_wp2;go_ret;exact⟨rfl,grow_⟩
theorem Qic_ (A:OA) (n c:Nat) (ps:List PN) (k i:Nat) (x y:PN) (q:Nat) (w:World) (hn:n<=1048576) (g:Nps w A n ps) (hb:Hid (PNs ps)) (hk:k < n) (hx:Hid (ps[k]? =some x)) (hi:i < x.kids.length) (hd:Hid (x.kids[i]? =some (q:Int))) (hq:q < n) (hy:Hid (ps[q]? =some y)) (a:x.kind=16):
  Calls prog 132 #[S_ A n c,I_ j_ k,I_ j_ i] w (RB_ (B_ (Vf_ ps x.kind x.kids.length i q)) w):=by
 have t:=(hb.o x (lm_ hx.o)).2;obtain⟨b,off,A2,c2,rfl,p,x0,x1,x2,x3,h⟩:=g.at_ hk hx.o;obtain⟨b3,r,A3,c3,j,l,y0,y1,y2,y3,o⟩:=g.at_ hq hy.o;injection j with j;injection j with e31 e32;subst e31;subst e32;obtain⟨b5,s,rfl,m,cv⟩:=Qu_ h hi hd.o;have g0:(0:Int)<=(q:Int):=oo;have g1:(q:Int) < n:=oo;have g2:(k:Int) < n:=oo;have g3:(i:Int) < x.kids.length:=oo;have f:=Qr_ hy.o;rw[a]at x0;have d:Vf_ ps x.kind x.kids.length i (q:Int)=if 0 < i then isK 18 y.kind else Qk_ y.kind:=by
  rw[a];unfold Vf_;rw[f];simp
 rw[d];clear d f h o a;by_cases ht:0 < i
 ·rw[ip_ ht];have i1:((0:Int) < i):=oo;go_enter func132,ntmps132;go_wp2;go_ret;exact⟨rfl,grow_⟩
 ·rw[in_ ht];have i1:(¬(0:Int) < i):=oo;have HV:=h_ (fun W=>Zq_ y.kind W);generalize Qk_ y.kind=u at HV |-
  go_enter func132,ntmps132;go_wp2_with fail
  refine(HV.o _).mono ?_;rintro e w1 ⟨rfl,rfl⟩;go_wp2;go_ret;exact⟨rfl,grow_⟩
theorem QcX_ (A:OA) (n c:Nat) (ps:List PN) (k i:Nat) (x y:PN) (q:Nat) (w:World) (hn:n<=1048576) (g:Nps w A n ps) (hb:Hid (PNs ps)) (hk:k < n) (hx:Hid (ps[k]? =some x)) (hi:i < x.kids.length) (hd:Hid (x.kids[i]? =some (q:Int))) (hq:q < n) (hy:Hid (ps[q]? =some y)) (a:x.kind=17):
  Calls prog 132 #[S_ A n c,I_ j_ k,I_ j_ i] w (RB_ (B_ (Vf_ ps x.kind x.kids.length i q)) w):=by
 have t:=(hb.o x (lm_ hx.o)).2;obtain⟨b,off,A2,c2,rfl,p,x0,x1,x2,x3,h⟩:=g.at_ hk hx.o;obtain⟨b3,r,A3,c3,j,l,y0,y1,y2,y3,o⟩:=g.at_ hq hy.o;injection j with j;injection j with e31 e32;subst e31;subst e32;obtain⟨b5,s,rfl,m,cv⟩:=Qu_ h hi hd.o;have g0:(0:Int)<=(q:Int):=oo;have g1:(q:Int) < n:=oo;have g2:(k:Int) < n:=oo;have g3:(i:Int) < x.kids.length:=oo;have f:=Qr_ hy.o;rw[a]at x0;have d:Vf_ ps x.kind x.kids.length i (q:Int)=if 0 < i then isK 18 y.kind else Qk_ y.kind:=by
  rw[a];unfold Vf_;rw[f];simp
 rw[d];clear d f h o a;by_cases ht:0 < i
 ·rw[ip_ ht];have i1:((0:Int) < i):=oo;go_enter func132,ntmps132;go_wp2;go_ret;exact⟨rfl,grow_⟩
 ·rw[in_ ht];have i1:(¬(0:Int) < i):=oo;have HV:=h_ (fun W=>Zq_ y.kind W);generalize Qk_ y.kind=u at HV |-
  go_enter func132,ntmps132;go_wp2_with fail
  refine(HV.o _).mono ?_;rintro e w1 ⟨rfl,rfl⟩;go_wp2;go_ret;exact⟨rfl,grow_⟩
theorem QcU_ (A:OA) (n c:Nat) (ps:List PN) (k i:Nat) (x y:PN) (q:Nat) (w:World) (hn:n<=1048576) (g:Nps w A n ps) (hb:Hid (PNs ps)) (hk:k < n) (hx:Hid (ps[k]? =some x)) (hi:i < x.kids.length) (hd:Hid (x.kids[i]? =some (q:Int))) (hq:q < n) (hy:Hid (ps[q]? =some y)) (a:x.kind=18):
  Calls prog 132 #[S_ A n c,I_ j_ k,I_ j_ i] w (RB_ (B_ (Vf_ ps x.kind x.kids.length i q)) w):=by
 have t:=(hb.o x (lm_ hx.o)).2;obtain⟨b,off,A2,c2,rfl,p,x0,x1,x2,x3,h⟩:=g.at_ hk hx.o;obtain⟨b3,r,A3,c3,j,l,y0,y1,y2,y3,o⟩:=g.at_ hq hy.o;injection j with j;injection j with e31 e32;subst e31;subst e32;obtain⟨b5,s,rfl,m,cv⟩:=Qu_ h hi hd.o;have g0:(0:Int)<=(q:Int):=oo;have g1:(q:Int) < n:=oo;have g2:(k:Int) < n:=oo;have g3:(i:Int) < x.kids.length:=oo;have f:=Qr_ hy.o;rw[a]at x0;have d:Vf_ ps x.kind x.kids.length i (q:Int)=ZR_ y.kind:=by
  rw[a];unfold Vf_;rw[f];simp
 rw[d];clear d f h o a;have HV:=h_ (fun W=>Uc_ y.kind W);generalize ZR_ y.kind=u at HV |-
 go_enter func132,ntmps132;go_wp2_with fail
 refine(HV.o _).mono ?_;rintro e w1 ⟨rfl,rfl⟩;go_wp2;go_ret;exact⟨rfl,grow_⟩
theorem QcV_ (A:OA) (n c:Nat) (ps:List PN) (k i:Nat) (x y:PN) (q:Nat) (w:World) (hn:n<=1048576) (g:Nps w A n ps) (hb:Hid (PNs ps)) (hk:k < n) (hx:Hid (ps[k]? =some x)) (hi:i < x.kids.length) (hd:Hid (x.kids[i]? =some (q:Int))) (hq:q < n) (hy:Hid (ps[q]? =some y)) (a:x.kind=21):
  Calls prog 132 #[S_ A n c,I_ j_ k,I_ j_ i] w (RB_ (B_ (Vf_ ps x.kind x.kids.length i q)) w):=by
 have t:=(hb.o x (lm_ hx.o)).2;obtain⟨b,off,A2,c2,rfl,p,x0,x1,x2,x3,h⟩:=g.at_ hk hx.o;obtain⟨b3,r,A3,c3,j,l,y0,y1,y2,y3,o⟩:=g.at_ hq hy.o;injection j with j;injection j with e31 e32;subst e31;subst e32;obtain⟨b5,s,rfl,m,cv⟩:=Qu_ h hi hd.o;have g0:(0:Int)<=(q:Int):=oo;have g1:(q:Int) < n:=oo;have g2:(k:Int) < n:=oo;have g3:(i:Int) < x.kids.length:=oo;have f:=Qr_ hy.o;rw[a]at x0;have d:Vf_ ps x.kind x.kids.length i (q:Int)=(y.kind==12||(y.kind==20||y.kind==19)):=by
  rw[a];unfold Vf_;rw[f];simp[isK,Ka_,Bool.or_assoc]
 rw[d];clear d f h o a
 cases e0:(y.kind==12)with
 |true=>
  simp only[Bool.true_or,Bool.or_true,Bool.false_or];go_enter func132,ntmps132;go_wp2;go_ret;exact⟨rfl,grow_⟩
 |false=>
  cases e1:(y.kind==20)with
  |true=>
   simp only[Bool.true_or,Bool.or_true,Bool.false_or];go_enter func132,ntmps132;go_wp2;go_ret;exact⟨rfl,grow_⟩
  |false=>
   simp only[Bool.false_or];go_enter func132,ntmps132;go_wp2;go_ret;exact⟨rfl,grow_⟩
theorem Qfk_ (A:OA) (n c:Nat) (ps:List PN) (k i:Nat) (x y:PN) (q:Nat) (w:World) (hn:n<=1048576) (g:Nps w A n ps) (hb:Hid (PNs ps)) (hk:k < n) (hx:Hid (ps[k]? =some x)) (hi:i < x.kids.length) (hd:Hid (x.kids[i]? =some (q:Int))) (hq:q < n) (hy:Hid (ps[q]? =some y)) (a:x.kind=22):
  Calls prog 132 #[S_ A n c,I_ j_ k,I_ j_ i] w (RB_ (B_ (Vf_ ps x.kind x.kids.length i q)) w):=by
 have t:=(hb.o x (lm_ hx.o)).2;obtain⟨b,off,A2,c2,rfl,p,x0,x1,x2,x3,h⟩:=g.at_ hk hx.o;obtain⟨b3,r,A3,c3,j,l,y0,y1,y2,y3,o⟩:=g.at_ hq hy.o;injection j with j;injection j with e31 e32;subst e31;subst e32;obtain⟨b5,s,rfl,m,cv⟩:=Qu_ h hi hd.o;have g0:(0:Int)<=(q:Int):=oo;have g1:(q:Int) < n:=oo;have g2:(k:Int) < n:=oo;have g3:(i:Int) < x.kids.length:=oo;have f:=Qr_ hy.o;rw[a]at x0;have d:Vf_ ps x.kind x.kids.length i (q:Int)=(y.kind==21||(y.kind==12||(y.kind==20||y.kind==19))):=by
  rw[a];unfold Vf_;rw[f];simp[isK,Ka_,Bool.or_assoc]
 rw[d];clear d f h o a
 cases e0:(y.kind==21)with
 |true=>
  simp only[Bool.true_or,Bool.or_true,Bool.false_or];go_enter func132,ntmps132;go_wp2;go_ret;exact⟨rfl,grow_⟩
 |false=>
  cases e1:(y.kind==12)with
  |true=>
   simp only[Bool.true_or,Bool.or_true,Bool.false_or];go_enter func132,ntmps132;go_wp2;go_ret;exact⟨rfl,grow_⟩
  |false=>
   cases e2:(y.kind==20)with
   |true=>
    simp only[Bool.true_or,Bool.or_true,Bool.false_or];go_enter func132,ntmps132;go_wp2;go_ret;exact⟨rfl,grow_⟩
   |false=>
    simp only[Bool.false_or];go_enter func132,ntmps132;go_wp2;go_ret;exact⟨rfl,grow_⟩
theorem jj_ (A:OA) (n c:Nat) (ps:List PN) (k i:Nat) (x y:PN) (q:Nat) (w:World) (hn:n<=1048576) (f:Nps w A n ps) (hb:Hid (PNs ps)) (hk:k < n) (hx:Hid (ps[k]? =some x)) (hi:i < x.kids.length) (hd:Hid (x.kids[i]? =some (q:Int))) (hq:q < n) (H:Hid (ps[q]? =some y)) (l:y.kind=5->∃(r:Nat) (js:LI),y.kids=(r:Int)::js/\r < n) (d:x.kind=10):
  Calls prog 132 #[S_ A n c,I_ j_ k,I_ j_ i] w (RB_ (B_ (Vf_ ps x.kind x.kids.length i q)) w):=by
 have P:=(hb.o x (lm_ hx.o)).2;obtain⟨b,off,A2,c2,rfl,K,x0,x1,x2,x3,v⟩:=f.at_ hk hx.o;obtain⟨b3,L,A3,c3,B,D,y0,y1,y2,y3,h⟩:=f.at_ hq H.o;injection B with B;injection B with e31 e32;subst e31;subst e32;obtain⟨b5,N,rfl,F,cv⟩:=Qu_ v hi hd.o;have g0:(0:Int)<=(q:Int):=oo;have g1:(q:Int) < n:=oo;have g2:(k:Int) < n:=oo;have g3:(i:Int) < x.kids.length:=oo;have s:=Qr_ H.o;rw[d]at x0;have o:Vf_ ps x.kind x.kids.length i (q:Int)=if 0 < i then isK 5 y.kind&&(match y.kids with|j::_=>isK 1 (Qc_ ps j)|[]=>false)else Qk_ y.kind:=by
  rw[d];unfold Vf_;rw[s,it_,H.o];simp<;>rfl
 rw[o];clear o s v d;by_cases ht:0 < i
 ·rw[ip_ ht];have i1:(0:Int) < i:=oo;by_cases z:y.kind=5
  ·obtain⟨r,js,g,t⟩:=l z;have I:0 < y.kids.length:=(by rw[g];simp);have p:y.kids[0]? =some (r:Int):=(by rw[g];rfl);obtain⟨b6,O,rfl,G,cj⟩:=Qu_ h I p;simp only[Nat.add_zero]at cj;have i2:(0:Int) < y.kids.length:=oo;have g4:(0:Int)<=(r:Int):=oo;have g5:(r:Int) < n:=oo;obtain⟨zz,m⟩:=f.get t;obtain⟨b4,M,A4,c4,C,E,z0,z1,z2,z3,J⟩:=f.at_ t m;injection C with C;injection C with e41 e42;subst e41;subst e42;have a:(isK 5 y.kind&&(match y.kids with|j::_=>isK 1 (Qc_ ps j)|[]=>false))=(zz.kind==1):=by
    rw[g,z];simp only[Qr_ m];rfl
   rw[a];rw[z]at y0;clear a g p J h z1 z2 z3 m;go_enter func132,ntmps132;go_wp2;go_ret;exact⟨rfl,grow_⟩
  ·have e5:(y.kind==5)=false:=(by rw[bn_];exact z);have a:(isK 5 y.kind&&(match y.kids with|j::_=>isK 1 (Qc_ ps j)|[]=>false))=false:=by
    unfold isK;rw[e5,Bool.false_and]
   rw[a];clear a h;go_enter func132,ntmps132;go_wp2;go_ret;exact⟨rfl,grow_⟩
 ·rw[in_ ht];have i1:¬(0:Int) < i:=oo;have HV:=h_ (fun W=>Zq_ y.kind W);generalize Qk_ y.kind=u at HV |-
  clear h;go_enter func132,ntmps132;go_wp2_with fail
  refine(HV.o _).mono ?_;rintro e w1 ⟨rfl,rfl⟩;go_wp2;go_ret;exact⟨rfl,grow_⟩
theorem jA_ (A:OA) (n c:Nat) (ps:List PN) (k i:Nat) (x y:PN) (q:Nat) (w:World) (f:n<=1048576) (a:Nps w A n ps) (b:Hid (PNs ps)) (d:k < n) (h:Hid (ps[k]? =some x)) (hi:i < x.kids.length) (hd:Hid (x.kids[i]? =some (q:Int))) (g:q < n) (j:Hid (ps[q]? =some y)) (l:y.kind=5->∃(r:Nat) (js:LI),y.kids=(r:Int)::js/\r < n) (B:1<=x.kind/\x.kind<=22):
  Calls prog 132 #[S_ A n c,I_ j_ k,I_ j_ i] w (RB_ (B_ (Vf_ ps x.kind x.kids.length i q)) w):=by
 by_cases h9:x.kind=9
 ·exact Qib_ A n c ps k i x y q w f a b d h hi hd g j h9
 by_cases t:x.kind=20
 ·exact QaX_ A n c ps k i x y q w f a b d h hi hd g j t
 by_cases m:x.kind=10
 ·exact jj_ A n c ps k i x y q w f a b d h hi hd g j l m
 by_cases o:x.kind=16
 ·exact Qic_ A n c ps k i x y q w f a b d h hi hd g j o
 by_cases p:x.kind=17
 ·exact QcX_ A n c ps k i x y q w f a b d h hi hd g j p
 by_cases s:x.kind=18
 ·exact QcU_ A n c ps k i x y q w f a b d h hi hd g j s
 by_cases v:x.kind=21
 ·exact QcV_ A n c ps k i x y q w f a b d h hi hd g j v
 by_cases z:x.kind=22
 ·exact Qfk_ A n c ps k i x y q w f a b d h hi hd g j z
 exact QgU_ A n c ps k i x y q w f a b d h hi hd g j oo
def Yf_ (ps:List PN) (v:Int):Bool:=
 match ps[v.toNat]? with
 |some y=>if y.kind=5 then (match y.kids with|[]=>false|j::_=>inB j 0 ((ps.length:Int) - 1))else true
 |none=>false
section
variable {ps:List PN} {k:Nat} {y:PN} {j:Int} {js:LI}
theorem kj_ (h:ps[k]? =some y) (h5:¬y.kind=5):Yf_ ps (k:Int)=true:=by unfold Yf_;rw[it_,h];simp only;rw[in_ h5]
theorem ja_ (h:ps[k]? =some y) (h5:y.kind=5) (hk:y.kids=[]):Yf_ ps (k:Int)=false:=by unfold Yf_;rw[it_,h];simp only;rw[ip_ h5,hk]
theorem jb_ (h:ps[k]? =some y) (h5:y.kind=5) (hk:y.kids=j::js):Yf_ ps (k:Int)=inB j 0 ((ps.length:Int) - 1):=by unfold Yf_;rw[it_,h];simp only;rw[ip_ h5,hk]
end
def Xf_ (ps:List PN) (x:PN) (i:Nat) (v:Int):Bool:=Yf_ ps v&&Vf_ ps x.kind x.kids.length i v
def z0_ (ps:List PN) (k:Nat):Bool:=
 match ps[k]? with
 |some x=>inB x.kind 1 22&&(inB (x.kids.length:Int) (Ki_ x.kind) (Kb_ x.kind)&&(Zi_ x.kind x.text&&(!(x.blank&&!Gf_ x.kind)&&(JP_ k x.kids&&Kd_ (Xf_ ps x) x.kids))))
 |none=>false
theorem Qhm_ (k:Int):Gf_ k=(ZR_ k||k==20||k==21):=by
 unfold Gf_ ZR_ Ka_ VW_
 cases c:(k==12)with
 |true=>
  rw[beq_iff_eq]at c;subst c;decide
 |false=>
  generalize inB k 12 17=a;generalize (k==20)=b;generalize (k==19)=d;generalize (k==21)=e;revert a b d e;decide
theorem q1_ (A:OA) (n c:Nat) (ps:List PN) (k:Nat) (w:World) (hn:n<=1048576) (X:Nps w A n ps) (hb:Hid (PNs ps)) (hk:k < n):
  Calls prog 111 #[S_ A n c,I_ j_ k] w (RB_ (B_ (z0_ ps k)) w):=by
 have HP:=h_ X;have HL:=h_ X.len;obtain⟨x,hx⟩:=X.get hk;obtain⟨b,off,A2,c2,rfl,aA,x0,x1,x2,x3,a7,aF⟩:=X.atc hk hx;have a3:=hb.o x (lm_ hx);have HX:=h_ hx;have af:=h_ aF;have HN:=h_ (fun W=>Ko_ (show inB (k:Int) 0 ((n:Int) - 1)=true from dt_ oo) W);have bc:(k:Int) < n:=oo;obtain⟨bf,be⟩:=a3;have g:Hid (z0_ ps k=(inB x.kind 1 22&&(inB (x.kids.length:Int) (Ki_ x.kind) (Kb_ x.kind)&&(Zi_ x.kind x.text&&(!(x.blank&&!Gf_ x.kind)&&(JP_ k x.kids&&Kd_ (Xf_ ps x) x.kids)))))):=(show _=_ by unfold z0_;rw[hx]);clear X hx aF;generalize z0_ ps k=F at g |-
 cases I:inB x.kind 1 22 with
 |false=>
  have l:F=false:=by rw[g.o,I];rfl
  subst l;have HK:=h_ (fun W=>Ko_ I W);clear g I;go_enter func111,ntmps111;go_wp2_with fail
  refine(HN.o _).mono ?_;rintro e w1 ⟨rfl,rfl⟩;go_wp2_with fail
  refine(HK.o _).mono ?_;rintro e w1 ⟨rfl,rfl⟩;go_wp2;go_ret;exact⟨rfl,grow_⟩
 |true=>
  have HK:=h_ (fun W=>Ko_ I W);have V:1<=x.kind/\x.kind<=22:=od_ I;have Y:=h_ (fun W=>k1_ x.kind W V);have aM:=h_ V;replace g:Hid (F=(inB (x.kids.length:Int) (Ki_ x.kind) (Kb_ x.kind)&&(Zi_ x.kind x.text&&(!(x.blank&&!Gf_ x.kind)&&(JP_ k x.kids&&Kd_ (Xf_ ps x) x.kids))))):=(show _=_ by rw[g.o,I,Bool.true_and]);clear I V;have ac:=h_ (fun(v:Bool) (h:inB (x.kids.length:Int) (Ki_ x.kind) (Kb_ x.kind)=v) W=>Ko_ h W)
  cases o:inB (x.kids.length:Int) (Ki_ x.kind) (Kb_ x.kind)with
  |false=>
   have l:F=false:=(by rw[g.o,o];rfl);subst l;have E:=h_ (ac.o _ o);clear g o ac;generalize Ki_ x.kind=lo at *;generalize Kb_ x.kind=hh at *;go_enter func111,ntmps111;go_wp2_with fail
   refine(HN.o _).mono ?_;rintro e w1 ⟨rfl,rfl⟩;go_wp2_with fail
   refine(HK.o _).mono ?_;rintro e w1 ⟨rfl,rfl⟩;go_wp2_with fail
   refine(Y.o _).mono ?_;rintro e w1 ⟨rfl,rfl⟩;go_wp2_with fail
   refine(E.o _).mono ?_;rintro e w1 ⟨rfl,rfl⟩;go_wp2;go_ret;exact⟨rfl,grow_⟩
  |true=>
   have E:=h_ (ac.o _ o);replace g:Hid (F=(Zi_ x.kind x.text&&(!(x.blank&&!Gf_ x.kind)&&(JP_ k x.kids&&Kd_ (Xf_ ps x) x.kids)))):=(show _=_ by rw[g.o,o,Bool.true_and]);clear o ac;have HT:=h_ (fun(v:Bool) (h:Zi_ x.kind x.text=v) W=>show Calls prog 130 #[I_ j_ x.kind,T_ x.text] W fun e w'=>e=R_ (B_ v)/\Below W.heap.size W w' by rw[<-h];exact jB_ x.kind x.text W oo);generalize Ki_ x.kind=lo at *;generalize Kb_ x.kind=hh at *
   cases ht:Zi_ x.kind x.text with
   |false=>
    have l:F=false:=(by rw[g.o,ht];rfl);subst l;have ae:=h_ (HT.o _ ht);clear g ht HT;go_enter func111,ntmps111;go_wp2_with fail
    refine(HN.o _).mono ?_;rintro e w1 ⟨rfl,rfl⟩;go_wp2_with fail
    refine(HK.o _).mono ?_;rintro e w1 ⟨rfl,rfl⟩;go_wp2_with fail
    refine(Y.o _).mono ?_;rintro e w1 ⟨rfl,rfl⟩;go_wp2_with fail
    refine(E.o _).mono ?_;rintro e w1 ⟨rfl,rfl⟩;go_wp2_with fail
    refine(ae.o _).mono ?_;rintro e w2 ⟨rfl,h2⟩;go_wp2;go_ret;exact⟨rfl,Ql_ h2⟩
   |true=>
    have ae:=h_ (HT.o _ ht);replace g:Hid (F=(!(x.blank&&!Gf_ x.kind)&&(JP_ k x.kids&&Kd_ (Xf_ ps x) x.kids))):=(show _=_ by rw[g.o,ht,Bool.true_and]);clear ht HT;go_enter func111,ntmps111;go_wp2_with fail
    refine(HN.o _).mono ?_;rintro e w1 ⟨rfl,rfl⟩;go_wp2_with fail
    refine(HK.o _).mono ?_;rintro e w1 ⟨rfl,rfl⟩;go_wp2_with fail
    refine(Y.o _).mono ?_;rintro e w1 ⟨rfl,rfl⟩;go_wp2_with fail
    refine(E.o _).mono ?_;rintro e w1 ⟨rfl,rfl⟩;go_wp2_with fail
    refine(ae.o _).mono ?_;rintro e w2 ⟨rfl,h2⟩;have K:=Blk.fresh h2;have a:=Ql_ h2;clear h2 x0 x1 x2 x3 aA HN HK Y E ae;have k0:=K.q0;have k2:=K.q2;have k3:=K.q3;have kz:=K.lt;go_upto_region 7 with fail
    go_cut [69] (fun s wx=>s=B_ (x.blank&&!Gf_ x.kind)/\Blk wx w.heap.size 96 #[I_ j_ x.kind,T_ x.text,S_ A2 x.kids.length c2,B_ x.blank]/\Below w.heap.size w wx)
    case first=>
     have HS:=h_ (fun(u:Bool) (h:ZR_ x.kind=u) (W:World)=>show Calls prog 131 #[I_ j_ x.kind] W fun e w'=>e=R_ (B_ u)/\W=w' by rw[<-h];exact Uc_ _ W);have L:=h_ (Qhm_ x.kind);clear g
     cases P:x.blank with
     |false=>
      rw[P]at k3;clear HS L;go_wp2;go_meet
      case rel=>exact⟨by rw[P,Bool.false_and],K,a⟩
     |true=>
      rw[P]at k3
      cases hs:ZR_ x.kind with
      |true=>
       have ad:=h_ (HS.o _ hs);have hm:=h_ (show Gf_ x.kind=true by rw[L.o,hs];rfl);clear HS hs L;go_wp2_with fail
       refine(ad.o _).mono ?_;rintro e w1 ⟨rfl,rfl⟩;go_wp2;go_meet
       case rel=>exact⟨by rw[P,hm.o];rfl,K,a⟩
      |false=>
       have ad:=h_ (HS.o _ hs)
       cases O:(x.kind==20)with
       |true=>
        have hm:=h_ (show Gf_ x.kind=true by rw[L.o,O];simp);have ay:(x.kind != 20)=false:=(by unfold bne;rw[O];rfl);clear HS hs L O;go_wp2_with fail
        refine(ad.o _).mono ?_;rintro e w1 ⟨rfl,rfl⟩;go_wp2;go_meet
        case rel=>exact⟨by rw[P,hm.o];rfl,K,a⟩
       |false=>
        have hm:=h_ (show(!Gf_ x.kind)=(x.kind != 21)by rw[L.o,hs,O];rfl);have ay:(x.kind != 20)=true:=(by unfold bne;rw[O];rfl);clear HS hs L O;go_wp2_with fail
        refine(ad.o _).mono ?_;rintro e w1 ⟨rfl,rfl⟩;go_wp2;go_meet
        case rel=>exact⟨by rw[P,hm.o];rfl,K,a⟩
    case rest=>
     clear K a k0 k2 k3 kz;obtain⟨rfl,K,a⟩:=hcut;generalize a0:(x.blank&&!Gf_ x.kind)=bm at g |-
     clear a0
     cases bm with
     |true=>
      have l:F=false:=g.o;subst l;go_wp2;go_ret;exact⟨rfl,a⟩
     |false=>
      replace g:Hid (F=(JP_ k x.kids&&Kd_ (Xf_ ps x) x.kids)):=(show _=_ by rw[g.o];rfl);have H:=h_ (fun h3:JP_ k x.kids=false=>show F=false by rw[g.o,h3];rfl);have N:=h_ (fun h3:JP_ k x.kids=true=>show F=Kd_ (Xf_ ps x) x.kids by rw[g.o,h3];rfl);clear g;go_wp2;go_loopw [8] (fun i wr=>∃t:Nat,t<=x.kids.length/\i=I_ j_ t/\Hid (AllI (Un_ k x.kids) x.kids t)/\Blk wr w.heap.size 96 #[I_ j_ x.kind,T_ x.text,S_ A2 x.kids.length c2,B_ x.blank]/\Below w.heap.size w wr) (fun i _=>x.kids.length - (intOf i).toNat)
      case atStart=>exact⟨0,lz_ _,rfl,Jz_ _ _,K,a⟩
      case round=>
       clear K a;obtain⟨t,a2,rfl,D,K,a⟩:=hrel;have kz:=K.lt;have k2:=K.q2;by_cases J:t < x.kids.length
       ·obtain⟨v,hd⟩:∃d,x.kids[t]? =some d:=⟨_,List.getElem?_eq_getElem J⟩;obtain⟨b5,ai,rfl,T,cv⟩:=Qu_ (af.o.below a) J hd;have HI:=h_ (fun(u:Bool) (h:inB v 0 ((k:Int) - 1)=u) W=>Ko_ h W)
        cases p:inB v 0 ((k:Int) - 1)with
        |false=>
         have l:F=false:=H.o (ZF_ hd (vX_ p));subst l;have C:=h_ (HI.o _ p);clear hd N H p D HI;go_wp2_with fail
         refine(C.o _).mono ?_;rintro e w1 ⟨rfl,rfl⟩;go_wp2;go_ret;exact⟨rfl,a⟩
        |true=>
         have C:=h_ (HI.o _ p);have R:=h_ hd;have av:=h_ p;clear hd HI p;go_wp2_with fail
         refine(C.o _).mono ?_;rintro e w1 ⟨rfl,rfl⟩;go_wp2;clear C;go_loopw [9] (fun i w2=>∃s:Nat,s<=t/\i=I_ j_ s/\Hid ((x.kids.take s).contains v=false)/\Blk w2 w.heap.size 96 #[I_ j_ x.kind,T_ x.text,S_ (some ⟨b5,ai,none⟩) x.kids.length c2,B_ x.blank]/\Below w.heap.size w w2) (fun i _=>t - (intOf i).toNat)
         case atStart=>exact⟨0,lz_ _,rfl,(show _=_ by simp),K,a⟩
         case round=>
          clear K a kz k2 cv T;obtain⟨s,bd,rfl,Y,K,a⟩:=hrel;have kz:=K.lt;have k2:=K.q2;by_cases aB:s < t
          ·obtain⟨u,hu⟩:∃d,x.kids[s]? =some d:=⟨_,gE oo⟩;obtain⟨b6,ba,e6,aY,cu⟩:=Qu_ (af.o.below a) oo hu;injection e6 with e6;injection e6 with e61 e62;subst e61;subst e62;obtain⟨b7,bb,e7,aZ,cv⟩:=Qu_ (af.o.below a) J R.o;injection e7 with e7;injection e7 with e71 e72;subst e71;subst e72;have gs:(s:Int) < x.kids.length:=oo;have gt:(t:Int) < x.kids.length:=oo
           cases U:(v==u)with
           |true=>
            have l:F=false:=H.o (ZF_ R.o (kS_ (by
             rw[List.contains_iff_exists_mem_beq];exact⟨u,lm_ (i:=s) (by rw[List.getElem?_take,ip_ aB];exact hu),U⟩)))
            subst l;rw[beq_iff_eq]at U;subst U;clear N H D Y hu;go_wp2;go_quiet (fail);go_wp2;go_ret;exact⟨rfl,grow_⟩
           |false=>
            have aK:Hid ((x.kids.take (s+1)).contains v=false):=(show _=_ by
             rw[List.take_add_one,hu];have:=Y.o;simp only[List.contains_eq_mem]at this |-
             simp at this U |-
             exact⟨this,U⟩)
            clear N H D Y hu;go_wp2;go_quiet (fail);go_wp2;go_roundw
            case rel=>exact⟨s+1,oo,by go_num,aK,K,grow_⟩
            case measure=>exact ms_
          ·obtain rfl:s=t:=oo;have S:=h_ (XE_ D.o R.o (kT_ av.o Y.o));clear N H D Y;go_wp2;go_roundw
           case rel=>exact⟨s+1,oo,by go_num,S,K,a⟩
           case measure=>exact ms_
       ·obtain rfl:t=x.kids.length:=oo;have al:=Ux_ D.o (lr_ _);have m:=h_ (N.o al);have aL:Hid (∀v∈x.kids,0<=v/\v < (n:Int)):=(show ∀v∈x.kids,_ from fun v hv=>by
         obtain⟨j,hj⟩:=List.mem_iff_getElem?.1 hv;have h1:=Z4_ al hj;unfold Un_ at h1;rw[Bool.and_eq_true]at h1;have h2:=od_ h1.1;exact⟨h2.1,oo⟩)
        clear N H D al;go_wp2;go_loopw [10] (fun i wr=>∃t:Nat,t<=x.kids.length/\i=I_ j_ t/\Hid (AllI (Xf_ ps x) x.kids t)/\Blk wr w.heap.size 96 #[I_ j_ x.kind,T_ x.text,S_ A2 x.kids.length c2,B_ x.blank]/\Below w.heap.size w wr) (fun i _=>x.kids.length - (intOf i).toNat)
        case atStart=>exact⟨0,lz_ _,rfl,Jz_ _ _,K,a⟩
        case round=>
         clear K a kz k2;obtain⟨t,a2,rfl,D,K,a⟩:=hrel;have kz:=K.lt;have k2:=K.q2;by_cases J:t < x.kids.length
         ·obtain⟨v,hd⟩:∃d,x.kids[t]? =some d:=⟨_,List.getElem?_eq_getElem J⟩;have hv:=aL.o v (lm_ hd);obtain⟨q,rfl⟩:=eo_ hv.1;have am:q < n:=oo;have g0:(0:Int)<=(q:Int):=oo;have g1:(q:Int) < n:=oo;have gt:(t:Int) < x.kids.length:=oo;obtain⟨b5,ai,rfl,T,cv⟩:=Qu_ (af.o.below a) J hd;obtain⟨y,hy⟩:=HP.o.get am;obtain⟨b3,a8,A3,c3,e3,aV,y0,y1,y2,y3,M⟩:=(HP.o.below a).at_ am hy;injection e3 with e3;injection e3 with e31 e32;subst e31;subst e32;have bg:=(hb.o y (lm_ hy)).2;have HY:=h_ hy;have R:=h_ hd;have Z:=h_ (fun(f:y.kind=5->∃(r:Nat) (js:LI),y.kids=(r:Int)::js/\r < n) (u:Bool) (h:Vf_ ps x.kind x.kids.length t (q:Int)=u) (W:World) (hW:Below w.heap.size w W)=>show Calls prog 132 #[S_ (some ⟨b,off,none⟩) n c,I_ j_ k,I_ j_ t] W fun e w'=>e=R_ (B_ u)/\Below W.heap.size W w' by rw[<-h];exact jA_ _ n c ps k t x y q W hn (HP.o.below hW) hb hk HX J R am HY f aM.o);have z:Below w.heap.size w (wr.alloc (C_ #[I_ j_ y.kind,T_ y.text,S_ A3 y.kids.length c3,B_ y.blank] 96)):=grow_;clear hv hy hd;by_cases h5:y.kind=5
          ·cases B:y.kids with
           |nil=>
            have l:F=false:=(by rw[m.o];exact ZF_ R.o (by unfold Xf_;rw[ja_ HY.o h5 B];rfl));subst l;rw[B]at y2;rw[h5]at y0;clear m D Z M B z;go_wp2;go_ret;exact⟨rfl,grow_⟩
           |cons j js=>
            have a4:0 < y.kids.length:=(by rw[B];simp);have ah:y.kids[0]? =some j:=(by rw[B];rfl);obtain⟨b4,a9,rfl,aX,cj⟩:=Qu_ M a4 ah;simp only[Nat.add_zero]at cj;have i1:((y.kids.length:Int)==0)=false:=(by rw[bn_];omega);have i2:(0:Int) < y.kids.length:=oo;have HI:=h_ (fun(u:Bool) (h:inB j 0 ((n:Int) - 1)=u) W=>Ko_ h W);have o:=jb_ HY.o h5 B;rw[HL.o]at o;have az:=h5;rw[h5]at y0
            cases p:inB j 0 ((n:Int) - 1)with
            |false=>
             have l:F=false:=(by rw[m.o];exact ZF_ R.o (by unfold Xf_;rw[o,p];rfl));subst l;have C:=h_ (HI.o _ p);clear m D Z M B z HI p o ah;go_wp2_with fail
             refine(C.o _).mono ?_;rintro e w1 ⟨rfl,rfl⟩;go_wp2;go_ret;exact⟨rfl,grow_⟩
            |true=>
             have ak:=od_ p;have C:=h_ (HI.o _ p);have f:y.kind=5->∃(r:Nat) (js:LI),y.kids=(r:Int)::js/\r < n:=fun _=>by
              obtain⟨r,hr⟩:=eo_ ak.1;exact⟨r,js,by rw[B,hr],oo⟩
             cases Q:Vf_ ps x.kind x.kids.length t (q:Int)with
             |false=>
              have l:F=false:=(by rw[m.o];exact ZF_ R.o (by unfold Xf_;rw[Q,Bool.and_false]));subst l;have G:=h_ (Z.o f _ Q);clear m D Z M B HI p o ah ak f Q;go_wp2_with fail
              refine(C.o _).mono ?_;rintro e w1 ⟨rfl,rfl⟩;rw[az]at z;go_wp2_with fail
              refine(G.o _ z).mono ?_;rintro e w6 ⟨rfl,h6⟩;go_wp2;go_ret;exact⟨rfl,Qb_ z h6⟩
             |true=>
              have S:=h_ (XE_ D.o R.o (by unfold Xf_;rw[o,p,Q];rfl));have G:=h_ (Z.o f _ Q);clear m D Z M B HI p o ah ak f Q;go_wp2_with fail
              refine(C.o _).mono ?_;rintro e w1 ⟨rfl,rfl⟩;rw[az]at z;go_wp2_with fail
              refine(G.o _ z).mono ?_;rintro e w6 ⟨rfl,h6⟩;have K6:=(K.alloc _).next h6;go_wp2;go_roundw
              case rel=>exact⟨t+1,oo,by go_num,S,K6,Qb_ z h6⟩
              case measure=>exact ms_
          ·have e5:(y.kind==5)=false:=(by rw[bn_];exact h5);have o:=kj_ HY.o h5;have f:y.kind=5->∃(r:Nat) (js:LI),y.kids=(r:Int)::js/\r < n:=fun h=>absurd h h5
           cases Q:Vf_ ps x.kind x.kids.length t (q:Int)with
           |false=>
            have l:F=false:=(by rw[m.o];exact ZF_ R.o (by unfold Xf_;rw[Q,Bool.and_false]));subst l;have G:=h_ (Z.o f _ Q);clear m D Z M o f Q h5;go_wp2_with fail
            refine(G.o _ z).mono ?_;rintro e w6 ⟨rfl,h6⟩;go_wp2;go_ret;exact⟨rfl,Qb_ z h6⟩
           |true=>
            have S:=h_ (XE_ D.o R.o (by unfold Xf_;rw[o,Q];rfl));have G:=h_ (Z.o f _ Q);clear m D Z M o f Q h5;go_wp2_with fail
            refine(G.o _ z).mono ?_;rintro e w6 ⟨rfl,h6⟩;have K6:=(K.alloc _).next h6;go_wp2;go_roundw
            case rel=>exact⟨t+1,oo,by go_num,S,K6,Qb_ z h6⟩
            case measure=>exact ms_
         ·obtain rfl:t=x.kids.length:=oo;have l:F=true:=(by rw[m.o];exact Ux_ D.o (lr_ _));subst l;clear m D;go_wp2;go_ret;exact⟨rfl,a⟩
theorem Qcn_ (p q:Nat->Int->Bool) (l:LI):(Kd_ p l&&Kd_ q l)=Kd_ (fun i v=>p i v&&q i v) l:=by
 cases h:Kd_ (fun i v=>p i v&&q i v) l with
 |true=>
  have h1:Kd_ p l=true:=XD_ (fun j x a=>by have:=Z4_ h a;simp only[Bool.and_eq_true]at this;exact this.1);have b:Kd_ q l=true:=XD_ (fun j x a=>by have:=Z4_ h a;simp only[Bool.and_eq_true]at this;exact this.2);rw[h1,b];rfl
 |false=>
  cases h1:Kd_ p l with
  |false=>rfl
  |true=>
   cases b:Kd_ q l with
   |false=>rfl
   |true=>
    rw[XD_ (fun j x a=>by simp only[Bool.and_eq_true];exact⟨Z4_ h1 a,Z4_ b a⟩)]at h
    cases h
theorem qd_ {a b:Bool} (h:a=true↔b=true):a=b:=by
 cases a<;>cases b<;>simp at h |-
theorem UN_ {p:Nat->Int->Bool} {l:LI}:Kd_ p l=true↔∀j x,l[j]? =some x->p j x=true:=⟨fun h j x hx=>Z4_ h hx,XD_⟩
section
variable {ps:List PN} {kids:LI}
theorem Kn_ (ps:List PN) (kids:LI):(Qe_ ps kids).length=kids.length:=by unfold Qe_;rw[List.length_map]
theorem KT_ (p:Int->Bool):(Qe_ ps kids).all p=Kd_ (fun i v=>p (Qc_ ps v)) kids:=by
 apply qd_;rw[UN_,List.all_eq_true];unfold Qe_;constructor
 ·intro h j x a;exact h _ (List.mem_map.2 ⟨x,lm_ a,rfl⟩)
 ·intro h y hy;obtain⟨x,a,rfl⟩:=List.mem_map.1 hy;obtain⟨j,hj⟩:=List.mem_iff_getElem?.1 a;exact h j x hj
theorem Vk_ (ps:List PN) (kids:LI) (j:Nat):(Qe_ ps kids)[j]? =(kids[j]?).map (Qc_ ps):=by unfold Qe_;rw[List.getElem?_map]
theorem Qcp_ {l:LI} {p:Int->Bool}:l.all p=true↔∀(j:Nat) x,l[j]? =some x->p x=true:=by
 rw[List.all_eq_true];constructor
 ·intro h j x a;exact h x (lm_ a)
 ·intro h x a;obtain⟨j,hj⟩:=List.mem_iff_getElem?.1 a;exact h j x hj
theorem Gu_ (p q:Int->Bool) (h:1<=kids.length):(Jg_ p (Qe_ ps kids)&&((Qe_ ps kids).drop 1).all q)=Kd_ (fun i v=>if 0 < i then q (Qc_ ps v)else p (Qc_ ps v)) kids:=by
 match kids,h with
 |x::r,_=>
  have e0:Jg_ p (Qe_ ps (x::r))=p (Qc_ ps x):=rfl;rw[e0];apply qd_;rw[UN_,Bool.and_eq_true,Qcp_];constructor
  ·rintro⟨h1,h2⟩ j v a
   cases j with
   |zero=>simp at a;subst a;simpa using h1
   |succ j=>
    simp only[Nat.zero_lt_succ,if_true];refine h2 j _ ?_;rw[List.getElem?_drop,Vk_,Nat.add_comm 1 j,a];rfl
  ·intro h;refine⟨by simpa using h 0 x rfl,fun j v a=>?_⟩;rw[List.getElem?_drop,Vk_,Nat.add_comm 1 j]at a;obtain⟨u,hu,rfl⟩:=Option.map_eq_some_iff.1 a;have:=h (j+1) u hu;simpa using this
theorem zC_ (p:Int->Bool) (h:1<=kids.length):YF_ p (Qe_ ps kids)=Kd_ (fun i v=>if i+1 < kids.length then isK 1 (Qc_ ps v)else p (Qc_ ps v)) kids:=by
 obtain⟨m,hm⟩:∃m,kids.length=m+1:=⟨kids.length - 1,oo⟩;obtain⟨x,b⟩:∃x,kids[m]? =some x:=⟨_,gE oo⟩;rw[Yo_ (m:=m) (x:=Qc_ ps x) (by rw[Kn_];exact hm) (by rw[Vk_,b];rfl)];apply qd_;rw[UN_,Bool.and_eq_true,Qcp_];constructor
 ·rintro⟨h1,h2⟩ j v a;have c:=(gs_.1 a).1;by_cases hj:j+1 < kids.length
  ·rw[ip_ hj];refine h2 j _ ?_;rw[List.getElem?_take,ip_ oo,Vk_,a];rfl
  ·rw[in_ hj];obtain rfl:j=m:=oo;rw[b]at a;obtain rfl:=oi_ a;exact h1
 ·intro h;refine⟨?_,fun j v a=>?_⟩
  ·have:=h m x b;rwa[in_ oo]at this
  ·rw[List.getElem?_take]at a;split at a
   ·rename_i d;rw[Vk_]at a;obtain⟨u,hu,rfl⟩:=Option.map_eq_some_iff.1 a;have:=h j u hu;rwa[ip_ oo]at this
   ·cases a
end
def kfF (kind:Int) (n i:Nat) (y:Int):Bool:=
 if kind=9 then (if i+1 < n then isK 1 y else Qk_ y)
 else if kind=20 then (if i+1 < n then isK 1 y else isK 18 y)
 else if kind=10 then (if 0 < i then isK 5 y else Qk_ y)
 else if kind=16\/kind=17 then (if 0 < i then isK 18 y else Qk_ y)
 else if kind=18 then ZR_ y
 else if kind=21 then Ka_ y
 else if kind=22 then xR_ y
 else Qk_ y
section
variable {ps:List PN} {kids:LI}
theorem Qie_ (hn:kids.length<=12):kfB 1 (Qe_ ps kids)=(inB (kids.length:Int) (Ki_ 1) (Kb_ 1)&&Kd_ (fun i v=>kfF 1 kids.length i (Qc_ ps v)) kids):=by
 have e2:inB (kids.length:Int) (Ki_ 1) (Kb_ 1)=decide (kids.length=0):=by
  show decide ((0:Int)<=kids.length/\(kids.length:Int)<=0)=decide (kids.length=0);exact decide_eq_decide.2 oo
 rw[e2,show kfB 1 (Qe_ ps kids)=decide ((Qe_ ps kids).length=0)from rfl,Kn_];by_cases h:kids.length=0
 ·have:kids=[]:=ln_ h;subst this;rfl
 ·rw[df_ h,Bool.false_and]
theorem Qif_ (hn:kids.length<=12):kfB 2 (Qe_ ps kids)=(inB (kids.length:Int) (Ki_ 2) (Kb_ 2)&&Kd_ (fun i v=>kfF 2 kids.length i (Qc_ ps v)) kids):=by
 have e2:inB (kids.length:Int) (Ki_ 2) (Kb_ 2)=decide (kids.length=0):=by
  show decide ((0:Int)<=kids.length/\(kids.length:Int)<=0)=decide (kids.length=0);exact decide_eq_decide.2 oo
 rw[e2,show kfB 2 (Qe_ ps kids)=decide ((Qe_ ps kids).length=0)from rfl,Kn_];by_cases h:kids.length=0
 ·have:kids=[]:=ln_ h;subst this;rfl
 ·rw[df_ h,Bool.false_and]
theorem Qig_ (hn:kids.length<=12):kfB 3 (Qe_ ps kids)=(inB (kids.length:Int) (Ki_ 3) (Kb_ 3)&&Kd_ (fun i v=>kfF 3 kids.length i (Qc_ ps v)) kids):=by
 have e2:inB (kids.length:Int) (Ki_ 3) (Kb_ 3)=decide (kids.length=0):=by
  show decide ((0:Int)<=kids.length/\(kids.length:Int)<=0)=decide (kids.length=0);exact decide_eq_decide.2 oo
 rw[e2,show kfB 3 (Qe_ ps kids)=decide ((Qe_ ps kids).length=0)from rfl,Kn_];by_cases h:kids.length=0
 ·have:kids=[]:=ln_ h;subst this;rfl
 ·rw[df_ h,Bool.false_and]
theorem Qih_ (hn:kids.length<=12):kfB 4 (Qe_ ps kids)=(inB (kids.length:Int) (Ki_ 4) (Kb_ 4)&&Kd_ (fun i v=>kfF 4 kids.length i (Qc_ ps v)) kids):=by
 have e2:inB (kids.length:Int) (Ki_ 4) (Kb_ 4)=decide (True):=by
  show decide ((0:Int)<=kids.length/\(kids.length:Int)<=12)=decide (True);exact decide_eq_decide.2 ⟨fun _=>trivial,fun _=>oo⟩
 rw[e2,show kfB 4 (Qe_ ps kids)=(Qe_ ps kids).all Qk_ from rfl,KT_,decide_true,Bool.true_and]
 rfl
theorem Qii_ (hn:kids.length<=12):kfB 5 (Qe_ ps kids)=(inB (kids.length:Int) (Ki_ 5) (Kb_ 5)&&Kd_ (fun i v=>kfF 5 kids.length i (Qc_ ps v)) kids):=by
 have e2:inB (kids.length:Int) (Ki_ 5) (Kb_ 5)=decide (1<=kids.length):=by
  show decide ((1:Int)<=kids.length/\(kids.length:Int)<=12)=decide (1<=kids.length);exact decide_eq_decide.2 oo
 rw[e2,show kfB 5 (Qe_ ps kids)=(decide (1<=(Qe_ ps kids).length)&&(Qe_ ps kids).all Qk_)from rfl,Kn_,KT_]
 rfl
theorem Qij_ (hn:kids.length<=12):kfB 6 (Qe_ ps kids)=(inB (kids.length:Int) (Ki_ 6) (Kb_ 6)&&Kd_ (fun i v=>kfF 6 kids.length i (Qc_ ps v)) kids):=by
 have e2:inB (kids.length:Int) (Ki_ 6) (Kb_ 6)=decide (kids.length=1):=by
  show decide ((1:Int)<=kids.length/\(kids.length:Int)<=1)=decide (kids.length=1);exact decide_eq_decide.2 oo
 rw[e2,show kfB 6 (Qe_ ps kids)=(decide ((Qe_ ps kids).length=1)&&(Qe_ ps kids).all Qk_)from rfl,Kn_,KT_]
 rfl
theorem Qik_ (hn:kids.length<=12):kfB 7 (Qe_ ps kids)=(inB (kids.length:Int) (Ki_ 7) (Kb_ 7)&&Kd_ (fun i v=>kfF 7 kids.length i (Qc_ ps v)) kids):=by
 have e2:inB (kids.length:Int) (Ki_ 7) (Kb_ 7)=decide (2<=kids.length):=by
  show decide ((2:Int)<=kids.length/\(kids.length:Int)<=12)=decide (2<=kids.length);exact decide_eq_decide.2 oo
 rw[e2,show kfB 7 (Qe_ ps kids)=(decide (2<=(Qe_ ps kids).length)&&(Qe_ ps kids).all Qk_)from rfl,Kn_,KT_]
 rfl
theorem Qil_ (hn:kids.length<=12):kfB 8 (Qe_ ps kids)=(inB (kids.length:Int) (Ki_ 8) (Kb_ 8)&&Kd_ (fun i v=>kfF 8 kids.length i (Qc_ ps v)) kids):=by
 have e2:inB (kids.length:Int) (Ki_ 8) (Kb_ 8)=decide (kids.length=3):=by
  show decide ((3:Int)<=kids.length/\(kids.length:Int)<=3)=decide (kids.length=3);exact decide_eq_decide.2 oo
 rw[e2,show kfB 8 (Qe_ ps kids)=(decide ((Qe_ ps kids).length=3)&&(Qe_ ps kids).all Qk_)from rfl,Kn_,KT_]
 rfl
theorem Qim_ (hn:kids.length<=12):kfB 9 (Qe_ ps kids)=(inB (kids.length:Int) (Ki_ 9) (Kb_ 9)&&Kd_ (fun i v=>kfF 9 kids.length i (Qc_ ps v)) kids):=by
 have e2:inB (kids.length:Int) (Ki_ 9) (Kb_ 9)=decide (1<=kids.length):=by
  show decide ((1:Int)<=kids.length/\(kids.length:Int)<=12)=decide (1<=kids.length);exact decide_eq_decide.2 oo
 rw[e2,show kfB 9 (Qe_ ps kids)=YF_ Qk_ (Qe_ ps kids)from rfl];by_cases h:1<=kids.length
 ·rw[zC_ _ h,dt_ h,Bool.true_and]
  rfl
 ·have:kids=[]:=ln_ oo;subst this;rfl
theorem QgX_ (hn:kids.length<=12):kfB 10 (Qe_ ps kids)=(inB (kids.length:Int) (Ki_ 10) (Kb_ 10)&&Kd_ (fun i v=>kfF 10 kids.length i (Qc_ ps v)) kids):=by
 have e2:inB (kids.length:Int) (Ki_ 10) (Kb_ 10)=decide (2<=kids.length):=by
  show decide ((2:Int)<=kids.length/\(kids.length:Int)<=12)=decide (2<=kids.length);exact decide_eq_decide.2 oo
 rw[e2,show kfB 10 (Qe_ ps kids)=(decide (2<=(Qe_ ps kids).length)&&Jg_ Qk_ (Qe_ ps kids)&&((Qe_ ps kids).drop 1).all (isK 5))from rfl,Kn_,Bool.and_assoc];by_cases h:1<=kids.length
 ·rw[Gu_ _ _ h]
  rfl
 ·rw[df_ oo,Bool.false_and,Bool.false_and]
theorem QgY_ (hn:kids.length<=12):kfB 11 (Qe_ ps kids)=(inB (kids.length:Int) (Ki_ 11) (Kb_ 11)&&Kd_ (fun i v=>kfF 11 kids.length i (Qc_ ps v)) kids):=by
 have e2:inB (kids.length:Int) (Ki_ 11) (Kb_ 11)=decide (kids.length=1):=by
  show decide ((1:Int)<=kids.length/\(kids.length:Int)<=1)=decide (kids.length=1);exact decide_eq_decide.2 oo
 rw[e2,show kfB 11 (Qe_ ps kids)=(decide ((Qe_ ps kids).length=1)&&(Qe_ ps kids).all Qk_)from rfl,Kn_,KT_]
 rfl
theorem QgZ_ (hn:kids.length<=12):kfB 12 (Qe_ ps kids)=(inB (kids.length:Int) (Ki_ 12) (Kb_ 12)&&Kd_ (fun i v=>kfF 12 kids.length i (Qc_ ps v)) kids):=by
 have e2:inB (kids.length:Int) (Ki_ 12) (Kb_ 12)=decide (kids.length<=1):=by
  show decide ((0:Int)<=kids.length/\(kids.length:Int)<=1)=decide (kids.length<=1);exact decide_eq_decide.2 oo
 rw[e2,show kfB 12 (Qe_ ps kids)=(decide ((Qe_ ps kids).length<=1)&&(Qe_ ps kids).all Qk_)from rfl,Kn_,KT_]
 rfl
theorem Qg0_ (hn:kids.length<=12):kfB 13 (Qe_ ps kids)=(inB (kids.length:Int) (Ki_ 13) (Kb_ 13)&&Kd_ (fun i v=>kfF 13 kids.length i (Qc_ ps v)) kids):=by
 have e2:inB (kids.length:Int) (Ki_ 13) (Kb_ 13)=decide (kids.length=1):=by
  show decide ((1:Int)<=kids.length/\(kids.length:Int)<=1)=decide (kids.length=1);exact decide_eq_decide.2 oo
 rw[e2,show kfB 13 (Qe_ ps kids)=(decide ((Qe_ ps kids).length=1)&&(Qe_ ps kids).all Qk_)from rfl,Kn_,KT_]
 rfl
theorem Qg1_ (hn:kids.length<=12):kfB 14 (Qe_ ps kids)=(inB (kids.length:Int) (Ki_ 14) (Kb_ 14)&&Kd_ (fun i v=>kfF 14 kids.length i (Qc_ ps v)) kids):=by
 have e2:inB (kids.length:Int) (Ki_ 14) (Kb_ 14)=decide (kids.length=1):=by
  show decide ((1:Int)<=kids.length/\(kids.length:Int)<=1)=decide (kids.length=1);exact decide_eq_decide.2 oo
 rw[e2,show kfB 14 (Qe_ ps kids)=(decide ((Qe_ ps kids).length=1)&&(Qe_ ps kids).all Qk_)from rfl,Kn_,KT_]
 rfl
theorem Qg2_ (hn:kids.length<=12):kfB 15 (Qe_ ps kids)=(inB (kids.length:Int) (Ki_ 15) (Kb_ 15)&&Kd_ (fun i v=>kfF 15 kids.length i (Qc_ ps v)) kids):=by
 have e2:inB (kids.length:Int) (Ki_ 15) (Kb_ 15)=decide (kids.length<=1):=by
  show decide ((0:Int)<=kids.length/\(kids.length:Int)<=1)=decide (kids.length<=1);exact decide_eq_decide.2 oo
 rw[e2,show kfB 15 (Qe_ ps kids)=(decide ((Qe_ ps kids).length<=1)&&(Qe_ ps kids).all Qk_)from rfl,Kn_,KT_]
 rfl
theorem Qg3_ (hn:kids.length<=12):kfB 16 (Qe_ ps kids)=(inB (kids.length:Int) (Ki_ 16) (Kb_ 16)&&Kd_ (fun i v=>kfF 16 kids.length i (Qc_ ps v)) kids):=by
 have e2:inB (kids.length:Int) (Ki_ 16) (Kb_ 16)=decide (2<=kids.length/\kids.length<=3):=by
  show decide ((2:Int)<=kids.length/\(kids.length:Int)<=3)=decide (2<=kids.length/\kids.length<=3);exact decide_eq_decide.2 oo
 rw[e2,show kfB 16 (Qe_ ps kids)=(decide (2<=(Qe_ ps kids).length/\(Qe_ ps kids).length<=3)&&Jg_ Qk_ (Qe_ ps kids)&&((Qe_ ps kids).drop 1).all (isK 18))from rfl,Kn_,Bool.and_assoc];by_cases h:1<=kids.length
 ·rw[Gu_ _ _ h]
  rfl
 ·rw[df_ oo,Bool.false_and,Bool.false_and]
theorem Qg4_ (hn:kids.length<=12):kfB 17 (Qe_ ps kids)=(inB (kids.length:Int) (Ki_ 17) (Kb_ 17)&&Kd_ (fun i v=>kfF 17 kids.length i (Qc_ ps v)) kids):=by
 have e2:inB (kids.length:Int) (Ki_ 17) (Kb_ 17)=decide (kids.length=2):=by
  show decide ((2:Int)<=kids.length/\(kids.length:Int)<=2)=decide (kids.length=2);exact decide_eq_decide.2 oo
 rw[e2,show kfB 17 (Qe_ ps kids)=(decide ((Qe_ ps kids).length=2)&&Jg_ Qk_ (Qe_ ps kids)&&((Qe_ ps kids).drop 1).all (isK 18))from rfl,Kn_,Bool.and_assoc];by_cases h:1<=kids.length
 ·rw[Gu_ _ _ h]
  rfl
 ·rw[df_ oo,Bool.false_and,Bool.false_and]
theorem Qg5_ (hn:kids.length<=12):kfB 18 (Qe_ ps kids)=(inB (kids.length:Int) (Ki_ 18) (Kb_ 18)&&Kd_ (fun i v=>kfF 18 kids.length i (Qc_ ps v)) kids):=by
 have e2:inB (kids.length:Int) (Ki_ 18) (Kb_ 18)=decide (True):=by
  show decide ((0:Int)<=kids.length/\(kids.length:Int)<=12)=decide (True);exact decide_eq_decide.2 ⟨fun _=>trivial,fun _=>oo⟩
 rw[e2,show kfB 18 (Qe_ ps kids)=(Qe_ ps kids).all ZR_ from rfl,KT_,decide_true,Bool.true_and]
 rfl
theorem Qg6_ (hn:kids.length<=12):kfB 19 (Qe_ ps kids)=(inB (kids.length:Int) (Ki_ 19) (Kb_ 19)&&Kd_ (fun i v=>kfF 19 kids.length i (Qc_ ps v)) kids):=by
 have e2:inB (kids.length:Int) (Ki_ 19) (Kb_ 19)=decide (kids.length=0):=by
  show decide ((0:Int)<=kids.length/\(kids.length:Int)<=0)=decide (kids.length=0);exact decide_eq_decide.2 oo
 rw[e2,show kfB 19 (Qe_ ps kids)=decide ((Qe_ ps kids).length=0)from rfl,Kn_];by_cases h:kids.length=0
 ·have:kids=[]:=ln_ h;subst this;rfl
 ·rw[df_ h,Bool.false_and]
theorem Qg7_ (hn:kids.length<=12):kfB 20 (Qe_ ps kids)=(inB (kids.length:Int) (Ki_ 20) (Kb_ 20)&&Kd_ (fun i v=>kfF 20 kids.length i (Qc_ ps v)) kids):=by
 have e2:inB (kids.length:Int) (Ki_ 20) (Kb_ 20)=decide (1<=kids.length):=by
  show decide ((1:Int)<=kids.length/\(kids.length:Int)<=12)=decide (1<=kids.length);exact decide_eq_decide.2 oo
 rw[e2,show kfB 20 (Qe_ ps kids)=YF_ (isK 18) (Qe_ ps kids)from rfl];by_cases h:1<=kids.length
 ·rw[zC_ _ h,dt_ h,Bool.true_and]
  rfl
 ·have:kids=[]:=ln_ oo;subst this;rfl
theorem Qg8_ (hn:kids.length<=12):kfB 21 (Qe_ ps kids)=(inB (kids.length:Int) (Ki_ 21) (Kb_ 21)&&Kd_ (fun i v=>kfF 21 kids.length i (Qc_ ps v)) kids):=by
 have e2:inB (kids.length:Int) (Ki_ 21) (Kb_ 21)=decide (True):=by
  show decide ((0:Int)<=kids.length/\(kids.length:Int)<=12)=decide (True);exact decide_eq_decide.2 ⟨fun _=>trivial,fun _=>oo⟩
 rw[e2,show kfB 21 (Qe_ ps kids)=(Qe_ ps kids).all Ka_ from rfl,KT_,decide_true,Bool.true_and]
 rfl
theorem Qg9_ (hn:kids.length<=12):kfB 22 (Qe_ ps kids)=(inB (kids.length:Int) (Ki_ 22) (Kb_ 22)&&Kd_ (fun i v=>kfF 22 kids.length i (Qc_ ps v)) kids):=by
 have e2:inB (kids.length:Int) (Ki_ 22) (Kb_ 22)=decide (True):=by
  show decide ((0:Int)<=kids.length/\(kids.length:Int)<=12)=decide (True);exact decide_eq_decide.2 ⟨fun _=>trivial,fun _=>oo⟩
 rw[e2,show kfB 22 (Qe_ ps kids)=(Qe_ ps kids).all xR_ from rfl,KT_,decide_true,Bool.true_and]
 rfl
theorem Qhh_ {kind:Int} (hk:1<=kind/\kind<=22) (a:kids.length<=12):kfB kind (Qe_ ps kids)=(inB (kids.length:Int) (Ki_ kind) (Kb_ kind)&&Kd_ (fun i v=>kfF kind kids.length i (Qc_ ps v)) kids):=by
 have h2:kind=1\/kind=2\/kind=3\/kind=4\/kind=5\/kind=6\/kind=7\/kind=8\/kind=9\/kind=10\/kind=11\/kind=12\/kind=13\/kind=14\/kind=15\/kind=16\/kind=17\/kind=18\/kind=19\/kind=20\/kind=21\/kind=22:=oo;rcases h2 with rfl|rfl|rfl|rfl|rfl|rfl|rfl|rfl|rfl|rfl|rfl|rfl|rfl|rfl|rfl|rfl|rfl|rfl|rfl|rfl|rfl|rfl
 ·exact Qie_ a
 ·exact Qif_ a
 ·exact Qig_ a
 ·exact Qih_ a
 ·exact Qii_ a
 ·exact Qij_ a
 ·exact Qik_ a
 ·exact Qil_ a
 ·exact Qim_ a
 ·exact QgX_ a
 ·exact QgY_ a
 ·exact QgZ_ a
 ·exact Qg0_ a
 ·exact Qg1_ a
 ·exact Qg2_ a
 ·exact Qg3_ a
 ·exact Qg4_ a
 ·exact Qg5_ a
 ·exact Qg6_ a
 ·exact Qg7_ a
 ·exact Qg8_ a
 ·exact Qg9_ a
theorem Qfy_ {kind:Int} (l:LI) (hk:¬(1<=kind/\kind<=22)):kfB kind l=false:=by
 unfold kfB;rw[in_ oo,in_ oo,in_ oo,in_ oo,in_ oo,in_ oo,in_ oo,in_ oo,in_ oo,in_ oo,in_ oo,in_ oo,in_ oo,in_ oo,in_ oo]
theorem Qh8_ (kind:Int):Kb_ kind<=12:=by unfold Kb_;split<;>(try split)<;>(try split)<;>(try split)<;>omega
theorem QaK_ {kind:Int} (h:kind≠10) (i:Nat) (v:Int):Zt_ ps kind i v=Yf_ ps v:=by
 unfold Zt_ Yf_;have hb:(kind==10)=false:=by rw[bn_];exact h
 rw[hb]
 cases ps[v.toNat]? with
 |none=>rfl
 |some y=>
  simp only[Bool.false_and,Bool.not_false,Bool.true_or,Bool.and_true]<;>(split<;>(try cases y.kids)<;>rfl)
theorem QhA_ {kind:Int} (hk:1<=kind/\kind<=22) (n i:Nat) (v:Int):(kfF kind n i (Qc_ ps v)&&Zt_ ps kind i v)=(Yf_ ps v&&Vf_ ps kind n i v):=by
 by_cases a:kind=10
 ·subst a;have e1:kfF 10 n i (Qc_ ps v)=if 0 < i then isK 5 (Qc_ ps v)else Qk_ (Qc_ ps v):=rfl
  have e2:Vf_ ps 10 n i v=if 0 < i then isK 5 (Qc_ ps v)&&(match ps[v.toNat]? with|some y=>(match y.kids with|j::_=>isK 1 (Qc_ ps j)|[]=>false)|none=>false)else Qk_ (Qc_ ps v):=rfl
  rw[e1,e2];by_cases hi:0 < i
  ·rw[ip_ hi,ip_ hi];unfold Zt_ Yf_;rw[dt_ hi];unfold Qc_
   cases ps[v.toNat]? with
   |none=>simp
   |some y=>
    simp only;by_cases b:y.kind=5
    ·rw[ip_ b,ip_ b,b]
     cases y.kids with
     |nil=>simp
     |cons j js=>
      simp[isK]
    ·have:isK 5 y.kind=false:=(by unfold isK;rw[bn_];exact b);rw[this,Bool.false_and,Bool.false_and,Bool.and_false]
  ·rw[in_ hi,in_ hi];have:Zt_ ps 10 i v=Yf_ ps v:=by
    unfold Zt_ Yf_;rw[df_ hi]
    cases ps[v.toNat]? with
    |none=>rfl
    |some y=>
     simp only[Bool.and_false,Bool.not_false,Bool.true_or,Bool.and_true]<;>(split<;>(try cases y.kids)<;>rfl)
   rw[this,Bool.and_comm]
 ·rw[QaK_ a,Bool.and_comm];congr 1;unfold kfF Vf_;simp only[in_ a];split
  ·rfl
  ·split
   ·rfl
   ·split
    ·rfl
    ·split
     ·rfl
     ·split
      ·rfl
      ·split
       ·unfold xR_ isK;rw[Bool.or_comm]
       ·rfl
theorem jH_ (k:Nat):z0_ ps k=Za_ ps k:=by
 unfold z0_ Za_
 cases ps[k]? with
 |none=>rfl
 |some x=>
  simp only;have l:(decide (x.kids.length<=12)&&(kfB x.kind (Qe_ ps x.kids)&&Yh_ ps x.kind x.kids))=(inB x.kind 1 22&&(inB (x.kids.length:Int) (Ki_ x.kind) (Kb_ x.kind)&&Kd_ (Xf_ ps x) x.kids)):=by
   by_cases m:1<=x.kind/\x.kind<=22
   ·rw[show inB x.kind 1 22=true from dt_ m,Bool.true_and];by_cases n:x.kids.length<=12
    ·rw[dt_ n,Bool.true_and,Qhh_ m n,Bool.and_assoc];unfold Yh_;rw[Qcn_];congr 1;exact x4_ (fun j v _=>by unfold Xf_;exact QhA_ m _ j v)
    ·have o:=Qh8_ x.kind;rw[df_ n,Bool.false_and,vO_ (show ¬(x.kids.length:Int)<=Kb_ x.kind from oo),Bool.false_and]
   ·rw[show inB x.kind 1 22=false from df_ m,Qfy_ _ m,Bool.false_and,Bool.false_and,Bool.and_false]
  have hm:(!(x.blank&&!Gf_ x.kind))=(Gf_ x.kind||!x.blank):=by cases x.blank<;>cases Gf_ x.kind<;>rfl
  rw[hm];revert l;generalize inB x.kind 1 22=a;generalize inB (x.kids.length:Int) (Ki_ x.kind) (Kb_ x.kind)=b;generalize Zi_ x.kind x.text=c;generalize (Gf_ x.kind||!x.blank)=d;generalize JP_ k x.kids=e;generalize Kd_ (Xf_ ps x) x.kids=f;generalize decide (x.kids.length<=12)=g;generalize kfB x.kind (Qe_ ps x.kids)=h;generalize Yh_ ps x.kind x.kids=i;revert a b c d e f g h i;decide
end
theorem Own.put {w:World} {g:Nat} {t:TypeId} {cap:Nat} {xs:List Value} (h:Own w g t cap xs) {i:Nat} (hi:i < xs.length) (u:Value):Own (w.setCell ⟨g,i,none⟩ u) g t cap (xs.set i u):=by
 obtain⟨rest,hb,hs⟩:=h;refine⟨rest,?_,by simpa using hs⟩;have h2:=hb.set_ i u;have e:((xs++rest).toArray).setIfInBounds i u=(xs.set i u++rest).toArray:=by
  simp[List.set_append,hi]
 rwa[e]at h2
theorem Own.zeros {w:World} {e:TypeId} (n:Nat):Own (w.alloc (C_ (madeCells #[I_ j_ 0] n) e)) w.heap.size e n (Qa_ (List.replicate n 0)):=
 ⟨[],by
  have h:=Blk.new w e (madeCells #[I_ j_ 0] n);have e1:(Qa_ (List.replicate n 0)++[]).toArray=madeCells #[I_ j_ 0] n:=by
   apply Array.ext';rw[toList_madeCells_one];simp[Qa_]
  rw[e1];exact h,by simp[Qa_]⟩
def mxK (l:LI) (kids:LI) (t:Nat):Int:=(kids.take t).foldl (fun d v=>max d (l.getD v.toNat 0)) 0
theorem v4_ (l kids:LI):mxK l kids 0=0:=by simp[mxK]
theorem v3_ {l kids:LI} {t q:Nat} {x:Int} (h:kids[t]? =some (q:Int)) (hx:l[q]? =some x):mxK l kids (t+1)=max (mxK l kids t) x:=by
 unfold mxK;rw[List.take_add_one,h,List.foldl_append];simp[List.getD_eq_getElem?_getD,hx]
theorem Wm_ {l kids:LI} (hl:∀x∈l,1<=x/\x<=14) (t:Nat):0<=mxK l kids t/\mxK l kids t<=14:=by
 unfold mxK;generalize kids.take t=r;have:∀(r:LI) (d:Int),0<=d/\d<=14->0<=r.foldl (fun d v=>max d (l.getD v.toNat 0)) d/\r.foldl (fun d v=>max d (l.getD v.toNat 0)) d<=14:=by
  intro r
  induction r with
  |nil=>intro d h;exact h
  |cons v r ih=>
   intro d h;apply ih;have hv:0<=l.getD v.toNat 0/\l.getD v.toNat 0<=14:=by
    rw[List.getD_eq_getElem?_getD]
    cases hg:l[v.toNat]? with
    |none=>simp
    |some x=>have:=hl x (lm_ hg);simp;omega
   show 0<=max d (l.getD v.toNat 0)/\max d (l.getD v.toNat 0)<=14;omega
 exact this r 0 oo
def QX_ (ps:List PN):Nat->Option (LI)
 |0=>some []
 |m+1=>
  match QX_ ps m with
  |none=>none
  |some l=>
   match ps[m]? with
   |none=>none
   |some x=>if Za_ ps m=true/\mxK l x.kids x.kids.length < 14 then some (l++[mxK l x.kids x.kids.length+1])else none
def QiO_ (l:LI) (m:Nat):Prop:=l.length=m/\∀x∈l,1<=x/\x<=14
theorem ZL_ {ps:List PN}:∀{m:Nat} {l:LI},QX_ ps m=some l->QiO_ l m:=by
 intro m
 induction m with
 |zero=>intro l h;unfold QX_ at h;obtain rfl:=oi_ h;exact⟨rfl,fun x b=>by cases b⟩
 |succ m ih=>
  intro l h;unfold QX_ at h
  cases hd:QX_ ps m with
  |none=>rw[hd]at h;cases h
  |some l0=>
   rw[hd]at h
   cases b:ps[m]? with
   |none=>rw[b]at h;cases h
   |some x=>
    rw[b]at h;simp only at h;split at h
    ·rename_i hc;obtain rfl:=oi_ h;obtain⟨h1,h2⟩:=ih hd;have:=Wm_ (kids:=x.kids) h2 x.kids.length;refine⟨by simp[h1],fun y a=>?_⟩;rcases List.mem_append.1 a with a|a
     ·exact h2 y a
     ·obtain rfl:=ms1_.1 a;omega
    ·cases h
theorem Gl_ {ps:List PN} {m:Nat} (h:Za_ ps m=false):QX_ ps (m+1)=none:=by
 unfold QX_
 cases QX_ ps m with
 |none=>rfl
 |some l=>
  cases hx:ps[m]? with
  |none=>rfl
  |some x=>simp[h]
theorem UR_ {ps:List PN} {m:Nat} {l:LI} {x:PN} (hd:QX_ ps m=some l) (hx:ps[m]? =some x) (h:¬mxK l x.kids x.kids.length < 14):QX_ ps (m+1)=none:=by
 unfold QX_;rw[hd,hx];simp only;rw[in_ (fun hh=>h hh.2)]
theorem US_ {ps:List PN} {m:Nat} {l:LI} {x:PN} (hd:QX_ ps m=some l) (hx:ps[m]? =some x) (hb:Za_ ps m=true) (h:mxK l x.kids x.kids.length < 14):QX_ ps (m+1)=some (l++[mxK l x.kids x.kids.length+1]):=by
 conv=>lhs;unfold QX_
 rw[hd,hx];simp only;rw[ip_ ⟨hb,h⟩]
theorem YC_ {ps:List PN} {m k:Nat} (h:QX_ ps m=none) (hk:m<=k):QX_ ps k=none:=by
 induction k with
 |zero=>
    obtain rfl:m=0:=oo;exact h
 |succ k ih=>
  by_cases e:m=k+1
  ·subst e;exact h
  ·unfold QX_;rw[ih oo]
def Kt_ (ps:List PN) (k:Nat):Int:=match QX_ ps (k+1)with|some l=>l.getD k 0|none=>0
theorem Gj_ {ps:List PN} {m k:Nat} (h:QX_ ps m=none) (hk:m<=k+1):Kt_ ps k=0:=by unfold Kt_;rw[YC_ h hk]
theorem Gk_ {ps:List PN} {k:Nat} {l:LI} {x:Int} (h:QX_ ps (k+1)=some l) (hx:l[k]? =some x):Kt_ ps k=x:=by unfold Kt_;rw[h];simp[List.getD_eq_getElem?_getD,hx]
def VS_ (ps:List PN) (k:Int):Int:=if 0<=k/\k < (ps.length:Int)then Kt_ ps k.toNat else 0
theorem Wp_ {ps:List PN} {m:Nat} {x:PN} (hb:Za_ ps m=true) (hx:ps[m]? =some x) {v:Int} (hv:v∈x.kids):0<=v/\v < (m:Int):=by
 have hk:JP_ m x.kids=true:=by
  cases h:JP_ m x.kids with
  |true=>rfl
  |false=>rw[zI_ hx h]at hb;cases hb
 obtain⟨j,hj⟩:=List.mem_iff_getElem?.1 hv;have h1:=Z4_ hk hj;unfold Un_ at h1;rw[Bool.and_eq_true]at h1;have h2:=od_ h1.1;exact⟨h2.1,oo⟩
theorem W2_ (A:OA) (n c:Nat) (k:Int) (w:World) (hk:¬(0<=k/\k < (n:Int))):
  Calls prog 103 #[S_ A n c,I_ j_ k] w (RB_ (I_ j_ 0) w):=by
 have HN:=h_ (fun W=>Ym_ (n:=n) (show inB k 0 ((n:Int) - 1)=false from df_ oo) A c W);go_enter func103,ntmps103;go_wp2_with fail
 refine(HN.o _).mono ?_;rintro e w1 ⟨rfl,rfl⟩;go_wp2;go_ret;exact⟨rfl,grow_⟩
theorem JL_ (A:OA) (n c:Nat) (ps:List PN) (k:Nat) (w:World) (hn:n<=1048576) (K:Nps w A n ps) (hb:Hid (PNs ps)) (hk:k < n):
  Calls prog 103 #[S_ A n c,I_ j_ k] w (RB_ (I_ j_ (Kt_ ps k)) w):=by
 have HP:=h_ K;have HL:=h_ K.len;obtain⟨i0,hi,Y,Z,aa⟩:=info_parts QY_;have I:=fun W=>YK_ (P:=prog) 83 3 i0 _ underlying83 hi Y j_ j_ (k+1) (k+1) (lr_ _) (by rw[aa];omega) oo W
 rw[Z]at I;have HN:=h_ (fun W=>Ym_ (n:=n) (show inB (k:Int) 0 ((n:Int) - 1)=true from dt_ oo) A c W);have e1:((k+1:Nat):Int)=(k:Int)+1:=oo;rw[e1]at I;have a:=h_ (fun m (h:QX_ ps m=none) (hm:m<=k+1)=>Gj_ h hm);have f:=h_ (fun l x (h:QX_ ps (k+1)=some l) (L:l[k]? =some x)=>Gk_ h L);generalize Kt_ ps k=D at a f |-
 clear hi Y Z aa K;go_enter func103,ntmps103;go_wp2_with fail
 refine(HN.o _).mono ?_;rintro e w1 ⟨rfl,rfl⟩;go_wp2;clear I HN;go_loopw [19] (fun i wr=>∃(m:Nat) (l:LI),m<=k+1/\i=I_ j_ m/\Hid (QX_ ps m=some l)/\Own wr w.heap.size 3 (k+1) (Qa_ l)/\Below w.heap.size w wr) (fun i _=>k+1 - (intOf i).toNat)
 case atStart=>exact⟨0,[],lz_ _,rfl,rfl,Own.made (size_madeCells _ _),grow_⟩
 case round=>
  obtain⟨m,l,hm,rfl,z,U,o⟩:=hrel;have p:=(ZL_ z.o).1;have HR:=h_ (ZL_ z.o).2;have HO:=h_ U;clear U;by_cases av:m < k+1
  ·have am:(m:Int) < (k:Int)+1:=oo;have J:m < n:=oo;have an:(m:Int) < n:=oo;have HB:=h_ (fun(u:Bool) (h:Za_ ps m=u)=>show Calls prog 122 #[S_ A n c,I_ j_ m] wr fun e w'=>e=R_ (B_ u)/\Below wr.heap.size wr w' by rw[<-h,<-v6_ (by rw[HL.o];exact J)];exact W5_ A n c ps m wr hn (HP.o.below o) hb)
   cases g:Za_ ps m with
   |false=>
    have R:D=0:=a.o (m+1) (Gl_ g) oo;subst R;have y:=h_ (HB.o _ g);clear HB g a f z HR;go_wp2_with fail
    refine y.o.mono ?_;rintro e w2 ⟨rfl,Q⟩;go_wp2;go_ret;exact⟨rfl,Qb_ o Q⟩
   |true=>
    have y:=h_ (HB.o _ g);have N:=h_ g;clear HB g;go_wp2_with fail
    refine y.o.mono ?_;rintro e w2 ⟨rfl,Q⟩;have S:=Qb_ o Q;have j:=h_ (HO.o.next Q);clear Q o HO y;obtain⟨x,L⟩:=HP.o.get J;obtain⟨b,off,A2,c2,rfl,al,x0,x1,x2,x3,X⟩:=(HP.o.below S).at_ J L;have ax:=(hb.o x (lm_ L)).2;have HX:=h_ L;have ag:=h_ X;clear L X x0 x1 x3;go_wp2
    go_loop [7,32] (fun s i=>∃t:Nat,t<=x.kids.length/\s=I_ j_ (mxK l x.kids t)/\i=I_ j_ t) (fun _ i=>x.kids.length - (intOf i).toNat)
    case atStart=>exact⟨0,lz_ _,by rw[v4_],rfl⟩
    case round=>
     obtain⟨t,ht,rfl,rfl⟩:=hrel;have G:=Wm_ (kids:=x.kids) HR.o t;by_cases C:t < x.kids.length
     ·obtain⟨v,hd⟩:∃d,x.kids[t]? =some d:=⟨_,List.getElem?_eq_getElem C⟩;have hv:=Wp_ N.o HX.o (lm_ hd);obtain⟨q,rfl⟩:=eo_ hv.1;have ak:q < m:=oo;have g0:(0:Int)<=(q:Int):=oo;have g1:(q:Int) < (k:Int)+1:=oo;have g2:q < k+1:=oo;have gt:(t:Int) < x.kids.length:=oo;obtain⟨b5,ao,rfl,ai,cv⟩:=Qu_ ag.o C hd;obtain⟨d,E⟩:∃d,l[q]? =some d:=⟨_,gE oo⟩;have r:=(j.o.rd (size:=1) (n:=m) (by simp[Qa_,p]));obtain⟨b6,ab,F,H,cq⟩:=Qu_ r ak E;injection F with F;injection F with e61 e62;subst e61;subst e62;simp only[Nat.zero_add]at cq;have V:=h_ (v3_ hd E);have ap:=HR.o d (lm_ E);clear hv hd E r a f;generalize mxK l x.kids t=M at V G |-
      go_wp2
      go_round
      case rel=>exact⟨t+1,oo,by rw[V.o],by go_num⟩
      case measure=>exact ms_
     ·obtain rfl:t=x.kids.length:=oo;have aj:=j.o.there (i:=m) oo;obtain⟨o0,e0⟩:=aj;have ar:=j.o.lt;have aq:=j.o.frozen;by_cases B:mxK l x.kids x.kids.length < 14
      ·have T:=h_ (US_ z.o HX.o N.o B);clear a f z;generalize mxK l x.kids x.kids.length=M at T G B |-
       have O:¬(14:Int)<=M:=oo;go_wp2;go_roundw
       case rel=>exact⟨m+1,l++[M+1],oo,by go_num,T.o,by
        have:=j.o.push (by simp[Qa_];omega) (i:=m) (by simp[Qa_,p]) (I_ j_ (M+1));simpa[Qa_]using this,grow_⟩
       case measure=>exact ms_
      ·have R:D=0:=a.o (m+1) (UR_ z.o HX.o B) oo;subst R;clear a f z;generalize mxK l x.kids x.kids.length=M at G B |-
       have O:(14:Int)<=M:=oo;go_wp2;go_ret;exact⟨rfl,S⟩
  ·obtain rfl:m=k+1:=oo;obtain⟨d,E⟩:∃d,l[k]? =some d:=⟨_,gE oo⟩;have R:D=d:=f.o l d z.o E;subst R;have r:=(HO.o.rd (size:=1) (n:=k+1) (by simp[Qa_,p]));obtain⟨b6,ab,F,H,cq⟩:=Qu_ r oo E;injection F with F;injection F with e61 e62;subst e61;subst e62;simp only[Nat.zero_add]at cq;have g1:(k:Int) < (k:Int)+1:=oo;have g3:¬((k:Int)+1 < (k:Int)+1):=oo;clear a f z r E;go_wp2;go_ret;exact⟨rfl,o⟩
theorem W1_ (A:OA) (n c:Nat) (ps:List PN) (k:Int) (w:World) (hn:n<=1048576) (a:Nps w A n ps) (hb:Hid (PNs ps)):
  Calls prog 103 #[S_ A n c,I_ j_ k] w (RB_ (I_ j_ (VS_ ps k)) w):=by
 have hl:=a.len;by_cases b:0<=k/\k < (n:Int)
 ·obtain⟨q,rfl⟩:=eo_ b.1;have:VS_ ps (q:Int)=Kt_ ps q:=by unfold VS_;rw[ip_ (by rw[hl];exact b),it_]
  rw[this];exact JL_ A n c ps q w hn a hb oo
 ·have:VS_ ps k=0:=by unfold VS_;rw[in_ (by rw[hl];exact b)]
  rw[this];exact W2_ A n c k w b
def SpL (ps:List PN) (m:Nat) (a:LI):Prop:=a.length=m/\(∀x∈a,0<=x/\x<=14)/\(QX_ ps m=some a\/(QX_ ps m=none/\0 < m/\a[m - 1]? =some 0))
theorem Qf1_ (ps:List PN):SpL ps 0 []:=⟨rfl,(fun x hx=>by cases hx),.inl rfl⟩
theorem Qej_ {ps:List PN} {m:Nat} {b:LI} (h:SpL ps m b) (hd:QX_ ps (m+1)=none):SpL ps (m+1) (b++[0]):=by
 refine⟨by simp[h.1],fun x a=>?_,.inr ⟨hd,oo,?_⟩⟩
 ·rcases List.mem_append.1 a with a|a
  ·exact h.2.1 x a
  ·obtain rfl:=ms1_.1 a;omega
 ·rw[Nat.add_sub_cancel,List.getElem?_append_right (by rw[h.1];exact lr_ _),h.1,Nat.sub_self];rfl
theorem Qf0_ {ps:List PN} {m:Nat} {a:LI} {d:Int} (hd:QX_ ps (m+1)=some (a++[d])):SpL ps (m+1) (a++[d]):=by
 obtain⟨h1,h2⟩:=ZL_ hd;exact⟨h1,fun x hx=>by have:=h2 x hx;omega,.inl hd⟩
def JI_ (ps:List PN) (m:Nat):Bool:=Za_ ps m&&(QX_ ps m).isSome
theorem WZ_ {ps:List PN} {m:Nat} (h:JI_ ps m=false):QX_ ps (m+1)=none:=by
 unfold JI_ at h
 cases hn:Za_ ps m with
 |false=>exact Gl_ hn
 |true=>
  rw[hn,Bool.true_and]at h
  cases hd:QX_ ps m with
  |none=>exact YC_ hd oo
  |some l=>rw[hd]at h;cases h
theorem k2_ (A:OA) (n c:Nat) (ps:List PN) (k:Nat) (w:World) (hn:n<=1048576) (ad:Nps w A n ps) (hb:Hid (PNs ps)) (hk:k < n):
  Calls prog 95 #[S_ A n c,I_ j_ k] w fun e w'=>∃A' c' a,e=R_ (S_ A' (k+1) c')/\Rd w' 1 A' (k+1) (Qa_ a)/\Hid (SpL ps (k+1) a)/\Below w.heap.size w w':=by
 have HP:=h_ ad;have HL:=h_ ad.len;obtain⟨i0,hi,ar,av,ax⟩:=info_parts QY_;have D:=h_ (ai_ hi (ai_ ar (ai_ av ax)));have al:Mine (w.alloc (C_ #[] 3)) w.heap.size 3 1 (some ⟨w.heap.size,0,none⟩) 0 0 (Qa_ []):=ZA_ w 3 1;clear hi ar av ax ad;go_enter func95,ntmps95;go_wp2;go_loopw [5,6] (fun s i wr=>∃(m:Nat) (a:LI) (A5:OA) (c5:Nat),m<=k+1/\s=S_ A5 m c5/\i=I_ j_ m/\Mine wr w.heap.size 3 1 A5 m c5 (Qa_ a)/\SpL ps m a/\Below w.heap.size w wr) (fun _ i _=>k+1 - (intOf i).toNat)
 case atStart=>exact⟨0,[],_,_,lz_ _,rfl,rfl,al,Qf1_ ps,grow_⟩
 case round=>
  clear al;obtain⟨m,a,A5,c5,hm,rfl,rfl,hM,hS,z⟩:=hrel;have B:=h_ hM;have K:=h_ hS;clear hM hS;by_cases aO:m < k+1
  ·have ao:(m:Int)<=k:=oo;have ab:m < n:=oo;have ap:(m:Int) < n:=oo;have X:=h_ (fun(u:Bool) (h:Za_ ps m=u)=>show Calls prog 111 #[S_ A n c,I_ j_ m] wr fun e w'=>e=R_ (B_ u)/\Below wr.heap.size wr w' by rw[<-h,<-jH_];exact q1_ A n c ps m wr hn (HP.o.below z) hb ab);go_upto_region 6 with fail
   go_cut [36] (fun s wx=>s=B_ (!JI_ ps m)/\Mine wx w.heap.size 3 1 A5 m c5 (Qa_ a)/\Below w.heap.size w wx)
   case first=>
    clear ao ap
    cases l:Za_ ps m with
    |false=>
     have E:=h_ (X.o _ l);have f:JI_ ps m=false:=(by unfold JI_;rw[l];rfl);clear X l;go_wp2_with fail
     refine E.o.mono ?_;rintro e w2 ⟨rfl,G⟩;go_wp2;go_meet
     case rel=>exact⟨by rw[f];rfl,B.o.next G,Qb_ z G⟩
    |true=>
     have E:=h_ (X.o _ l);by_cases aE:m=0
     ·subst aE;have f:JI_ ps 0=true:=(by unfold JI_;rw[l];rfl);clear X l;go_wp2_with fail
      refine E.o.mono ?_;rintro e w2 ⟨rfl,G⟩;go_wp2;go_meet
      case rel=>exact⟨by rw[f];rfl,B.o.next G,Qb_ z G⟩
     ·obtain⟨L,rfl⟩:∃L,m=L+1:=⟨m - 1,oo⟩;have g0:(0:Int) < ((L+1:Nat):Int):=oo;have g1:((L+1:Nat):Int) - 1=(L:Int):=oo;have g2:(L:Int) < ((L+1:Nat):Int):=oo;obtain⟨d,R⟩:∃d,a[L]? =some d:=⟨_,gE (by have:=K.o.1;omega)⟩;by_cases aa:d=0
      ·have f:JI_ ps (L+1)=false:=by
        unfold JI_;rcases K.o.2.2 with h|⟨h,_⟩
        ·have:=(ZL_ h).2 d (lm_ R);omega
        ·rw[h,l];rfl
       subst aa;clear X l;go_wp2_with fail
       refine E.o.mono ?_;rintro e w2 ⟨rfl,G⟩;have H:=B.o.next G;obtain⟨b6,V,rfl,J,cq⟩:=Qu_ H.rd oo R;go_wp2;go_meet
       case rel=>exact⟨by rw[f];rfl,H,Qb_ z G⟩
      ·have f:JI_ ps (L+1)=true:=by
        unfold JI_;rcases K.o.2.2 with h|⟨h,_,h3⟩
        ·rw[h,l];rfl
        ·rw[Nat.add_sub_cancel,R]at h3;exact absurd (oi_ h3) aa
       have aL:(d==0)=false:=(by rw[bn_];exact aa);clear X l;go_wp2_with fail
       refine E.o.mono ?_;rintro e w2 ⟨rfl,G⟩;have H:=B.o.next G;obtain⟨b6,V,rfl,J,cq⟩:=Qu_ H.rd oo R;go_wp2;go_meet
       case rel=>exact⟨by rw[f];rfl,H,Qb_ z G⟩
   case rest=>
    clear B z X;obtain⟨rfl,hM,r⟩:=hcut;have Y:=h_ hM;clear hM;obtain⟨x,C⟩:=HP.o.get ab;obtain⟨b,off,A2,c2,rfl,aI,x0,x1,x2,x3,aq⟩:=(HP.o.below r).at_ ab C;have aP:=(hb.o x (lm_ C)).2;have HX:=h_ C;have aC:=h_ aq;clear C aq x0 x1 x3
    cases f:JI_ ps m with
    |false=>
     have aG:=h_ (Qej_ K.o (WZ_ f));simp only[Bool.not_false];clear K f;go_wp2
     go_loop [7,8] (fun s i=>s=I_ j_ 0/\i=I_ j_ 0) (fun _ i=>0)
     case atStart=>exact⟨rfl,rfl⟩
     case round=>
      obtain⟨rfl,rfl⟩:=hrel;go_wp2_with (at_builtin;(refine wpList_append_own _ rfl (.tmp 79) (.tmp 81) _ rfl w.heap.size 3 i0 (I_ j_ 0) 1 8 underlying83 D.o.1 D.o.2.1 D.o.2.2.1 D.o.2.2.2 rfl dc_ _ _ _ rfl (Mine.alloc Y.o _) ⟨wc.heap.size,0,none⟩ 1 1 [I_ j_ 0] rfl rfl (JD_ _ _ _) (fun x C=>by simp at C;subst C;rfl) mx_ oo (by have:=r.size;simp;omega) ?_);intro v' w3 j y p)
      have o:=r.alloc r.size (C_ #[I_ j_ 0] 3);have I:Below w.heap.size w w3:=o.grown y o.size (fun g hg=>Ws_ Y.o hg);obtain⟨A7,c7,rfl,U⟩:=Mine.of j;have F:=h_ U;clear j y p o U;go_wp2;go_roundw
      case rel=>exact⟨m+1,a++[0],A7,c7,oo,rfl,by go_num,by simpa[Qa_]using F.o,aG.o,I⟩
      case measure=>exact ms_
    |true=>
     have l:Za_ ps m=true:=(by unfold JI_ at f;rw[Bool.and_eq_true]at f;exact f.1);have P:QX_ ps m=some a:=by
      rcases K.o.2.2 with h|⟨h,_⟩
      ·exact h
      ·unfold JI_ at f;rw[h]at f;simp at f
     have N:=h_ l;have HD:=h_ P;have aJ:=(ZL_ P).1;have HR:=h_ (ZL_ P).2;simp only[Bool.not_true];clear f l P;go_wp2
     go_loop [7,8] (fun s i=>∃t:Nat,t<=x.kids.length/\s=I_ j_ (mxK a x.kids t+1)/\i=I_ j_ t) (fun _ i=>x.kids.length - (intOf i).toNat)
     case atStart=>exact⟨0,lz_ _,by rw[v4_];rfl,rfl⟩
     case round=>
      obtain⟨t,ht,rfl,rfl⟩:=hrel;have Z:=Wm_ (kids:=x.kids) HR.o t;by_cases S:t < x.kids.length
      ·obtain⟨v,hd⟩:∃d,x.kids[t]? =some d:=⟨_,List.getElem?_eq_getElem S⟩;have hv:=Wp_ N.o HX.o (lm_ hd);obtain⟨q,rfl⟩:=eo_ hv.1;have aF:q < m:=oo;have g0:(0:Int)<=(q:Int):=oo;have g1:(q:Int) < (m:Int):=oo;have gt:(t:Int) < x.kids.length:=oo;obtain⟨b5,aK,rfl,aD,cv⟩:=Qu_ aC.o S hd;obtain⟨d,R⟩:∃d,a[q]? =some d:=⟨_,gE oo⟩;obtain⟨b6,V,rfl,J,cq⟩:=Qu_ Y.o.rd aF R;have ae:=h_ (v3_ hd R);have aM:=HR.o d (lm_ R);clear hv hd R;generalize mxK a x.kids t=M at ae Z |-
       have T:(0:Int) < M+1:=oo;by_cases aN:M+1 < d+1
       ·have ac:=h_ (show max M d=d from oo);go_wp2
        go_round
        case rel=>exact⟨t+1,oo,by rw[ae.o,ac.o],by go_num⟩
        case measure=>exact ms_
       ·have ac:=h_ (show max M d=M from oo);go_wp2
        go_round
        case rel=>exact⟨t+1,oo,by rw[ae.o,ac.o],by go_num⟩
        case measure=>exact ms_
      ·obtain rfl:t=x.kids.length:=oo;by_cases O:mxK a x.kids x.kids.length < 14
       ·have Q:=h_ (Qf0_ (US_ HD.o HX.o N.o O));clear K HD HR N;generalize mxK a x.kids x.kids.length=M at Q Z O |-
        have aj:¬(14:Int) < M+1:=oo;have T:(0:Int) < M+1:=oo;go_wp2_with (at_builtin;(refine wpList_append_own _ rfl (.tmp 79) (.tmp 81) _ rfl w.heap.size 3 i0 (I_ j_ 0) 1 8 underlying83 D.o.1 D.o.2.1 D.o.2.2.1 D.o.2.2.2 rfl dc_ _ _ _ rfl (Mine.alloc Y.o _) ⟨wc.heap.size,0,none⟩ 1 1 [I_ j_ (M+1)] rfl rfl (JD_ _ _ _) (fun x C=>by simp at C;subst C;rfl) mx_ oo (by have:=r.size;simp;omega) ?_);intro v' w3 j y p)
        have o:=r.alloc r.size (C_ #[I_ j_ (M+1)] 3);have I:Below w.heap.size w w3:=o.grown y o.size (fun g hg=>Ws_ Y.o hg);obtain⟨A7,c7,rfl,U⟩:=Mine.of j;have F:=h_ U;clear j y p o U;go_wp2;go_roundw
        case rel=>exact⟨m+1,a++[(M+1)],A7,c7,oo,rfl,by go_num,by simpa[Qa_]using F.o,Q.o,I⟩
        case measure=>exact ms_
       ·have Q:=h_ (Qej_ K.o (UR_ HD.o HX.o O));clear K HD HR N;generalize mxK a x.kids x.kids.length=M at Z O |-
        have aj:(14:Int) < M+1:=oo;have T:(0:Int) < M+1:=oo;go_wp2_with (at_builtin;(refine wpList_append_own _ rfl (.tmp 79) (.tmp 81) _ rfl w.heap.size 3 i0 (I_ j_ 0) 1 8 underlying83 D.o.1 D.o.2.1 D.o.2.2.1 D.o.2.2.2 rfl dc_ _ _ _ rfl (Mine.alloc Y.o _) ⟨wc.heap.size,0,none⟩ 1 1 [I_ j_ 0] rfl rfl (JD_ _ _ _) (fun x C=>by simp at C;subst C;rfl) mx_ oo (by have:=r.size;simp;omega) ?_);intro v' w3 j y p)
        have o:=r.alloc r.size (C_ #[I_ j_ 0] 3);have I:Below w.heap.size w w3:=o.grown y o.size (fun g hg=>Ws_ Y.o hg);obtain⟨A7,c7,rfl,U⟩:=Mine.of j;have F:=h_ U;clear j y p o U;go_wp2;go_roundw
        case rel=>exact⟨m+1,a++[0],A7,c7,oo,rfl,by go_num,by simpa[Qa_]using F.o,Q.o,I⟩
        case measure=>exact ms_
  ·obtain rfl:m=k+1:=oo;have g3:¬(((k+1:Nat):Int)<=(k:Int)):=oo;go_wp2;go_ret;have am:=B.o.rd;exact⟨A5,⟨c5,rfl⟩,a,am,K,z⟩
theorem QiC_ {ps:List PN} {k:Nat} {a:LI} (h:SpL ps (k+1) a):a[k]? =some (Kt_ ps k):=by
 obtain⟨h1,h2,h3⟩:=h;rcases h3 with h|⟨h,_,h4⟩
 ·obtain⟨d,hd⟩:∃d,a[k]? =some d:=⟨_,gE oo⟩;rw[Gk_ h hd,hd]
 ·rw[Gj_ h (lr_ _)];exact h4
theorem V9_ (A:OA) (n c:Nat) (ps:List PN) (k:Int) (w:World) (hn:n<=1048576) (a:Nps w A n ps) (hb:Hid (PNs ps)):
  Calls prog 77 #[S_ A n c,I_ j_ k] w (RB_ (I_ j_ (VS_ ps k)) w):=by
 have hl:=a.len;by_cases f:0<=k/\k < (n:Int)
 ·obtain⟨q,rfl⟩:=eo_ f.1;have g:VS_ ps (q:Int)=Kt_ ps q:=by unfold VS_;rw[ip_ (by rw[hl];exact f),it_]
  rw[g];have d:=h_ (fun W=>Ko_ (show inB (q:Int) 0 ((n:Int) - 1)=true from dt_ oo) W);have HD:=h_ (fun c=>k2_ A n c ps q w hn a hb oo);clear a;go_enter func77,ntmps77;go_wp2_with fail
  refine(d.o _).mono ?_;rintro e w1 ⟨rfl,rfl⟩;go_wp2_with fail
  refine(HD.o _).mono ?_;rintro e w2 ⟨A',c',i,rfl,hr,hs,h2⟩;obtain⟨b,off,rfl,h,cq⟩:=Qu_ hr (oo:q < q+1) (QiC_ hs.o);have g0:(0:Int)<=(q:Int):=oo;have g1:(q:Int) < ((q+1:Nat):Int):=oo;clear hr hs HD;go_wp2;go_ret;exact⟨rfl,h2⟩
 ·have g:VS_ ps k=0:=by unfold VS_;rw[in_ (by rw[hl];exact f)]
  rw[g];have d:=h_ (fun W=>Ko_ (show inB k 0 ((n:Int) - 1)=false from df_ oo) W);go_enter func77,ntmps77;go_wp2_with fail
  refine(d.o _).mono ?_;rintro e w1 ⟨rfl,rfl⟩;go_wp2;go_ret;exact⟨rfl,grow_⟩
def useL (F:LI) (n:Nat):LI:=(List.range n).map (fun(j:Nat)=>((F.count (j:Int):Nat):Int))
theorem Xv_ (F:LI) (n:Nat):(useL F n).length=n:=by simp[useL]
theorem QaA_ (n:Nat):useL [] n=List.replicate n 0:=by
 unfold useL;apply List.ext_getElem
 ·simp
 ·intro i h1 h2;simp
theorem VR_ {F:LI} {n q:Nat} (h:q < n):(useL F n)[q]? =some ((F.count (q:Int):Nat):Int):=by
 unfold useL;rw[List.getElem?_map,List.getElem?_range h];rfl
theorem xS_ {F:LI} {n q:Nat} (h:q < n):(Qa_ (useL F n)).set q (I_ j_ ((F.count (q:Int):Nat)+1:Int))=Qa_ (useL (F++[(q:Int)]) n):=by
 unfold Qa_;apply List.ext_getElem?;intro i;rw[List.getElem?_set,List.getElem?_map,List.getElem?_map];by_cases hi:i < n
 ·rw[VR_ hi,VR_ hi];by_cases hq:q=i
  ·subst hq;rw[ip_ rfl,ip_ (by simp[Xv_];exact h)];simp
  ·rw[in_ hq];have:List.count (i:Int) [(q:Int)]=0:=by
    rw[List.count_singleton];simp;omega
   simp[List.count_append,this]
 ·have e1:(useL F n)[i]? =none:=List.getElem?_eq_none (by rw[Xv_];omega);have e2:(useL (F++[(q:Int)]) n)[i]? =none:=List.getElem?_eq_none (by rw[Xv_];omega);rw[e1,e2,in_ oo]
def QU_ (ps:List PN) (m:Nat):LI:=(ps.take m).flatMap PN.kids
theorem Wd_ (ps:List PN):QU_ ps 0=[]:=rfl
theorem XN_ {ps:List PN} {m:Nat} {x:PN} (h:ps[m]? =some x):QU_ ps (m+1)=QU_ ps m++x.kids:=by
 unfold QU_;rw[List.take_add_one,h];simp
theorem zB_ {ps:List PN} (h:∀p∈ps,p.kids.length<=12) (m:Nat):(QU_ ps m).length<=12 * m:=by
 induction m with
 |zero=>simp[QU_]
 |succ m ih=>
  cases a:ps[m]? with
  |none=>
   have:QU_ ps (m+1)=QU_ ps m:=(by unfold QU_;rw[List.take_add_one,a];simp);rw[this];omega
  |some x=>
   rw[XN_ a,lA];have:=h x (lm_ a);omega
def Uf_ (ps:List PN) (n j:Nat):Prop:=∀(i:Nat),i < j->((QU_ ps n).count (i:Int))=1
def Gc_ (ps:List PN) (n:Nat):Bool:=(List.range (n - 1)).all (fun(j:Nat)=>(QU_ ps n).count (j:Int)==1)
theorem xT_ {ps:List PN} {n:Nat} (h:Uf_ ps n (n - 1)):Gc_ ps n=true:=by
 unfold Gc_;rw[List.all_eq_true];intro j hj;rw[List.mem_range]at hj;rw[beq_iff_eq];exact h j hj
theorem QaB_ {ps:List PN} {n j:Nat} (hj:j < n - 1) (h:¬(QU_ ps n).count (j:Int)=1):Gc_ ps n=false:=by
 unfold Gc_;rw[List.all_eq_false];exact⟨j,List.mem_range.2 hj,by simp;exact h⟩
def Yb_ (ps:List PN):Bool:=inB (ps.length:Int) 1 300&&((Qc_ ps ((ps.length:Int) - 1)==22)&&(!(Kt_ ps (ps.length - 1)==0)&&Gc_ ps ps.length))
theorem QaP_ {ps:List PN}:∀{m:Nat} {l:LI},QX_ ps m=some l->∀i,i < m->Za_ ps i=true:=by
 intro m
 induction m with
 |zero=>intro l h i hi;omega
 |succ m ih=>
  intro l h i hi
  cases hd:QX_ ps m with
  |none=>rw[YC_ hd (Nat.le_succ m)]at h;cases h
  |some l0=>
   by_cases hm:i=m
   ·subst hm
    cases hn:Za_ ps i with
    |true=>rfl
    |false=>rw[Gl_ hn]at h;cases h
   ·exact ih hd i oo
theorem vF_ {ps:List PN} {k:Nat} (h:¬Kt_ ps k=0):∀i,i<=k->Za_ ps i=true:=by
 unfold Kt_ at h
 cases hd:QX_ ps (k+1)with
 |none=>rw[hd]at h;exact absurd rfl h
 |some l=>exact fun i hi=>QaP_ hd i oo
theorem xk_ {ps:List PN} {m:Nat} {x:PN} (hb:Za_ ps m=true) (hx:ps[m]? =some x):x.kids.length<=12:=by
 by_cases h:x.kids.length<=12
 ·exact h
 ·rw[zJ_ hx h]at hb;cases hb
def Good (ps:List PN):Prop:=∀(m:Nat) (x:PN),ps[m]? =some x->x.kids.length<=12/\∀v∈x.kids,0<=v/\v < (m:Int)
theorem jl_ {ps:List PN} (h:¬Kt_ ps (ps.length - 1)=0):Good ps:=fun m x a=>by
 have hl:=(gs_.1 a).1;have hb:=vF_ h m oo;exact⟨xk_ hb a,fun v hv=>Wp_ hb a hv⟩
theorem Good.len {ps:List PN} (h:Good ps):∀p∈ps,p.kids.length<=12:=fun p hp=>by
 obtain⟨j,hj⟩:=List.mem_iff_getElem?.1 hp;exact(h j p hj).1
theorem kr_ (F:LI) (v:Int):F.count v<=F.length:=List.count_le_length
theorem V4_ (A:OA) (n c:Nat) (ps:List PN) (w:World) (hn:n<=1048576) (K:Nps w A n ps) (hb:Hid (PNs ps)):
  Calls prog 80 #[S_ A n c] w (RB_ (B_ (Yb_ ps)) w):=by
 have M:=h_ K;have HL:=h_ K.len;have f:Hid (Yb_ ps=(inB (n:Int) 1 300&&((Qc_ ps ((n:Int) - 1)==22)&&(!(Kt_ ps (n - 1)==0)&&Gc_ ps n)))):=(show _=_ by unfold Yb_;rw[HL.o]);generalize Yb_ ps=T at f |-
 clear K;by_cases aL:1<=n/\n<=300
 ·have l:=h_ (fun W=>Q2_ (show inB (n:Int) 1 300=true from dt_ oo) W);obtain⟨a,rfl⟩:∃a,n=a+1:=⟨n - 1,oo⟩;have e1:((a+1:Nat):Int) - 1=(a:Int):=oo;obtain⟨x,hx⟩:=M.o.get (show a < a+1 from oo);obtain⟨b,off,A2,c2,rfl,R,x0,x1,x2,x3,ay⟩:=M.o.at_ (show a < a+1 from oo) hx;have V:=Qr_ hx;replace f:Hid (T=((x.kind==22)&&(!(Kt_ ps a==0)&&Gc_ ps (a+1)))):=(show _=_ by
   rw[f.o,show inB ((a+1:Nat):Int) 1 300=true from dt_ oo,e1,V,Nat.add_sub_cancel,Bool.true_and])
  have g1:(a:Int) < ((a+1:Nat):Int):=oo;have g0:(0:Int)<=(a:Int):=oo;clear V ay x1 x2 x3
  cases o:(x.kind==22)with
  |false=>
   have r:T=false:=(by rw[f.o,o];rfl);subst r;have Q:(x.kind != 22)=true:=(by unfold bne;rw[o];rfl);clear f o;go_enter func80,ntmps80;go_wp2_with fail
   refine(l.o _).mono ?_;rintro e w1 ⟨rfl,rfl⟩;go_wp2;go_ret;exact⟨rfl,grow_⟩
  |true=>
   have Q:(x.kind != 22)=false:=(by unfold bne;rw[o];rfl);replace f:Hid (T=(!(Kt_ ps a==0)&&Gc_ ps (a+1))):=(show _=_ by rw[f.o,o,Bool.true_and]);have U:VS_ ps (a:Int)=Kt_ ps a:=(by unfold VS_;rw[ip_ (by rw[HL.o];omega),it_]);have p:=h_ (fun W (hW:Below w.heap.size w W)=>show Calls prog 103 #[S_ (some ⟨b,off,none⟩) (a+1) c,I_ j_ a] W fun e w'=>e=R_ (I_ j_ (Kt_ ps a))/\Below W.heap.size W w' by rw[<-U];exact W1_ _ (a+1) c ps a W hn (M.o.below hW) hb);clear o U;by_cases k:Kt_ ps a=0
   ·have r:T=false:=(by rw[f.o,k];rfl);subst r;rw[k]at p;clear f k;go_enter func80,ntmps80;go_wp2_with fail
    refine(l.o _).mono ?_;rintro e w1 ⟨rfl,rfl⟩;go_wp2_with fail
    refine(p.o _ br).mono ?_;rintro e w2 ⟨rfl,h2⟩;go_wp2;go_ret;exact⟨rfl,h2⟩
   ·have S:(Kt_ ps a==0)=false:=(by rw[bn_];exact k);have HG:=h_ (jl_ (ps:=ps) (by rw[HL.o,Nat.add_sub_cancel];exact k));replace f:Hid (T=Gc_ ps (a+1)):=(show _=_ by rw[f.o,S];rfl);generalize Kt_ ps a=D at p S k;obtain⟨i0,hi,ac,ad,ae⟩:=info_parts QY_;have s:=fun W=>YK_ (P:=prog) 83 3 i0 _ underlying83 hi ac j_ j_ (a+1) (a+1) (lr_ _) (by rw[ae];omega) oo W
    rw[ad,Nat.mul_one]at s;simp only[Value.cells]at s;have e9:((a+1:Nat):Int)=(a:Int)+1:=oo;rw[e9]at s;have ai:=h_ (zB_ HG.o.len);clear hi ac ad ae k;go_enter func80,ntmps80;go_wp2_with fail
    refine(l.o _).mono ?_;rintro e w1 ⟨rfl,rfl⟩;go_wp2_with fail
    refine(p.o _ br).mono ?_;rintro e w2 ⟨rfl,h2⟩;clear p l R x0;go_wp2;clear s;have aC:=h2.size;have hZ:=Own.zeros (w:=w2) (e:=3) (a+1);go_loopw [36] (fun i wr=>∃m:Nat,m<=a+1/\i=I_ j_ m/\Own wr w2.heap.size 3 (a+1) (Qa_ (useL (QU_ ps m) (a+1)))/\Below w.heap.size w wr) (fun i _=>a+1 - (intOf i).toNat)
    case atStart=>exact⟨0,lz_ _,rfl,by rw[Wd_,QaA_];exact hZ,grow_⟩
    case round=>
     clear hZ;obtain⟨m,hm,rfl,g,h⟩:=hrel;have aK:=h2.size;by_cases X:m < a+1
     ·have aA:(m:Int) < ((a+1:Nat):Int):=oo;obtain⟨y,Z⟩:=M.o.get X;obtain⟨b3,aF,A3,c3,e3,I,y0,y1,y2,y3,aa⟩:=M.o.at_ X Z;injection e3 with e3;injection e3 with e31 e32;subst e31;subst e32;obtain⟨aq,ar⟩:=QW_ h;have az:=HG.o m y Z;have HY:=h_ Z;have ak:=h_ aa;have ao:=h_ (XN_ Z);have G:=g.alloc (C_ #[I_ j_ y.kind,T_ y.text,S_ A3 y.kids.length c3,B_ y.blank] 96);have aD:=h.size;have C:Below w.heap.size w (wr.alloc (C_ #[I_ j_ y.kind,T_ y.text,S_ A3 y.kids.length c3,B_ y.blank] 96)):=grow_;have aN:=ai.o m;obtain⟨aE,ab⟩:=az;have al:=h_ ab;clear g Z aa ab;go_wp2;clear aq ar y0 y1 y2 y3 I h;go_loopw [43] (fun i w3=>∃t:Nat,t<=y.kids.length/\i=I_ j_ t/\Own w3 w2.heap.size 3 (a+1) (Qa_ (useL (QU_ ps m++y.kids.take t) (a+1)))/\Below w.heap.size w w3) (fun i _=>y.kids.length - (intOf i).toNat)
      case atStart=>exact⟨0,lz_ _,rfl,by simpa using G,C⟩
      case round=>
       clear G C;obtain⟨t,ht,rfl,g,h⟩:=hrel;by_cases E:t < y.kids.length
       ·obtain⟨v,hd⟩:∃d,y.kids[t]? =some d:=⟨_,List.getElem?_eq_getElem E⟩;have hv:=al.o v (lm_ hd);obtain⟨q,rfl⟩:=eo_ hv.1;have B:q < a+1:=oo;have k0:(0:Int)<=(q:Int):=oo;have k1:(q:Int) < ((a+1:Nat):Int):=oo;have gt:(t:Int) < y.kids.length:=oo;obtain⟨b5,aG,rfl,ap,cv⟩:=Qu_ (ak.o.below h) E hd;have z:=(g.rd (size:=1) (n:=a+1) (by simp[Qa_,Xv_]));obtain⟨b6,af,H,J,cq⟩:=Qu_ z B (VR_ B);injection H with H;injection H with e61 e62;subst e61;subst e62;simp only[Nat.zero_add]at cq;have L:=h_ (xS_ (F:=QU_ ps m++y.kids.take t) B);have Y:=h_ (g.put (i:=q) (by simp[Qa_,Xv_];exact B) (I_ j_ (((QU_ ps m++y.kids.take t).count (q:Int):Nat)+1:Int)));have aI:=kr_ (QU_ ps m++y.kids.take t) (q:Int);have aO:(QU_ ps m++y.kids.take t).length<=12 * m+12:=(by rw[lA,List.length_take];omega);have ax:=h_ (show y.kids.take (t+1)=y.kids.take t++[(q:Int)]by rw[List.take_add_one,hd];rfl);have av:=g.lt;have aJ:=g.frozen;clear hv hd z g;generalize hN:(QU_ ps m++y.kids.take t).count (q:Int)=N at *;clear hN;have aH:N<=3624:=oo;go_wp2;go_roundw
        case rel=>exact⟨t+1,oo,by go_num,by rw[ax.o,<-List.append_assoc,<-L.o];exact Y.o,grow_⟩
        case measure=>exact ms_
       ·obtain rfl:t=y.kids.length:=oo;rw[List.take_length,<-ao.o]at g;have HO:=h_ g;clear g;go_wp2;go_roundw
        case rel=>exact⟨m+1,oo,by go_num,HO.o,h⟩
        case measure=>exact ms_
     ·obtain rfl:m=a+1:=oo;have av:=g.lt;have z:=h_ (g.rd (size:=1) (n:=a+1) (by simp[Qa_,Xv_]));clear g;have e5:((a+1:Nat):Int) - 1=(a:Int):=oo;go_wp2
      go_loop [60] (fun i=>∃j:Nat,j<=a/\i=I_ j_ j/\Hid (Uf_ ps (a+1) j)) (fun i=>a - (intOf i).toNat)
      case atStart=>exact⟨0,lz_ _,rfl,(show ∀i,_ from fun i hi=>absurd hi oo)⟩
      case round=>
       obtain⟨j,hj,rfl,O⟩:=hrel;by_cases aM:j < a
       ·obtain⟨b6,af,H,J,cq⟩:=Qu_ z.o (show j < a+1 from oo) (VR_ (show j < a+1 from oo));injection H with H;injection H with e61 e62;subst e61;subst e62;simp only[Nat.zero_add]at cq;have gj:(j:Int) < a:=oo;by_cases h1:(QU_ ps (a+1)).count (j:Int)=1
        ·have an:Hid (Uf_ ps (a+1) (j+1)):=(show ∀i,_ from fun i hi=>by
          by_cases e:i=j
          ·subst e;exact h1
          ·exact O.o i oo)
         rw[h1]at cq;clear f O h1;go_wp2
         go_round
         case rel=>exact⟨j+1,oo,by go_num,an⟩
         case measure=>exact ms_
        ·have r:T=false:=(by rw[f.o];exact QaB_ oo h1);subst r;have aP:((((QU_ ps (a+1)).count (j:Int):Nat):Int) != 1)=true:=(by rw[bne_iff_ne];omega);have aB:((((QU_ ps (a+1)).count (j:Int):Nat):Int)==1)=false:=(by rw[bn_];omega);clear f O;generalize (QU_ ps (a+1)).count (j:Int)=N at *;go_wp2;go_ret;exact⟨rfl,h⟩
       ·obtain rfl:j=a:=oo;have r:T=true:=(by rw[f.o];exact xT_ (by simpa using O.o));subst r;clear f O;go_wp2;go_ret;exact⟨rfl,h⟩
 ·have l:=h_ (fun W=>Q2_ (show inB (n:Int) 1 300=false from df_ oo) W);have r:T=false:=by rw[f.o,show inB (n:Int) 1 300=false from df_ oo];rfl
  subst r;clear f;go_enter func80,ntmps80;go_wp2_with fail
  refine(l.o _).mono ?_;rintro e w1 ⟨rfl,rfl⟩;go_wp2;go_ret;exact⟨rfl,grow_⟩
theorem X9_ (A:OA) (n c:Nat) (ps:List PN) (w:World) (hn:n<=1048576) (J:Nps w A n ps) (hb:Hid (PNs ps)):
  Calls prog 55 #[S_ A n c] w (RB_ (B_ (Yb_ ps)) w):=by
 have L:=h_ J;have HL:=h_ J.len;have f:Hid (Yb_ ps=(inB (n:Int) 1 300&&((Qc_ ps ((n:Int) - 1)==22)&&(!(Kt_ ps (n - 1)==0)&&Gc_ ps n)))):=(show _=_ by unfold Yb_;rw[HL.o]);generalize Yb_ ps=T at f |-
 clear J;by_cases aM:1<=n/\n<=300
 ·have l:=h_ (fun W=>Ko_ (show inB (n:Int) 1 300=true from dt_ oo) W);obtain⟨a,rfl⟩:∃a,n=a+1:=⟨n - 1,oo⟩;have e1:((a+1:Nat):Int) - 1=(a:Int):=oo;obtain⟨x,hx⟩:=L.o.get (show a < a+1 from oo);obtain⟨b,off,A2,c2,rfl,Q,x0,x1,x2,x3,ay⟩:=L.o.at_ (show a < a+1 from oo) hx;have X:=Qr_ hx;replace f:Hid (T=((x.kind==22)&&(!(Kt_ ps a==0)&&Gc_ ps (a+1)))):=(show _=_ by
   rw[f.o,show inB ((a+1:Nat):Int) 1 300=true from dt_ oo,e1,X,Nat.add_sub_cancel,Bool.true_and])
  have g1:(a:Int) < ((a+1:Nat):Int):=oo;have g0:(0:Int)<=(a:Int):=oo;clear X ay x1 x2 x3
  cases o:(x.kind==22)with
  |false=>
   have r:T=false:=(by rw[f.o,o];rfl);subst r;have O:(x.kind != 22)=true:=(by unfold bne;rw[o];rfl);clear f o;go_enter func55,ntmps55;go_wp2_with fail
   refine(l.o _).mono ?_;rintro e w1 ⟨rfl,rfl⟩;go_wp2;go_ret;exact⟨rfl,grow_⟩
  |true=>
   have O:(x.kind != 22)=false:=(by unfold bne;rw[o];rfl);replace f:Hid (T=(!(Kt_ ps a==0)&&Gc_ ps (a+1))):=(show _=_ by rw[f.o,o,Bool.true_and]);have U:VS_ ps (a:Int)=Kt_ ps a:=(by unfold VS_;rw[ip_ (by rw[HL.o];omega),it_]);have p:=h_ (fun W (hW:Below w.heap.size w W)=>show Calls prog 77 #[S_ (some ⟨b,off,none⟩) (a+1) c,I_ j_ a] W fun e w'=>e=R_ (I_ j_ (Kt_ ps a))/\Below W.heap.size W w' by rw[<-U];exact V9_ _ (a+1) c ps a W hn (L.o.below hW) hb);clear o U;by_cases k:Kt_ ps a=0
   ·have r:T=false:=(by rw[f.o,k];rfl);subst r;rw[k]at p;clear f k;go_enter func55,ntmps55;go_wp2_with fail
    refine(l.o _).mono ?_;rintro e w1 ⟨rfl,rfl⟩;go_wp2_with fail
    refine(p.o _ br).mono ?_;rintro e w2 ⟨rfl,h2⟩;go_wp2;go_ret;exact⟨rfl,h2⟩
   ·have S:(Kt_ ps a==0)=false:=(by rw[bn_];exact k);have HG:=h_ (jl_ (ps:=ps) (by rw[HL.o,Nat.add_sub_cancel];exact k));replace f:Hid (T=Gc_ ps (a+1)):=(show _=_ by rw[f.o,S];rfl);generalize Kt_ ps a=D at p S k;obtain⟨i0,hi,ad,ae,af⟩:=info_parts QY_;have s:=fun W=>YK_ (P:=prog) 83 3 i0 _ underlying83 hi ad j_ j_ (a+1) (a+1) (lr_ _) (by rw[af];omega) oo W
    rw[ae,Nat.mul_one]at s;simp only[Value.cells]at s;have e9:((a+1:Nat):Int)=(a:Int)+1:=oo;rw[e9]at s;have aj:=h_ (zB_ HG.o.len);clear hi ad ae af k;go_enter func55,ntmps55;go_wp2_with fail
    refine(l.o _).mono ?_;rintro e w1 ⟨rfl,rfl⟩;go_wp2_with fail
    refine(p.o _ br).mono ?_;rintro e w2 ⟨rfl,h2⟩;clear p l Q x0;go_wp2;clear s;have aC:=h2.size;have hZ:=Own.zeros (w:=w2) (e:=3) (a+1);go_loopw [5] (fun i wr=>∃m:Nat,m<=a+1/\i=I_ j_ m/\Own wr w2.heap.size 3 (a+1) (Qa_ (useL (QU_ ps m) (a+1)))/\Below w.heap.size w wr) (fun i _=>a+1 - (intOf i).toNat)
    case atStart=>exact⟨0,lz_ _,rfl,by rw[Wd_,QaA_];exact hZ,grow_⟩
    case round=>
     clear hZ;obtain⟨m,hm,rfl,g,h⟩:=hrel;have aL:=h2.size;by_cases Y:m < a+1
     ·have aA:(m:Int) < ((a+1:Nat):Int):=oo;obtain⟨y,hy⟩:=L.o.get Y;obtain⟨b3,aF,A3,c3,e3,aq,y0,y1,y2,y3,ab⟩:=L.o.at_ Y hy;injection e3 with e3;injection e3 with e31 e32;subst e31;subst e32;obtain⟨R,V⟩:=QW_ h;have az:=HG.o m y hy;have HY:=h_ hy;have al:=h_ ab;have ap:=h_ (XN_ hy);have G:=g;have aD:=h.size;have C:=h;have aO:=aj.o m;obtain⟨aE,ac⟩:=az;have am:=h_ ac;clear g hy ab ac;go_wp2;clear R V h;go_loopw [6] (fun i w3=>∃t:Nat,t<=y.kids.length/\i=I_ j_ t/\Own w3 w2.heap.size 3 (a+1) (Qa_ (useL (QU_ ps m++y.kids.take t) (a+1)))/\Below w.heap.size w w3) (fun i _=>y.kids.length - (intOf i).toNat)
      case atStart=>exact⟨0,lz_ _,rfl,by simpa using G,C⟩
      case round=>
       clear G C;obtain⟨t,ht,rfl,g,h⟩:=hrel;obtain⟨R,V⟩:=QW_ h;by_cases E:t < y.kids.length
       ·obtain⟨v,hd⟩:∃d,y.kids[t]? =some d:=⟨_,List.getElem?_eq_getElem E⟩;have hv:=am.o v (lm_ hd);obtain⟨q,rfl⟩:=eo_ hv.1;have B:q < a+1:=oo;have k0:(0:Int)<=(q:Int):=oo;have k1:(q:Int) < ((a+1:Nat):Int):=oo;have gt:(t:Int) < y.kids.length:=oo;obtain⟨b5,aG,rfl,ar,cv⟩:=Qu_ (al.o.below h) E hd;have z:=(g.rd (size:=1) (n:=a+1) (by simp[Qa_,Xv_]));obtain⟨b6,ag,H,I,cq⟩:=Qu_ z B (VR_ B);injection H with H;injection H with e61 e62;subst e61;subst e62;simp only[Nat.zero_add]at cq;have K:=h_ (xS_ (F:=QU_ ps m++y.kids.take t) B);have Z:=h_ (g.put (i:=q) (by simp[Qa_,Xv_];exact B) (I_ j_ (((QU_ ps m++y.kids.take t).count (q:Int):Nat)+1:Int)));have aJ:=kr_ (QU_ ps m++y.kids.take t) (q:Int);have aP:(QU_ ps m++y.kids.take t).length<=12 * m+12:=(by rw[lA,List.length_take];omega);have ax:=h_ (show y.kids.take (t+1)=y.kids.take t++[(q:Int)]by rw[List.take_add_one,hd];rfl);have av:=g.lt;have aK:=g.frozen;clear hv hd z g;generalize hN:(QU_ ps m++y.kids.take t).count (q:Int)=N at *;clear hN;have aI:N<=3624:=oo;go_wp2;go_roundw
        case rel=>exact⟨t+1,oo,by go_num,by rw[ax.o,<-List.append_assoc,<-K.o];exact Z.o,grow_⟩
        case measure=>exact ms_
       ·obtain rfl:t=y.kids.length:=oo;rw[List.take_length,<-ap.o]at g;have HO:=h_ g;clear g;go_wp2;go_roundw
        case rel=>exact⟨m+1,oo,by go_num,HO.o,h⟩
        case measure=>exact ms_
     ·obtain rfl:m=a+1:=oo;have av:=g.lt;have z:=h_ (g.rd (size:=1) (n:=a+1) (by simp[Qa_,Xv_]));clear g;clear L;go_wp2
      go_loop [7] (fun i=>∃j:Nat,j<=a/\i=I_ j_ j/\Hid (Uf_ ps (a+1) j)) (fun i=>a - (intOf i).toNat)
      case atStart=>exact⟨0,lz_ _,rfl,(show ∀i,_ from fun i hi=>absurd hi oo)⟩
      case round=>
       obtain⟨j,hj,rfl,M⟩:=hrel;by_cases aN:j < a
       ·obtain⟨b6,ag,H,I,cq⟩:=Qu_ z.o (show j < a+1 from oo) (VR_ (show j < a+1 from oo));injection H with H;injection H with e61 e62;subst e61;subst e62;simp only[Nat.zero_add]at cq;have gj:(j:Int)+1 < (a:Int)+1:=oo;have aH:(j:Int) < (a:Int)+1:=oo;by_cases h1:(QU_ ps (a+1)).count (j:Int)=1
        ·have ao:Hid (Uf_ ps (a+1) (j+1)):=(show ∀i,_ from fun i hi=>by
          by_cases e:i=j
          ·subst e;exact h1
          ·exact M.o i oo)
         rw[h1]at cq;clear f M h1;go_wp2
         go_round
         case rel=>exact⟨j+1,oo,by go_num,ao⟩
         case measure=>exact ms_
        ·have r:T=false:=(by rw[f.o];exact QaB_ oo h1);subst r;have aQ:((((QU_ ps (a+1)).count (j:Int):Nat):Int) != 1)=true:=(by rw[bne_iff_ne];omega);have aB:((((QU_ ps (a+1)).count (j:Int):Nat):Int)==1)=false:=(by rw[bn_];omega);clear f M;generalize (QU_ ps (a+1)).count (j:Int)=N at *;go_wp2;go_ret;exact⟨rfl,h⟩
       ·obtain rfl:j=a:=oo;have gj:¬((j:Int)+1 < (j:Int)+1):=oo;have r:T=true:=(by rw[f.o];exact xT_ (by simpa using M.o));subst r;clear f M;go_wp2;go_ret;exact⟨rfl,h⟩
 ·have l:=h_ (fun W=>Ko_ (show inB (n:Int) 1 300=false from df_ oo) W);have r:T=false:=by rw[f.o,show inB (n:Int) 1 300=false from df_ oo];rfl
  subst r;clear f;go_enter func55,ntmps55;go_wp2_with fail
  refine(l.o _).mono ?_;rintro e w1 ⟨rfl,rfl⟩;go_wp2;go_ret;exact⟨rfl,grow_⟩
end Go.Proofs.YtbiijipkgfpgoaaGreatDoor

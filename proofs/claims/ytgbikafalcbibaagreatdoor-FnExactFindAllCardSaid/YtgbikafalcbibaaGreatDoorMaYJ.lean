/-
  Put together by program (shake.py):SoG,SoH.
-/
import Derived.Test.YtgbikafalcbibaaGreatDoorMaB
import Derived.Test.YtgbikafalcbibaaGreatDoorMaYI
set_option maxRecDepth 100000
set_option linter.all false
set_option maxHeartbeats 25600000
open Go.Lib (hid)
namespace Go.Proofs.YtgbikafalcbibaaGreatDoor
open Go.Sort Go.RowKit Go.Shelf Go.Lib
theorem z6_ (p:Nat->Bool) (f i:Nat):bsF p f i i=i:=by
 cases f with
 |zero=>rfl
 |succ f=>unfold bsF;rw[if_neg (Nat.lt_irrefl _)]
theorem z7_ {p:Nat->Bool} {f i j E:Nat} (h:bsF p (f+1) i j=E) (a:i < j) (hp:p ((i+j) / 2)=true):bsF p f ((i+j) / 2+1) j=E:=by
 unfold bsF at h;rwa[if_pos a,if_pos hp]at h
theorem vf_ {p:Nat->Bool} {f i j E:Nat} (h:bsF p (f+1) i j=E) (a:i < j) (hp:p ((i+j) / 2)=false):bsF p f i ((i+j) / 2)=E:=by
 unfold bsF at h;rwa[if_pos a,if_neg (by rw[hp];decide)]at h
section
variable {P:Program} {α:Type} [Inhabited α]
theorem Qhh_ (k:Nat) (L:SoP P k) (enc:α->List Value) (p:α->α->Int) (g:Nat) (cb:Array Value) (blk off cap:Nat) (B d:Array α) (w0 w:World) (a m b:Nat) (eg:∀t w,(callFunc g t).run P w=.ok (.enter g t) w) (v:CmpLays P g cb enc k p blk off B.size w0)
  (R:RowK enc k w0 blk off B) (hs:d.size=B.size) (S:SWK enc k w0 blk off d w) (ao:a < m) (h1:m - a=1) (az:m < b) (hb:b<=d.size) (aC:d.size < 4611686018427387904):
  Calls P 96 #[.slice (some ⟨blk,off,none⟩) d.size cap,.int .i64 a,.int .i64 m,.int .i64 b,.func (.func g) #[] cb] w fun e w'=>e=.returned (.tuple #[])/\SWK enc k w0 blk off (shU d a (bsF (fun h=>ltOf p d[h]! d[a]!) (b - m) m b - 1 - a)) w':=by
 have ac:=L.mixed;have t3:=L.t3;have a3:=L.a3;have z3:=L.z3;have v3:=L.v3;have t4:=L.t4;have a4:=L.a4;have z4:=L.z4;have v4:=L.v4;have aD:=L.t22;have am:=L.a22;have aI:=L.z22;have aH:=L.v22;have aE:=L.aE;have zE:=L.zE;have aF:=L.t56;have an:=L.a56;have aJ:=L.z56;have ak:=L.t130;have aG:=run_underlying L.t22;have u3:=run_underlying L.t3;have al:=run_underlying L.t130;have FG:=L.fSy;have S0:Aside (SWK enc k w0 blk off d w):=S;have o:Aside (RowK enc k w0 blk off B):=R;have H:Aside (d.size=B.size):=hs;have HC:=hid v;have K:Aside (∀x,(shU d a x).size=d.size):=fun x=>J4_ d a x
 obtain⟨I,O⟩:=ex_ (bsF (fun h=>ltOf p d[h]! d[a]!) (b - m) m b);obtain⟨i1,i2,_,_⟩:=YA_ (fun h=>ltOf p d[h]! d[a]!) (b - m) m b oo oo;rw[O]at i1 i2 |-
 have HI:Aside (bsF (fun h=>ltOf p d[h]! d[a]!) (b - m) m b=I):=O;obtain⟨y,hy⟩:=ex_ (d[a]!);have HY:Aside (d[a]! =y):=hy;have r1:IntKind.i64.wrap ((m:Int) - (a:Int))=1:=by rw[IntKind.wrap_i64];omega
 have ri:IntKind.i64.wrap ((I:Int) - 1)=((I - 1:Nat):Int):=by rw[IntKind.wrap_i64];omega
 have ba:(a:Int) < (d.size:Int):=oo;clear S R hs v O hy h1;go_enter FG,Tryz.ntmps96;go_wp2;go_loopg [10,11] (b - m) (fun Z ae af wr=>∃(lo hi f:Nat),ae=.int .i64 lo/\af=.int .i64 hi/\m<=lo/\lo<=hi/\hi<=b/\hi - lo<=f/\hi - lo<=Z/\Aside (SWK enc k w0 blk off d wr)/\Aside (bsF (fun h=>ltOf p d[h]! d[a]!) f lo hi=I))
 case atStart=>exact⟨m,b,b - m,rfl,rfl,Nat.le_refl _,oo,Nat.le_refl _,Nat.le_refl _,Nat.le_refl _,S0,HI⟩
 case round=>
  clear S0 HI;obtain⟨lo,hi,f,rfl,rfl,V,ay,U,hf,hg,z,A⟩:=hrel;by_cases C:lo < hi
  ·obtain⟨f,rfl⟩:∃f',f=f'+1:=⟨f - 1,oo⟩;have ai:(lo:Int) < (hi:Int):=oo;obtain⟨h,T⟩:=ex_ ((lo+hi) / 2);have aj:((lo:Int)+(hi:Int)) / 2=(h:Int):=oo;have aq:(h:Int) < (d.size:Int):=oo;have ax:lo<=h:=oo;have av:h < hi:=oo;obtain⟨x,Y⟩:=ex_ (d[h]!);have lx:=fun n os=>z.o.ld o.o H.o P h oo n os
   have ly:=fun n os=>z.o.ld o.o H.o P a oo n os
   rw[Y]at lx;rw[HY.o]at ly;have r:=fun n os=>z.o.cmp HC.o H.o x y n os
   have G:Aside (ltOf p d[(lo+hi) / 2]! d[a]! =decide (p x y < 0)):=by
    show _=_;rw[T,Y,HY.o];rfl
   have F:Aside (∀n os,SWK enc k w0 blk off d (grow (wr.drewN n) os)):=fun n os=>z.o.grown n os
   have HH:Aside ((lo+hi) / 2=h):=T;clear T Y z;by_cases D:p x y < 0
   ·have j:=hid (z7_ A.o C (by rw[G.o];exact decide_eq_true D));rw[HH.o]at j;clear A G;go_wp2_with fail
    go_quiet_grown (first|(go_at_fn g;refine Calls.grown_of (r _ _)))
    have c:=hid (F.o nq osq);clear lx ly r F;generalize grow (wr.drewN nq) osq=w2 at c |-
    go_wp2;go_roundg (hi - (h+1))
    case measure=>omega
    case rel=>exact⟨h+1,hi,f,by go_num,rfl,oo,oo,U,oo,Nat.le_refl _,c,j⟩
   ·have j:=hid (vf_ A.o C (by rw[G.o];exact decide_eq_false D));rw[HH.o]at j;clear A G;go_wp2_with fail
    go_quiet_grown (first|(go_at_fn g;refine Calls.grown_of (r _ _)))
    have c:=hid (F.o nq osq);clear lx ly r F;generalize grow (wr.drewN nq) osq=w2 at c |-
    go_wp2;go_roundg (h - lo)
    case measure=>omega
    case rel=>exact⟨lo,h,f,rfl,rfl,V,oo,oo,oo,Nat.le_refl _,c,j⟩
  ·obtain rfl:lo=hi:=oo;have Q:lo=I:=(by rw[<-A.o];exact(z6_ _ f lo).symm);subst Q;clear A;go_wp2;go_loopg [13] (lo - 1 - a) (fun Z ag wr=>∃q:Nat,ag=.int .i64 q/\a<=q/\q<=lo - 1/\lo - 1 - q<=Z/\Aside (SWK enc k w0 blk off (shU d a (q - a)) wr))
   case atStart=>exact⟨a,rfl,Nat.le_refl _,oo,Nat.le_refl _,by rw[Nat.sub_self];exact z⟩
   case round=>
    clear z;obtain⟨q,rfl,ap,aA,ar,c⟩:=hrel;by_cases aB:q < lo - 1
    ·have E:(q:Int) < ((lo - 1:Nat):Int):=oo;obtain⟨i,s⟩:=ex_ (shU d a (q - a));have hz:i.size=d.size:=(by rw[<-s];exact K.o _);have HN:Aside (shU d a (q+1 - a)=swp i q (q+1)):=by
      show _=_;rw[<-s,show q+1 - a=(q - a)+1 from oo]
      conv=>lhs;unfold shU
      rw[show a+(q - a)=q from oo]
     rw[s]at c;have l:i.size=B.size:=(by rw[hz];exact H.o);have rq:IntKind.i64.wrap ((q:Int)+1)=((q+1:Nat):Int):=(by rw[IntKind.wrap_i64];omega);have bq:(q:Int) < (d.size:Int):=oo;have M:((q+1:Nat):Int) < (d.size:Int):=oo;have ad:(0:Int)<=((q+1:Nat):Int):=oo;have N:(((q+1:Nat):Int)).toNat=q+1:=oo;have J:Aside (SWK enc k w0 blk off (shU d a (q+1 - a)) ((wr.drew.setCells blk (off+q * k) (enc i[q+1]!)).setCells blk (off+(q+1) * k) (enc i[q]!))):=(by rw[HN.o];exact c.o.swapped o.o q (q+1) oo oo);have l1:=c.o.ld1 o.o l P q oo;have l2:=c.o.ld1 o.o l P (q+1) oo;have s1:=c.o.st1 o.o l P q oo i[q+1]!;have s2:=c.o.st2 o.o l P q (q+1) oo oo i[q+1]! i[q]!;have n1:(enc i[q]!).length=k:=o.o.hk _;have n2:(enc i[q+1]!).length=k:=o.o.hk _;generalize enc i[q]! =cI at J l1 s2 n1;generalize enc i[q+1]! =cJ at J l2 s1 s2 n2;clear c HN s hz l;generalize X:((q+1:Nat):Int)=qi at rq M ad N;go_wp2_with fail
     go_big_region_o
     clear l1 l2 s1 s2;generalize (wr.drew.setCells blk (off+q * k) cJ).setCells blk (off+(q+1) * k) cI=w2 at J |-
     go_wp2;go_roundg (lo - 1 - (q+1))
     case measure=>omega
     case rel=>exact⟨q+1,by rw[<-X],oo,oo,Nat.le_refl _,J⟩
    ·have E:¬(q:Int) < ((lo - 1:Nat):Int):=oo;obtain rfl:q=lo - 1:=oo;go_wp2;refine bodyPost_ret (results_none rfl _ _ _) rfl ?_;exact⟨rfl,c.o⟩
end
open Go.Sort Go.RowKit Go.Shelf Go.Lib
section
variable {P:Program} {α:Type} [Inhabited α]
theorem Qhi_ (k:Nat) (L:SoP P k) (enc:α->List Value) (p:α->α->Int) (g:Nat) (cb:Array Value) (blk off cap:Nat) (C d:Array α) (w0 w:World) (a m b:Nat) (eg:∀v w,(callFunc g v).run P w=.ok (.enter g v) w) (z:CmpLays P g cb enc k p blk off C.size w0)
  (R:RowK enc k w0 blk off C) (hs:d.size=C.size) (S:SWK enc k w0 blk off d w) (aq:a < m) (X:¬m - a=1) (h1:b - m=1) (aB:m < b) (hb:b<=d.size) (aF:d.size < 4611686018427387904):
  Calls P 96 #[.slice (some ⟨blk,off,none⟩) d.size cap,.int .i64 a,.int .i64 m,.int .i64 b,.func (.func g) #[] cb] w fun e w'=>e=.returned (.tuple #[])/\SWK enc k w0 blk off (shD d m (m - bsF (fun h=>!ltOf p d[m]! d[h]!) (m - a) a m)) w':=by
 have ae:=L.mixed;have t3:=L.t3;have a3:=L.a3;have z3:=L.z3;have v3:=L.v3;have t4:=L.t4;have a4:=L.a4;have z4:=L.z4;have v4:=L.v4;have aH:=L.t22;have ao:=L.a22;have aL:=L.z22;have aK:=L.v22;have aE:=L.aE;have zE:=L.zE;have aI:=L.t56;have ap:=L.a56;have aM:=L.z56;have am:=L.t130;have aJ:=run_underlying L.t22;have u3:=run_underlying L.t3;have an:=run_underlying L.t130;have FG:=L.fSy;have S0:Aside (SWK enc k w0 blk off d w):=S;have o:Aside (RowK enc k w0 blk off C):=R;have H:Aside (d.size=C.size):=hs;have HC:=hid z;have K:Aside (∀x,(shD d m x).size=d.size):=fun x=>J3_ d m x
 obtain⟨I,O⟩:=ex_ (bsF (fun h=>!ltOf p d[m]! d[h]!) (m - a) a m);obtain⟨i1,i2,_,_⟩:=YA_ (fun h=>!ltOf p d[m]! d[h]!) (m - a) a m oo oo;rw[O]at i1 i2 |-
 have HI:Aside (bsF (fun h=>!ltOf p d[m]! d[h]!) (m - a) a m=I):=O;obtain⟨x,hx⟩:=ex_ (d[m]!);have HX:Aside (d[m]! =x):=hx;have r1:IntKind.i64.wrap ((m:Int) - (a:Int))=((m - a:Nat):Int):=by rw[IntKind.wrap_i64];omega
 have aG:(((m - a:Nat):Int)==1)=false:=by rw[beq_eq_false_iff_ne];omega
 have r2:IntKind.i64.wrap ((b:Int) - (m:Int))=1:=by rw[IntKind.wrap_i64];omega
 have bm:(m:Int) < (d.size:Int):=oo;clear S R hs z O hx h1 X;go_enter FG,Tryz.ntmps96;go_wp2;go_loopg [14,15] (m - a) (fun kx ag ah wr=>∃(lo hi f:Nat),ag=.int .i64 lo/\ah=.int .i64 hi/\a<=lo/\lo<=hi/\hi<=m/\hi - lo<=f/\hi - lo<=kx/\Aside (SWK enc k w0 blk off d wr)/\Aside (bsF (fun h=>!ltOf p d[m]! d[h]!) f lo hi=I))
 case atStart=>exact⟨a,m,m - a,rfl,rfl,Nat.le_refl _,oo,Nat.le_refl _,Nat.le_refl _,Nat.le_refl _,S0,HI⟩
 case round=>
  clear S0 HI;obtain⟨lo,hi,f,rfl,rfl,Y,aA,V,hf,hg,A,B⟩:=hrel;by_cases D:lo < hi
  ·obtain⟨f,rfl⟩:∃f',f=f'+1:=⟨f - 1,oo⟩;have ak:(lo:Int) < (hi:Int):=oo;obtain⟨h,U⟩:=ex_ ((lo+hi) / 2);have al:((lo:Int)+(hi:Int)) / 2=(h:Int):=oo;have av:(h:Int) < (d.size:Int):=oo;have az:lo<=h:=oo;have ay:h < hi:=oo;obtain⟨y,hy⟩:=ex_ (d[h]!);have ly:=fun n os=>A.o.ld o.o H.o P h oo n os
   have lx:=fun n os=>A.o.ld o.o H.o P m oo n os
   rw[hy]at ly;rw[HX.o]at lx;have r:=fun n os=>A.o.cmp HC.o H.o x y n os
   have G:Aside ((!ltOf p d[m]! d[(lo+hi) / 2]!)=!decide (p x y < 0)):=by
    show _=_;rw[U,hy,HX.o];rfl
   have F:Aside (∀n os,SWK enc k w0 blk off d (grow (wr.drewN n) os)):=fun n os=>A.o.grown n os
   have HH:Aside ((lo+hi) / 2=h):=U;clear U hy A;by_cases t:p x y < 0
   ·have j:=hid (vf_ B.o D (by rw[G.o,decide_eq_true t];rfl));rw[HH.o]at j;have T:=decide_eq_true t;clear B G;go_wp2_with fail
    go_quiet_grown (first|(go_at_fn g;refine Calls.grown_of (r _ _)))
    have c:=hid (F.o nq osq);clear lx ly r F;generalize grow (wr.drewN nq) osq=w2 at c |-
    go_wp2;go_roundg (h - lo)
    case measure=>omega
    case rel=>exact⟨lo,h,f,rfl,rfl,Y,oo,oo,oo,Nat.le_refl _,c,j⟩
   ·have j:=hid (z7_ B.o D (by rw[G.o,decide_eq_false t];rfl));rw[HH.o]at j;have T:=decide_eq_false t;clear B G;go_wp2_with fail
    go_quiet_grown (first|(go_at_fn g;refine Calls.grown_of (r _ _)))
    have c:=hid (F.o nq osq);clear lx ly r F;generalize grow (wr.drewN nq) osq=w2 at c |-
    go_wp2;go_roundg (hi - (h+1))
    case measure=>omega
    case rel=>exact⟨h+1,hi,f,by go_num,rfl,oo,oo,V,oo,Nat.le_refl _,c,j⟩
  ·obtain rfl:lo=hi:=oo;have Q:lo=I:=(by rw[<-B.o];exact(z6_ _ f lo).symm);subst Q;clear B;go_wp2;go_loopg [17] (m - lo) (fun kx ai wr=>∃q:Nat,ai=.int .i64 q/\lo<=q/\q<=m/\q - lo<=kx/\Aside (SWK enc k w0 blk off (shD d m (m - q)) wr))
   case atStart=>exact⟨m,rfl,oo,Nat.le_refl _,Nat.le_refl _,by rw[Nat.sub_self];exact A⟩
   case round=>
    clear A;obtain⟨q,rfl,ar,aC,ax,c⟩:=hrel;by_cases aD:lo < q
    ·have E:(lo:Int) < (q:Int):=oo;obtain⟨i,s⟩:=ex_ (shD d m (m - q));have hz:i.size=d.size:=(by rw[<-s];exact K.o _);have HN:Aside (shD d m (m - (q - 1))=swp i q (q - 1)):=by
      show _=_;rw[<-s,show m - (q - 1)=(m - q)+1 from oo]
      conv=>lhs;unfold shD
      rw[show m - (m - q)=q from oo]
     rw[s]at c;have l:i.size=C.size:=(by rw[hz];exact H.o);have rq:IntKind.i64.wrap ((q:Int) - 1)=((q - 1:Nat):Int):=(by rw[IntKind.wrap_i64];omega);have bq:(q:Int) < (d.size:Int):=oo;have M:((q - 1:Nat):Int) < (d.size:Int):=oo;have af:(0:Int)<=((q - 1:Nat):Int):=oo;have N:(((q - 1:Nat):Int)).toNat=q - 1:=oo;have J:Aside (SWK enc k w0 blk off (shD d m (m - (q - 1))) ((wr.drew.setCells blk (off+q * k) (enc i[q - 1]!)).setCells blk (off+(q - 1) * k) (enc i[q]!))):=(by rw[HN.o];exact c.o.swapped o.o q (q - 1) oo oo);have l1:=c.o.ld1 o.o l P q oo;have l2:=c.o.ld1 o.o l P (q - 1) oo;have s1:=c.o.st1 o.o l P q oo i[q - 1]!;have s2:=c.o.st2 o.o l P q (q - 1) oo oo i[q - 1]! i[q]!;have n1:(enc i[q]!).length=k:=o.o.hk _;have n2:(enc i[q - 1]!).length=k:=o.o.hk _;generalize enc i[q]! =cI at J l1 s2 n1;generalize enc i[q - 1]! =cJ at J l2 s1 s2 n2;clear c HN s hz l;generalize Z:((q - 1:Nat):Int)=qi at rq M af N;go_wp2_with fail
     go_big_region_o
     clear l1 l2 s1 s2;generalize (wr.drew.setCells blk (off+q * k) cJ).setCells blk (off+(q - 1) * k) cI=w2 at J |-
     go_wp2;go_roundg (q - 1 - lo)
     case measure=>omega
     case rel=>exact⟨q - 1,by rw[<-Z],oo,oo,Nat.le_refl _,J⟩
    ·have E:¬(lo:Int) < (q:Int):=oo;obtain rfl:q=lo:=oo;go_wp2;refine bodyPost_ret (results_none rfl _ _ _) rfl ?_;exact⟨rfl,c.o⟩
end
end Go.Proofs.YtgbikafalcbibaaGreatDoor

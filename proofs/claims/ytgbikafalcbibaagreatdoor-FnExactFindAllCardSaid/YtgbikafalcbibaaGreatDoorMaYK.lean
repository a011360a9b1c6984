/-
  Put together by program (shake.py):SoI.
-/
import Derived.Test.YtgbikafalcbibaaGreatDoorMaB
import Derived.Test.YtgbikafalcbibaaGreatDoorMaYJ
set_option maxRecDepth 100000
set_option linter.all false
set_option maxHeartbeats 25600000
open Go.Lib (hid)
namespace Go.Proofs.YtgbikafalcbibaaGreatDoor
open Go.Sort Go.RowKit Go.Shelf Go.Lib
theorem Gd_ {α:Type} [Inhabited α] (lt:α->α->Bool):∀(f:Nat) (d:Array α) (a m b:Nat),(VI_ lt f d a m b).size=d.size:=by
 intro f
 induction f with
 |zero=>intro d a m b;rfl
 |succ f c=>
  intro d a m b;unfold VI_;dsimp only;split
  ·exact J4_ _ _ _
  ·split
   ·exact J3_ _ _ _
   ·split
    ·rw[c];split
     ·rw[c,Xw_]
     ·exact Xw_ _ _ _ _
    ·split
     ·rw[c,Xw_]
     ·exact Xw_ _ _ _ _
section
variable {P:Program} {α:Type} [Inhabited α]
theorem Qhj_ (k:Nat) (L:SoP P k) (enc:α->List Value) (Q:α->α->Int) (g:Nat) (cb:Array Value) (blk off cap:Nat) (d0 d:Array α) (w0 w:World) (a m b f:Nat) (eg:∀C w,(callFunc g C).run P w=.ok (.enter g C) w) (ak:CmpLays P g cb enc k Q blk off d0.size w0)
  (R:RowK enc k w0 blk off d0) (hs:d.size=d0.size) (S:SWK enc k w0 blk off d w) (bp:a+2<=m) (bz:m+2<=b) (hb:b<=d.size) (ba:d.size < 4611686018427387904) (bq:b - a<=f+1)
  (IH:∀(dk:Array α) (W:World) (x y z:Nat),z - x<=f->x < y->y < z->z<=d.size->dk.size=d.size->SWK enc k w0 blk off dk W->Calls P 96 #[.slice (some ⟨blk,off,none⟩) d.size cap,.int .i64 x,.int .i64 y,.int .i64 z,.func (.func g) #[] cb] W fun e w'=>e=.returned (.tuple #[])/\SWK enc k w0 blk off (VI_ (ltOf Q) f dk x y z) w'):
  Calls P 96 #[.slice (some ⟨blk,off,none⟩) d.size cap,.int .i64 a,.int .i64 m,.int .i64 b,.func (.func g) #[] cb] w fun e w'=>e=.returned (.tuple #[])/\SWK enc k w0 blk off (VI_ (ltOf Q) (f+1) d a m b) w':=by
 have bd:=L.mixed;have t3:=L.t3;have a3:=L.a3;have z3:=L.z3;have v3:=L.v3;have t4:=L.t4;have a4:=L.a4;have z4:=L.z4;have v4:=L.v4;have bE:=L.t22;have bk:=L.a22;have bI:=L.z22;have bH:=L.v22;have aE:=L.aE;have zE:=L.zE;have bF:=L.t56;have bl:=L.a56;have bJ:=L.z56;have bi:=L.t130;have bG:=run_underlying L.t22;have u3:=run_underlying L.t3;have bj:=run_underlying L.t130;have FG:=L.fSy;have bn:∀C w,(callFunc 96 C).run P w=.ok (.enter 96 C) w:=enters_of L.fSy (by kernel_rfl) rfl;have bm:∀C w,(callFunc 130 C).run P w=.ok (.enter 130 C) w:=enters_of L.fRo (by kernel_rfl) rfl;have S0:Aside (SWK enc k w0 blk off d w):=S;have HR:Aside (RowK enc k w0 blk off d0):=R;have HZ:Aside (d.size=d0.size):=hs;have HC:=hid ak;have D:=hid IH;have J:=hid (fun(W:World) (x y z:Nat) (h:SWK enc k w0 blk off d W) (h1:x < y) (h2:y < z) (h3:z<=d.size)=>Qez_ k L enc (.func (.func g) #[] cb) blk off cap d0 d w0 W x y z R hs h h1 h2 h3 ba);have aV:Aside (∀x y z,(Xk_ d x y z).size=d.size):=fun x y z=>Xw_ d x y z
 obtain⟨c,hc⟩:=ex_ ((a+b) / 2);have bo:a < c:=oo;have bs:c < b:=oo;have bx:((a:Int)+(b:Int)) / 2=(c:Int):=oo;obtain⟨n,hn⟩:=ex_ (c+m);obtain⟨p,hp⟩:=ex_ (n - 1);have bv:2 * c<=a+b:=oo;have bh:a+b<=2 * c+1:=oo;obtain⟨q,hq⟩:∃q:Nat->Bool,(fun x=>!ltOf Q d[n - 1 - x]! d[x]!)=q:=⟨_,rfl⟩;obtain⟨I,N,am,p1,p2,p3,p4,p5,ae⟩:∃I N:Nat,((c < m/\I=n - b/\N=c)\/(¬c < m/\I=a/\N=m))/\a<=I/\I<=N/\N<=m/\N<=c/\n<=I+b/\vk_ (ltOf Q) d a m b=bsF q (b - a) I N:=by
  unfold vk_;rw[hc,hn,hq];by_cases h:c < m
  ·rw[if_pos h];exact⟨n - b,c,.inl ⟨h,rfl,rfl⟩,oo,oo,oo,Nat.le_refl _,oo,rfl⟩
  ·rw[if_neg h];exact⟨a,m,.inr ⟨h,rfl,rfl⟩,Nat.le_refl _,oo,Nat.le_refl _,oo,oo,rfl⟩
 obtain⟨s,av⟩:=ex_ (bsF q (b - a) I N);obtain⟨k1,k2,_,_⟩:=YA_ q (b - a) I N p2 oo;rw[av]at k1 k2 ae;have HI:Aside (bsF q (b - a) I N=s):=av;have HQ:Aside (∀x,q x=!ltOf Q d[p - x]! d[x]!):=fun x=>by rw[<-hq,<-hp]
 obtain⟨e,he⟩:=ex_ (n - s);obtain⟨B,ai⟩:=ex_ (Xk_ d s m e);obtain⟨X,aj⟩:=ex_ (if a < s/\s < c then VI_ (ltOf Q) f B a s c else B);obtain⟨d3,an⟩:=ex_ (if c < e/\e < b then VI_ (ltOf Q) f X c e b else X);have HE:VI_ (ltOf Q) (f+1) d a m b=d3:=by
  unfold VI_;rw[if_neg oo,if_neg oo];dsimp only;rw[ae,hc,hn,he,ai,aj,an]
 have z1:B.size=d.size:=by rw[<-ai];exact aV.o _ _ _
 have z2:X.size=d.size:=by
  rw[<-aj];split
  ·rw[Gd_,z1]
  ·exact z1
 have U:Aside (B.size=d.size):=z1;have V:Aside (X.size=d.size):=z2;have t:Aside (Xk_ d s m e=B):=ai;have v:Aside ((if a < s/\s < c then VI_ (ltOf Q) f B a s c else B)=X):=aj;have A:Aside ((if c < e/\e < b then VI_ (ltOf Q) f X c e b else X)=d3):=an;rw[HE];have r1:IntKind.i64.wrap ((m:Int) - (a:Int))=((m - a:Nat):Int):=by rw[IntKind.wrap_i64];omega
 have bC:(((m - a:Nat):Int)==1)=false:=by rw[beq_eq_false_iff_ne];omega
 have r2:IntKind.i64.wrap ((b:Int) - (m:Int))=((b - m:Nat):Int):=by rw[IntKind.wrap_i64];omega
 have bD:(((b - m:Nat):Int)==1)=false:=by rw[beq_eq_false_iff_ne];omega
 have rn:IntKind.i64.wrap ((c:Int)+(m:Int))=(n:Int):=by rw[IntKind.wrap_i64];omega
 have rp:IntKind.i64.wrap ((n:Int) - 1)=(p:Int):=by rw[IntKind.wrap_i64];omega
 have re:IntKind.i64.wrap ((n:Int) - (s:Int))=(e:Int):=by rw[IntKind.wrap_i64];omega
 have bB:s+e=n:=oo;have bA:p+1=n:=oo;clear S R hs ak IH av hq ae ai aj an HE z1 z2 hc;have aH:Aside (c+m=n):=hn;rcases am with⟨a1,e1,e2⟩|⟨a1,e1,e2⟩
 ·have aJ:(c:Int) < (m:Int):=oo;have rs:IntKind.i64.wrap ((n:Int) - (b:Int))=(I:Int):=by rw[IntKind.wrap_i64];omega
  have ac:Aside (N=c):=e2;have ab:Aside (I=I):=rfl;clear e1 e2;have a8:c+m=n:=aH.o;clear hn;go_enter FG,Tryz.ntmps96;go_wp2;go_loopg [20,21] (b - a) (fun kx aB aC wr=>∃(lo hi u:Nat),aB=.int .i64 lo/\aC=.int .i64 hi/\I<=lo/\lo<=hi/\hi<=N/\hi - lo<=u/\hi - lo<=kx/\Aside (SWK enc k w0 blk off d wr)/\Aside (bsF q u lo hi=s))
  case atStart=>exact⟨I,N,b - a,by first|rfl|rw[ab.o],by rw[ac.o],Nat.le_refl _,p2,Nat.le_refl _,oo,oo,S0,HI⟩
  case round=>
   clear S0 HI ab ac;obtain⟨lo,hi,u,rfl,rfl,ar,a7,aq,hu,hg,O,T⟩:=hrel;by_cases af:lo < hi
   ·obtain⟨u,rfl⟩:∃u',u=u'+1:=⟨u - 1,oo⟩;have aK:(lo:Int) < (hi:Int):=oo;obtain⟨h,hh⟩:=ex_ ((lo+hi) / 2);have aL:((lo:Int)+(hi:Int)) / 2=(h:Int):=oo;have aY:(h:Int) < (d.size:Int):=oo;have a5:lo<=h:=oo;have a2:h < hi:=oo;have bf:IntKind.i64.wrap ((p:Int) - (h:Int))=((p - h:Nat):Int):=(by rw[IntKind.wrap_i64];omega);have aZ:((p - h:Nat):Int) < (d.size:Int):=oo;obtain⟨x,hx⟩:=ex_ (d[p - h]!);obtain⟨y,hy⟩:=ex_ (d[h]!);have lx:=fun n os=>O.o.ld HR.o HZ.o P (p - h) oo n os
    have ly:=fun n os=>O.o.ld HR.o HZ.o P h oo n os
    rw[hx]at lx;rw[hy]at ly;have G:=fun n os=>O.o.cmp HC.o HZ.o x y n os
    have HV:Aside (q ((lo+hi) / 2)=!decide (Q x y < 0)):=by
     show _=_;rw[HQ.o,hh,hx,hy];rfl
    have HG:Aside (∀n os,SWK enc k w0 blk off d (grow (wr.drewN n) os)):=fun n os=>O.o.grown n os
    have HH:Aside ((lo+hi) / 2=h):=hh;clear hh hx hy O;by_cases H:Q x y < 0
    ·have E:=hid (vf_ T.o af (by rw[HV.o,decide_eq_true H];rfl));rw[HH.o]at E;have ao:=decide_eq_true H;clear T HV;go_wp2_with fail
     go_quiet_grown (first|(go_at_fn g;refine Calls.grown_of (G _ _)))
     have S2:=hid (HG.o nq osq);clear lx ly G HG;generalize grow (wr.drewN nq) osq=w2 at S2 |-
     go_wp2;go_roundg (h - lo)
     case measure=>omega
     case rel=>exact⟨lo,h,u,rfl,rfl,ar,oo,oo,oo,Nat.le_refl _,S2,E⟩
    ·have E:=hid (z7_ T.o af (by rw[HV.o,decide_eq_false H];rfl));rw[HH.o]at E;have ao:=decide_eq_false H;clear T HV;go_wp2_with fail
     go_quiet_grown (first|(go_at_fn g;refine Calls.grown_of (G _ _)))
     have S2:=hid (HG.o nq osq);clear lx ly G HG;generalize grow (wr.drewN nq) osq=w2 at S2 |-
     go_wp2;go_roundg (hi - (h+1))
     case measure=>omega
     case rel=>exact⟨h+1,hi,u,by go_num,rfl,oo,oo,aq,oo,Nat.le_refl _,S2,E⟩
   ·obtain rfl:lo=hi:=oo;have al:lo=s:=(by rw[<-T.o];exact(z6_ _ u lo).symm);subst al;have j:=O.o;have a6:¬(lo:Int) < (lo:Int):=oo;clear T O;have hw:((lo < m/\m < e)/\(a < lo/\lo < c)/\(c < e/\e < b))\/((lo < m/\m < e)/\(a < lo/\lo < c)/\((c < e/\¬e < b)))\/((lo < m/\m < e)/\(¬a < lo)/\(c < e/\e < b))\/((lo < m/\m < e)/\(¬a < lo)/\((c < e/\¬e < b)))\/((¬lo < m)/\(a < lo/\lo < c)/\(¬c < e))\/((¬lo < m)/\((a < lo/\¬lo < c))/\(¬c < e))\/(((lo < m/\¬m < e))/\((a < lo/\¬lo < c))/\(c < e/\e < b)):=oo;rcases hw with⟨Y,Z,g3⟩|⟨Y,Z,g3⟩|⟨Y,Z,g3⟩|⟨Y,Z,g3⟩|⟨Y,Z,g3⟩|⟨Y,Z,g3⟩|⟨Y,Z,g3⟩
    ·have q1:(lo:Int) < (m:Int):=oo;have q2:(m:Int) < (e:Int):=oo;have q3:(a:Int) < (lo:Int):=oo;have q4:(lo:Int) < (c:Int):=oo;have q5:(c:Int) < (e:Int):=oo;have q6:(e:Int) < (b:Int):=oo;have i:=t.o;unfold Xk_ at i;rw[if_pos ⟨oo,oo⟩]at i;have r:=J.o wr lo m e j oo oo oo;rw[i]at r;clear i j;have K:=hid (fun(W:World) (h:SWK enc k w0 blk off B W)=>D.o B W a lo c oo oo oo oo U.o h);have l:=v.o;rw[if_pos ⟨oo,oo⟩]at l;rw[l]at K;clear l;have M:=hid (fun(W:World) (h:SWK enc k w0 blk off X W)=>D.o X W c e b oo oo oo oo V.o h);have o:=A.o;rw[if_pos ⟨oo,oo⟩]at o;rw[o]at M;clear o;go_wp2_with (first|(go_at_fn 130;refine r.mono ?_;rintro F w2 ⟨rfl,j⟩)|(go_at_fn 96;refine Calls.mono (K.o _ j) ?_;clear j;rintro F w3 ⟨rfl,j⟩)|(go_at_fn 96;refine Calls.mono (M.o _ j) ?_;clear j;rintro F w4 ⟨rfl,j⟩))
     go_end0;exact⟨rfl,j⟩
    ·have q1:(lo:Int) < (m:Int):=oo;have q2:(m:Int) < (e:Int):=oo;have q3:(a:Int) < (lo:Int):=oo;have q4:(lo:Int) < (c:Int):=oo;have q5:(c:Int) < (e:Int):=oo;have q6:¬(e:Int) < (b:Int):=oo;have i:=t.o;unfold Xk_ at i;rw[if_pos ⟨oo,oo⟩]at i;have r:=J.o wr lo m e j oo oo oo;rw[i]at r;clear i j;have K:=hid (fun(W:World) (h:SWK enc k w0 blk off B W)=>D.o B W a lo c oo oo oo oo U.o h);have l:=v.o;rw[if_pos ⟨oo,oo⟩]at l;rw[l]at K;clear l;have o:=A.o;rw[if_neg oo]at o;subst o;go_wp2_with (first|(go_at_fn 130;refine r.mono ?_;rintro F w2 ⟨rfl,j⟩)|(go_at_fn 96;refine Calls.mono (K.o _ j) ?_;clear j;rintro F w3 ⟨rfl,j⟩))
     go_end0;exact⟨rfl,j⟩
    ·have q1:(lo:Int) < (m:Int):=oo;have q2:(m:Int) < (e:Int):=oo;have q3:¬(a:Int) < (lo:Int):=oo;have q5:(c:Int) < (e:Int):=oo;have q6:(e:Int) < (b:Int):=oo;have i:=t.o;unfold Xk_ at i;rw[if_pos ⟨oo,oo⟩]at i;have r:=J.o wr lo m e j oo oo oo;rw[i]at r;clear i j;have l:=v.o;rw[if_neg oo]at l;subst l;have M:=hid (fun(W:World) (h:SWK enc k w0 blk off B W)=>D.o B W c e b oo oo oo oo V.o h);have o:=A.o;rw[if_pos ⟨oo,oo⟩]at o;rw[o]at M;clear o;go_wp2_with (first|(go_at_fn 130;refine r.mono ?_;rintro F w2 ⟨rfl,j⟩)|(go_at_fn 96;refine Calls.mono (M.o _ j) ?_;clear j;rintro F w4 ⟨rfl,j⟩))
     go_end0;exact⟨rfl,j⟩
    ·have q1:(lo:Int) < (m:Int):=oo;have q2:(m:Int) < (e:Int):=oo;have q3:¬(a:Int) < (lo:Int):=oo;have q5:(c:Int) < (e:Int):=oo;have q6:¬(e:Int) < (b:Int):=oo;have i:=t.o;unfold Xk_ at i;rw[if_pos ⟨oo,oo⟩]at i;have r:=J.o wr lo m e j oo oo oo;rw[i]at r;clear i j;have l:=v.o;rw[if_neg oo]at l;subst l;have o:=A.o;rw[if_neg oo]at o;subst o;go_wp2_with (first|(go_at_fn 130;refine r.mono ?_;rintro F w2 ⟨rfl,j⟩))
     go_end0;exact⟨rfl,j⟩
    ·have q1:¬(lo:Int) < (m:Int):=oo;have q3:(a:Int) < (lo:Int):=oo;have q4:(lo:Int) < (c:Int):=oo;have q5:¬(c:Int) < (e:Int):=oo;have i:=t.o;unfold Xk_ at i;rw[if_neg oo]at i;rw[i]at j;clear i;have K:=hid (fun(W:World) (h:SWK enc k w0 blk off B W)=>D.o B W a lo c oo oo oo oo U.o h);have l:=v.o;rw[if_pos ⟨oo,oo⟩]at l;rw[l]at K;clear l;have o:=A.o;rw[if_neg oo]at o;subst o;go_wp2_with (first|(go_at_fn 96;refine Calls.mono (K.o _ j) ?_;clear j;rintro F w3 ⟨rfl,j⟩))
     go_end0;exact⟨rfl,j⟩
    ·have q1:¬(lo:Int) < (m:Int):=oo;have q3:(a:Int) < (lo:Int):=oo;have q4:¬(lo:Int) < (c:Int):=oo;have q5:¬(c:Int) < (e:Int):=oo;have i:=t.o;unfold Xk_ at i;rw[if_neg oo]at i;rw[i]at j;clear i;have l:=v.o;rw[if_neg oo]at l;subst l;have o:=A.o;rw[if_neg oo]at o;subst o;go_wp2_with fail
     go_end0;exact⟨rfl,j⟩
    ·have q1:(lo:Int) < (m:Int):=oo;have q2:¬(m:Int) < (e:Int):=oo;have q3:(a:Int) < (lo:Int):=oo;have q4:¬(lo:Int) < (c:Int):=oo;have q5:(c:Int) < (e:Int):=oo;have q6:(e:Int) < (b:Int):=oo;have i:=t.o;unfold Xk_ at i;rw[if_neg oo]at i;rw[i]at j;clear i;have l:=v.o;rw[if_neg oo]at l;subst l;have M:=hid (fun(W:World) (h:SWK enc k w0 blk off B W)=>D.o B W c e b oo oo oo oo V.o h);have o:=A.o;rw[if_pos ⟨oo,oo⟩]at o;rw[o]at M;clear o;go_wp2_with (first|(go_at_fn 96;refine Calls.mono (M.o _ j) ?_;clear j;rintro F w4 ⟨rfl,j⟩))
     go_end0;exact⟨rfl,j⟩
 ·have aJ:¬(c:Int) < (m:Int):=oo;have ac:Aside (N=m):=e2;have ab:Aside (I=a):=e1;clear e1 e2;have a8:c+m=n:=aH.o;clear hn;go_enter FG,Tryz.ntmps96;go_wp2;go_loopg [20,21] (b - a) (fun kx aB aC wr=>∃(lo hi u:Nat),aB=.int .i64 lo/\aC=.int .i64 hi/\I<=lo/\lo<=hi/\hi<=N/\hi - lo<=u/\hi - lo<=kx/\Aside (SWK enc k w0 blk off d wr)/\Aside (bsF q u lo hi=s))
  case atStart=>exact⟨I,N,b - a,by first|rfl|rw[ab.o],by rw[ac.o],Nat.le_refl _,p2,Nat.le_refl _,oo,oo,S0,HI⟩
  case round=>
   clear S0 HI ab ac;obtain⟨lo,hi,u,rfl,rfl,ar,a7,aq,hu,hg,O,T⟩:=hrel;by_cases af:lo < hi
   ·obtain⟨u,rfl⟩:∃u',u=u'+1:=⟨u - 1,oo⟩;have aK:(lo:Int) < (hi:Int):=oo;obtain⟨h,hh⟩:=ex_ ((lo+hi) / 2);have aL:((lo:Int)+(hi:Int)) / 2=(h:Int):=oo;have aY:(h:Int) < (d.size:Int):=oo;have a5:lo<=h:=oo;have a2:h < hi:=oo;have bf:IntKind.i64.wrap ((p:Int) - (h:Int))=((p - h:Nat):Int):=(by rw[IntKind.wrap_i64];omega);have aZ:((p - h:Nat):Int) < (d.size:Int):=oo;obtain⟨x,hx⟩:=ex_ (d[p - h]!);obtain⟨y,hy⟩:=ex_ (d[h]!);have lx:=fun n os=>O.o.ld HR.o HZ.o P (p - h) oo n os
    have ly:=fun n os=>O.o.ld HR.o HZ.o P h oo n os
    rw[hx]at lx;rw[hy]at ly;have G:=fun n os=>O.o.cmp HC.o HZ.o x y n os
    have HV:Aside (q ((lo+hi) / 2)=!decide (Q x y < 0)):=by
     show _=_;rw[HQ.o,hh,hx,hy];rfl
    have HG:Aside (∀n os,SWK enc k w0 blk off d (grow (wr.drewN n) os)):=fun n os=>O.o.grown n os
    have HH:Aside ((lo+hi) / 2=h):=hh;clear hh hx hy O;by_cases H:Q x y < 0
    ·have E:=hid (vf_ T.o af (by rw[HV.o,decide_eq_true H];rfl));rw[HH.o]at E;have ao:=decide_eq_true H;clear T HV;go_wp2_with fail
     go_quiet_grown (first|(go_at_fn g;refine Calls.grown_of (G _ _)))
     have S2:=hid (HG.o nq osq);clear lx ly G HG;generalize grow (wr.drewN nq) osq=w2 at S2 |-
     go_wp2;go_roundg (h - lo)
     case measure=>omega
     case rel=>exact⟨lo,h,u,rfl,rfl,ar,oo,oo,oo,Nat.le_refl _,S2,E⟩
    ·have E:=hid (z7_ T.o af (by rw[HV.o,decide_eq_false H];rfl));rw[HH.o]at E;have ao:=decide_eq_false H;clear T HV;go_wp2_with fail
     go_quiet_grown (first|(go_at_fn g;refine Calls.grown_of (G _ _)))
     have S2:=hid (HG.o nq osq);clear lx ly G HG;generalize grow (wr.drewN nq) osq=w2 at S2 |-
     go_wp2;go_roundg (hi - (h+1))
     case measure=>omega
     case rel=>exact⟨h+1,hi,u,by go_num,rfl,oo,oo,aq,oo,Nat.le_refl _,S2,E⟩
   ·obtain rfl:lo=hi:=oo;have al:lo=s:=(by rw[<-T.o];exact(z6_ _ u lo).symm);subst al;have j:=O.o;have a6:¬(lo:Int) < (lo:Int):=oo;clear T O;have hw:((lo < m/\m < e)/\(a < lo/\lo < c)/\(c < e/\e < b))\/((lo < m/\m < e)/\(a < lo/\lo < c)/\((c < e/\¬e < b)))\/((lo < m/\m < e)/\(¬a < lo)/\(c < e/\e < b))\/((lo < m/\m < e)/\(¬a < lo)/\((c < e/\¬e < b)))\/((¬lo < m)/\(a < lo/\lo < c)/\(¬c < e))\/((¬lo < m)/\((a < lo/\¬lo < c))/\(¬c < e))\/(((lo < m/\¬m < e))/\((a < lo/\¬lo < c))/\(c < e/\e < b)):=oo;rcases hw with⟨Y,Z,g3⟩|⟨Y,Z,g3⟩|⟨Y,Z,g3⟩|⟨Y,Z,g3⟩|⟨Y,Z,g3⟩|⟨Y,Z,g3⟩|⟨Y,Z,g3⟩
    ·have q1:(lo:Int) < (m:Int):=oo;have q2:(m:Int) < (e:Int):=oo;have q3:(a:Int) < (lo:Int):=oo;have q4:(lo:Int) < (c:Int):=oo;have q5:(c:Int) < (e:Int):=oo;have q6:(e:Int) < (b:Int):=oo;have i:=t.o;unfold Xk_ at i;rw[if_pos ⟨oo,oo⟩]at i;have r:=J.o wr lo m e j oo oo oo;rw[i]at r;clear i j;have K:=hid (fun(W:World) (h:SWK enc k w0 blk off B W)=>D.o B W a lo c oo oo oo oo U.o h);have l:=v.o;rw[if_pos ⟨oo,oo⟩]at l;rw[l]at K;clear l;have M:=hid (fun(W:World) (h:SWK enc k w0 blk off X W)=>D.o X W c e b oo oo oo oo V.o h);have o:=A.o;rw[if_pos ⟨oo,oo⟩]at o;rw[o]at M;clear o;go_wp2_with (first|(go_at_fn 130;refine r.mono ?_;rintro F w2 ⟨rfl,j⟩)|(go_at_fn 96;refine Calls.mono (K.o _ j) ?_;clear j;rintro F w3 ⟨rfl,j⟩)|(go_at_fn 96;refine Calls.mono (M.o _ j) ?_;clear j;rintro F w4 ⟨rfl,j⟩))
     go_end0;exact⟨rfl,j⟩
    ·have q1:(lo:Int) < (m:Int):=oo;have q2:(m:Int) < (e:Int):=oo;have q3:(a:Int) < (lo:Int):=oo;have q4:(lo:Int) < (c:Int):=oo;have q5:(c:Int) < (e:Int):=oo;have q6:¬(e:Int) < (b:Int):=oo;have i:=t.o;unfold Xk_ at i;rw[if_pos ⟨oo,oo⟩]at i;have r:=J.o wr lo m e j oo oo oo;rw[i]at r;clear i j;have K:=hid (fun(W:World) (h:SWK enc k w0 blk off B W)=>D.o B W a lo c oo oo oo oo U.o h);have l:=v.o;rw[if_pos ⟨oo,oo⟩]at l;rw[l]at K;clear l;have o:=A.o;rw[if_neg oo]at o;subst o;go_wp2_with (first|(go_at_fn 130;refine r.mono ?_;rintro F w2 ⟨rfl,j⟩)|(go_at_fn 96;refine Calls.mono (K.o _ j) ?_;clear j;rintro F w3 ⟨rfl,j⟩))
     go_end0;exact⟨rfl,j⟩
    ·have q1:(lo:Int) < (m:Int):=oo;have q2:(m:Int) < (e:Int):=oo;have q3:¬(a:Int) < (lo:Int):=oo;have q5:(c:Int) < (e:Int):=oo;have q6:(e:Int) < (b:Int):=oo;have i:=t.o;unfold Xk_ at i;rw[if_pos ⟨oo,oo⟩]at i;have r:=J.o wr lo m e j oo oo oo;rw[i]at r;clear i j;have l:=v.o;rw[if_neg oo]at l;subst l;have M:=hid (fun(W:World) (h:SWK enc k w0 blk off B W)=>D.o B W c e b oo oo oo oo V.o h);have o:=A.o;rw[if_pos ⟨oo,oo⟩]at o;rw[o]at M;clear o;go_wp2_with (first|(go_at_fn 130;refine r.mono ?_;rintro F w2 ⟨rfl,j⟩)|(go_at_fn 96;refine Calls.mono (M.o _ j) ?_;clear j;rintro F w4 ⟨rfl,j⟩))
     go_end0;exact⟨rfl,j⟩
    ·have q1:(lo:Int) < (m:Int):=oo;have q2:(m:Int) < (e:Int):=oo;have q3:¬(a:Int) < (lo:Int):=oo;have q5:(c:Int) < (e:Int):=oo;have q6:¬(e:Int) < (b:Int):=oo;have i:=t.o;unfold Xk_ at i;rw[if_pos ⟨oo,oo⟩]at i;have r:=J.o wr lo m e j oo oo oo;rw[i]at r;clear i j;have l:=v.o;rw[if_neg oo]at l;subst l;have o:=A.o;rw[if_neg oo]at o;subst o;go_wp2_with (first|(go_at_fn 130;refine r.mono ?_;rintro F w2 ⟨rfl,j⟩))
     go_end0;exact⟨rfl,j⟩
    ·have q1:¬(lo:Int) < (m:Int):=oo;have q3:(a:Int) < (lo:Int):=oo;have q4:(lo:Int) < (c:Int):=oo;have q5:¬(c:Int) < (e:Int):=oo;have i:=t.o;unfold Xk_ at i;rw[if_neg oo]at i;rw[i]at j;clear i;have K:=hid (fun(W:World) (h:SWK enc k w0 blk off B W)=>D.o B W a lo c oo oo oo oo U.o h);have l:=v.o;rw[if_pos ⟨oo,oo⟩]at l;rw[l]at K;clear l;have o:=A.o;rw[if_neg oo]at o;subst o;go_wp2_with (first|(go_at_fn 96;refine Calls.mono (K.o _ j) ?_;clear j;rintro F w3 ⟨rfl,j⟩))
     go_end0;exact⟨rfl,j⟩
    ·have q1:¬(lo:Int) < (m:Int):=oo;have q3:(a:Int) < (lo:Int):=oo;have q4:¬(lo:Int) < (c:Int):=oo;have q5:¬(c:Int) < (e:Int):=oo;have i:=t.o;unfold Xk_ at i;rw[if_neg oo]at i;rw[i]at j;clear i;have l:=v.o;rw[if_neg oo]at l;subst l;have o:=A.o;rw[if_neg oo]at o;subst o;go_wp2_with fail
     go_end0;exact⟨rfl,j⟩
    ·have q1:(lo:Int) < (m:Int):=oo;have q2:¬(m:Int) < (e:Int):=oo;have q3:(a:Int) < (lo:Int):=oo;have q4:¬(lo:Int) < (c:Int):=oo;have q5:(c:Int) < (e:Int):=oo;have q6:(e:Int) < (b:Int):=oo;have i:=t.o;unfold Xk_ at i;rw[if_neg oo]at i;rw[i]at j;clear i;have l:=v.o;rw[if_neg oo]at l;subst l;have M:=hid (fun(W:World) (h:SWK enc k w0 blk off B W)=>D.o B W c e b oo oo oo oo V.o h);have o:=A.o;rw[if_pos ⟨oo,oo⟩]at o;rw[o]at M;clear o;go_wp2_with (first|(go_at_fn 96;refine Calls.mono (M.o _ j) ?_;clear j;rintro F w4 ⟨rfl,j⟩))
     go_end0;exact⟨rfl,j⟩
theorem Qbt_ (k:Nat) (L:SoP P k) (enc:α->List Value) (i:α->α->Int) (g:Nat) (n:Array Value) (blk off cap:Nat) (j:Array α) (w0:World) (r:∀l w,(callFunc g l).run P w=.ok (.enter g l) w) (c:CmpLays P g n enc k i blk off j.size w0)
  (R:RowK enc k w0 blk off j) (s:j.size < 4611686018427387904):∀(f:Nat) (d:Array α) (w:World) (a m b:Nat),b - a<=f->a < m->m < b->b<=j.size->d.size=j.size->SWK enc k w0 blk off d w->
  Calls P 96 #[.slice (some ⟨blk,off,none⟩) j.size cap,.int .i64 a,.int .i64 m,.int .i64 b,.func (.func g) #[] n] w fun e w'=>e=.returned (.tuple #[])/\SWK enc k w0 blk off (VI_ (ltOf i) f d a m b) w':=by
 intro f
 induction f with
 |zero=>intro d w a m b h1 h2 h3;omega
 |succ f ih=>
  intro d w a m b hf o p hb hs S;by_cases q:m - a=1
  ·have e:VI_ (ltOf i) (f+1) d a m b=shU d a (bsF (fun h=>ltOf i d[h]! d[a]!) (b - m) m b - 1 - a):=by
    conv=>lhs;unfold VI_
    rw[if_pos q]
   rw[e,<-hs];exact Qhh_ k L enc i g n blk off cap j d w0 w a m b r c R hs S o q p oo oo
  ·by_cases e2:b - m=1
   ·have e:VI_ (ltOf i) (f+1) d a m b=shD d m (m - bsF (fun h=>!ltOf i d[m]! d[h]!) (m - a) a m):=by
     conv=>lhs;unfold VI_
     rw[if_neg q,if_pos e2]
    rw[e,<-hs];exact Qhi_ k L enc i g n blk off cap j d w0 w a m b r c R hs S o q e2 p oo oo
   ·rw[<-hs];refine Qhj_ k L enc i g n blk off cap j d w0 w a m b f r c R hs S oo oo oo oo hf (fun dk W x y z h1 h2 h3 h4 h5 h6=>?_);rw[hs]at h4 h5 |-
    exact ih dk W x y z h1 h2 h3 h4 h5 h6
end
end Go.Proofs.YtgbikafalcbibaaGreatDoor

/-
  Put together by program.
-/
import Derived.Test.YtbiijipkgfpgoaaGreatDoorMfQ
set_option maxRecDepth 100000
set_option linter.all false
set_option maxHeartbeats 25600000
open Go.Proofs.Tryz
open Go.Value renaming int→I_,slice→S_,string→T_,bool→B_,agg→A_
open Go.IntKind renaming i64→j_
open Go.Obj renaming cells→C_
open Go.Ending renaming returned→R_
namespace Go.Proofs.YtbiijipkgfpgoaaGreatDoor
open Go.RowKit
abbrev pcC (m:Int) (A0:OA) (n0 c0:Nat) (A1:OA) (n1 c1:Nat) (A2:OA) (n2 c2:Nat) (A3:OA) (n3 c3:Nat):Array Value:=#[I_ j_ m,S_ A0 n0 c0,S_ A1 n1 c1,S_ A2 n2 c2,S_ A3 n3 c3]
theorem Vp_ {w:World} {g:Nat} {t:TypeId} {m:Int} {A0 A1 A2 A3:OA} {n0 c0 n1 c1 n2 c2 n3 c3:Nat} (h:Blk w g t (pcC m A0 n0 c0 A1 n1 c1 A2 n2 c2 A3 n3 c3)):w.cell? ⟨g,0,none⟩=some (I_ j_ m)/\w.cell? ⟨g,1,none⟩=some (S_ A0 n0 c0)/\w.cell? ⟨g,2,none⟩=some (S_ A1 n1 c1)/\w.cell? ⟨g,3,none⟩=some (S_ A2 n2 c2)/\w.cell? ⟨g,4,none⟩=some (S_ A3 n3 c3)/\g < w.heap.size:=
 ⟨h.cell 0,h.cell 1,h.cell 2,h.cell 3,h.cell 4,h.lt⟩
theorem PcR.chunk {P:Hn} (h:PcR P) {i:Nat} (hi:i+1 < P.l1.length):∃x0 x1 a b d,P.l1[i]? =some (x0,x1,a,b,d)/\(0<=x1/\x1 < (P.l0.length:Int)):=by
 obtain⟨⟨x0,x1,a,b,d⟩,hc⟩:∃c,P.l1[i]? =some c:=⟨_,gE oo⟩;exact⟨x0,x1,a,b,d,hc,h.split i _ hc hi⟩
theorem qv_ (P:Hn) (A0 A1 A2 A3:OA) (c0 c1 c2 c3:Nat) (V:OA) (n cv:Nat) (v:LI) (a b c:Int) (w:World) (hM:PcM P A0 A1 A2 A3 w) (X:PcR P) (hv:Rd w 1 V n (Qa_ v)) (hn:n<=8) (hd:(a,b,c)∈P.l2):
  Calls prog 295 #[A_ (pcCells P A0 A1 A2 A3 c0 c1 c2 c3),S_ V n cv,A_ #[I_ j_ a,I_ j_ b,I_ j_ c]] w fun e w'=>e=R_ (B_ (hitS P.l1 v (a,b,c)))/\Below w.heap.size w w':=by
 obtain⟨⟨ha,L⟩,O,_⟩:=X.span _ hd;dsimp only at ha L O;obtain⟨a,rfl⟩:=eo_ ha;obtain⟨b,rfl⟩:=eo_ (show 0<=b from oo);have M:a<=b:=oo;have HM:=h_ hM;have HR:=h_ X;have HV:=h_ hv;have ae:=X.n1;have G:=h_ (show v.length=n from K2_ hv);have l:=h_ (U0_ P.l1 v (c:=c) M);have Q:b+1 < P.l1.length:=oo;clear hd hM X hv ha L O;have r:=h_ (fun q c' W h1 h2 H=>zv_ P A0 A1 A2 A3 c0 c1 c2 c3 V n cv v q c' W h1 HR.o.toPcOk h2 hn H);unfold pcCells at r |-
 obtain⟨y,I⟩:=ex_ P.l0.length;obtain⟨o,k⟩:=ex_ P.l1.length;obtain⟨z,J⟩:=ex_ P.l2.length;obtain⟨A,K⟩:=ex_ P.l3.length;have F:=h_ k;rw[I,k,J,K]at r |-
 rw[k]at ae Q;have aa:=h_ (show ∀W,Below w.heap.size w W->Rd W 5 A1 o (P.l1.flatMap Qo_)from fun W h=>by rw[<-F.o];exact(HM.o.next h).r1);clear I k J K;have D:=h_ (show Blk ((w.alloc (C_ (pcC P.m A0 y c0 A1 o c1 A2 z c2 A3 A c3) 149)).alloc (C_ #[I_ j_ a,I_ j_ b,I_ j_ c] 213)) w.heap.size 149 (pcC P.m A0 y c0 A1 o c1 A2 z c2 A3 A c3)from(Blk.new _ _ _).alloc _);have E:=h_ (show Blk ((w.alloc (C_ (pcC P.m A0 y c0 A1 o c1 A2 z c2 A3 A c3) 149)).alloc (C_ #[I_ j_ a,I_ j_ b,I_ j_ c] 213)) (w.heap.size+1) 213 #[I_ j_ a,I_ j_ b,I_ j_ c]from by have:=Blk.new (w.alloc (C_ (pcC P.m A0 y c0 A1 o c1 A2 z c2 A3 A c3) 149)) 213 #[I_ j_ a,I_ j_ b,I_ j_ c];rwa[ws_]at this);have C:=h_ (Z3_ w (C_ (pcC P.m A0 y c0 A1 o c1 A2 z c2 A3 A c3) 149) (C_ #[I_ j_ a,I_ j_ b,I_ j_ c] 213));go_enter func295,ntmps295;go_wp2;go_loopw [7] (fun x wr=>∃i:Nat,a<=i/\i<=b+1/\x=I_ j_ i/\Hid (Xl_ P.l1 v a i=false)/\Hid (Blk wr w.heap.size 149 (pcC P.m A0 y c0 A1 o c1 A2 z c2 A3 A c3))/\Hid (Blk wr (w.heap.size+1) 213 #[I_ j_ a,I_ j_ b,I_ j_ c])/\Hid (Below w.heap.size w wr)) (fun x _=>b+1 - (intOf x).toNat)
 case atStart=>exact⟨a,lr_ _,oo,rfl,h_ (Gp_ _ _ _),D,E,C⟩
 case round=>
  clear D E C;obtain⟨i,ad,ah,rfl,Y,Z,U,m⟩:=hrel;have ag:=m.o.size;obtain⟨q0,q1,q2,q3,q4,ai⟩:=Vp_ Z.o;have s1:wr.cell? ⟨w.heap.size+1,1,none⟩=some (I_ j_ b):=U.o.cell 1;have aj:=U.o.lt;by_cases h1:i<=b
  ·have h2:i < o:=oo;obtain⟨x0,x1,x2,x3,x4,B,t⟩:=HR.o.chunk (i:=i) (by rw[F.o];omega);obtain⟨p,off,rfl,hp,y0,y1,y2,y3,y4⟩:=Zk_ (aa.o wr m.o) h2 B;have s:=h_ (Yj_ P.l1 v ad);by_cases H:x1 < (n:Int)
   ·have T:=h_ (r.o i _ wr (HM.o.next m.o) (HV.o.next m.o) B ⟨t.1,H⟩);have j:=h_ (qn_ B (v:=v) (by rw[G.o];exact H));obtain⟨R,g⟩:=t;clear B g
    cases f:ZE_ v (x0,x1,x2,x3,x4)with
    |true=>
     have d:Hid (hitS P.l1 v ((a:Int),(b:Int),c)=true):=h_ (by rw[<-l.o];exact Qa1_ _ _ (oo:i+1<=b+1) (by rw[s.o,j.o,f,Bool.or_true]));rw[f]at T;clear f;go_wp2_with (go_at_call 253;refine T.o.mono ?_;rintro e w1 ⟨rfl,S⟩)
     go_ret;exact⟨Qg_ d.o.symm,Qb_ m.o S⟩
    |false=>
     have d:Hid (Xl_ P.l1 v a (i+1)=false):=h_ (by rw[s.o,Y.o,j.o,f];rfl);rw[f]at T;clear f;go_wp2_with (go_at_call 253;refine T.o.mono ?_;rintro e w1 ⟨rfl,S⟩)
     go_roundw
     case rel=>exact⟨i+1,oo,oo,by go_num,d,h_ (Z.o.next S),h_ (U.o.next S),h_ (Qb_ m.o S)⟩
     case measure=>simp[intOf];omega
   ·have j:=h_ (vM_ B (v:=v) (by rw[G.o];exact H));obtain⟨R,g⟩:=t;clear B g;have d:Hid (Xl_ P.l1 v a (i+1)=false):=h_ (by rw[s.o,Y.o,j.o];rfl);go_wp2;go_roundw
    case rel=>exact⟨i+1,oo,oo,by go_num,d,Z,U,m⟩
    case measure=>simp[intOf];omega
  ·obtain rfl:i=b+1:=oo;have d:Hid (hitS P.l1 v ((a:Int),(b:Int),c)=false):=h_ (by rw[<-l.o];exact Y.o);go_wp2;go_ret;exact⟨Qg_ d.o.symm,m.o⟩
theorem WI_ {l1:List ChunkD} {v:LI} {l2:List SpanD} {i:Nat} {a b c:Int} {z:Bool} (h:l2[i]? =some (a,b,c)) (hz:hitS l1 v (a,b,c)=z):Zu_ l1 v (l2.drop i)=(if z=true then c else 0)+Zu_ l1 v (l2.drop (i+1)):=by rw[Qb0_ h,hz]
theorem JK_ (P:Hn) (A0 A1 A2 A3:OA) (c0 c1 c2 c3:Nat) (V:OA) (n cv:Nat) (v:LI) (w:World) (hM:PcM P A0 A1 A2 A3 w) (hR:PcR P) (hv:Rd w 1 V n (Qa_ v)) (g:ValR P v):
  Calls prog 284 #[A_ (pcCells P A0 A1 A2 A3 c0 c1 c2 c3),S_ V n cv] w (RB_ (I_ j_ (YX_ P.l0 P.l1 P.l2 v)) w):=by
 have Y:v.length=n:=K2_ hv;have an:=hR.n0;have hn:n<=8:=by have:=g.1;omega
 have ap:n<=P.l0.length:=by have:=g.1;omega
 have HM:=h_ hM;have HR:=h_ hR;have HV:=h_ hv;have ak:=h_ g.2;have ao:=hR.n2;have S:=h_ Y;have C:=h_ (fun a b c W h1 h2 h3=>qv_ P A0 A1 A2 A3 c0 c1 c2 c3 V n cv v a b c W h1 HR.o h2 hn h3);obtain⟨T,hT⟩:=ex_ (YX_ P.l0 P.l1 P.l2 v);have HT:=h_ hT;rw[hT];clear hM hR hv g Y hT;unfold pcCells at C |-
 obtain⟨I,o⟩:=ex_ P.l0.length;obtain⟨N1,U⟩:=ex_ P.l1.length;obtain⟨m,q⟩:=ex_ P.l2.length;obtain⟨N3,X⟩:=ex_ P.l3.length;have R:=h_ o;have E:=h_ q;rw[o,U,q,X]at C |-
 rw[o]at ap an;rw[q]at ao;have ag:=h_ (show ∀W,Below w.heap.size w W->Rd W 2 A0 I (P.l0.flatMap Q0_)from fun W h=>by rw[<-R.o];exact(HM.o.next h).r0);have ah:=h_ (show ∀W,Below w.heap.size w W->Rd W 3 A2 m (P.l2.flatMap QJ_)from fun W h=>by rw[<-E.o];exact(HM.o.next h).r2);clear o U q X;have O:=h_ (Blk.new w 149 (pcC P.m A0 I c0 A1 N1 c1 A2 m c2 A3 N3 c3));have K:=h_ (show Below w.heap.size w (w.alloc (C_ (pcC P.m A0 I c0 A1 N1 c1 A2 m c2 A3 N3 c3) 149))from Ql_ br);go_enter func284,ntmps284;go_wp2;go_loopw [5,12] (fun s x wr=>∃(i:Nat) (y:Int),i<=n/\x=I_ j_ i/\s=I_ j_ y/\0<=y/\y<=3000 * (i:Int)/\Hid (y+(Vs_ (P.l0.drop i) (v.drop i)+Zu_ P.l1 v P.l2)=T)/\Hid (Blk wr w.heap.size 149 (pcC P.m A0 I c0 A1 N1 c1 A2 m c2 A3 N3 c3))/\Hid (Below w.heap.size w wr)) (fun _ x _=>n - (intOf x).toNat)
 case atStart=>exact⟨0,0,lz_ _,rfl,rfl,oo,oo,h_ (by rw[List.drop_zero,List.drop_zero,Int.zero_add];exact HT.o),O,K⟩
 case round=>
  clear O K;obtain⟨i,y,aC,rfl,rfl,G,Z,D,B,f⟩:=hrel;have F:=f.o.size;obtain⟨q0,q1,q2,q3,q4,H⟩:=Vp_ B.o;by_cases h1:i < n
  ·obtain⟨⟨x0,x1⟩,t⟩:∃d,P.l0[i]? =some d:=⟨_,gE (by rw[R.o];omega)⟩;obtain⟨y5,A⟩:∃d,v[i]? =some d:=⟨_,gE (by rw[S.o];omega)⟩;have h0:i < I:=oo;obtain⟨p,off,rfl,hp,cx,cy⟩:=Xo_ (ag.o wr f.o) h0 t;obtain⟨b5,az,rfl,aB,aA⟩:=Qu_ (HV.o.next f.o) h1 A;have l:=h_ (GC_ t A);have r:=HR.o.rule _ (lm_ t);dsimp only at r;obtain⟨aE,aF⟩:=Wl_ (ak.o _ (lm_ A)) ⟨r.2.2.1,r.2.2.2⟩;clear t A r;go_wp2;go_roundw
   case rel=>exact⟨i+1,y+y5 * x1,oo,by go_num,rfl,oo,oo,h_ (by rw[<-D.o,l.o];omega),B,f⟩
   case measure=>simp[intOf];omega
  ·obtain rfl:i=n:=oo;have M:Hid (y+Zu_ P.l1 v (P.l2.drop 0)=T):=h_ (by have:=D.o;rw[Js_ (by rw[S.o];exact lr_ _),Int.zero_add]at this;exact this);clear D;have ar:y<=24000:=oo;clear Z;obtain⟨W0,rfl⟩:∃W0,W0=wr:=⟨_,rfl⟩;go_wp2;go_loopw [5,31] (fun s x wr=>∃(j:Nat) (y:Int),j<=m/\x=I_ j_ j/\s=I_ j_ y/\0<=y/\y<=24000+9 * (j:Int)/\Hid (y+Zu_ P.l1 v (P.l2.drop j)=T)/\Hid (Blk wr w.heap.size 149 (pcC P.m A0 I c0 A1 N1 c1 A2 m c2 A3 N3 c3))/\Hid (Below w.heap.size w wr)) (fun _ x _=>m - (intOf x).toNat)
   case atStart=>exact⟨0,y,lz_ _,rfl,rfl,G,oo,M,B,f⟩
   case round=>
    clear M B f F q0 q1 q2 q3 q4 H G ar;obtain⟨j,y,aD,rfl,rfl,G,Z,D,B,f⟩:=hrel;have F:=f.o.size;obtain⟨q0,q1,q2,q3,q4,H⟩:=Vp_ B.o;by_cases h2:j < m
    ·obtain⟨⟨x0,x1,J⟩,t⟩:∃d,P.l2[j]? =some d:=⟨_,gE (by rw[E.o];omega)⟩;obtain⟨p,off,rfl,hp,cx,cy,cz⟩:=WJ_ (ah.o wr f.o) h2 t;have k:=lm_ t;obtain⟨_,_,ax,ay⟩:=HR.o.span _ k;dsimp only at ax ay;obtain⟨z,hz⟩:=ex_ (hitS P.l1 v (x0,x1,J));have l:=h_ (WI_ t hz);have HC:=h_ (C.o x0 x1 J (wr.alloc (C_ #[I_ j_ x0,I_ j_ x1,I_ j_ J] 213)) ((HM.o.next f.o).alloc _) ((HV.o.next f.o).alloc _) k);rw[hz]at HC;have HS:=h_ (Blk.new wr 213 #[I_ j_ x0,I_ j_ x1,I_ j_ J]);clear t hz k;go_wp2_with fail
     refine HC.o.mono ?_;rintro e w1 ⟨rfl,k1⟩;have L:=h_ (Q7_ f.o k1);have Q:=h_ (B.o.next1 k1);have s2:w1.cell? ⟨wr.heap.size,2,none⟩=some (I_ j_ J):=(HS.o.next k1).cell 2;have aG:=(HS.o.next k1).lt;clear HC k1 q0 q1 q2 q3 q4 H cx cy cz hp f B F
     cases z with
     |true=>
      go_wp2;go_roundw
      case rel=>exact⟨j+1,y+J,oo,by go_num,rfl,oo,oo,h_ (by rw[<-D.o,l.o];simp only[if_true,eq_self];omega),Q,L⟩
      case measure=>simp[intOf];omega
     |false=>
      go_wp2;go_roundw
      case rel=>exact⟨j+1,y,oo,by go_num,rfl,oo,oo,h_ (by rw[<-D.o,l.o];simp only[if_false,Bool.false_eq_true];omega),Q,L⟩
      case measure=>simp[intOf];omega
    ·obtain rfl:j=m:=oo;have ai:Hid (T=y):=h_ (by have:=D.o;rw[Jt_ (by rw[E.o];exact lr_ _)]at this;omega);go_wp2;go_ret;exact⟨Kx_ ai.o.symm,f.o⟩
theorem UE_ {l1:List ChunkD} {v:LI} {a k:Nat} {z y:Bool} (h:a<=k) (hz:Xl_ l1 v a k=z) (hy:kB_ l1 v k=y):Xl_ l1 v a (k+1)=(z||y):=by rw[Yj_ l1 v h,hz,hy]
theorem Qek_ {v:LI} {k:Nat} {y x2:Int} {x0:BA} {x3:Bool} {x4:Int} (h:v[k]? =some y):ZE_ v (x0,(k:Int),x2,x3,x4)=decide (x2<=y):=by unfold ZE_;rw[WR_ h]
theorem qZ_ (P:Hn) (A0 A1 A2 A3:OA) (c0 c1 c2 c3:Nat) (V:OA) (n cv:Nat) (v:LI) (w:World) (hM:PcM P A0 A1 A2 A3 w) (hR:PcR P) (hv:Rd w 1 V n (Qa_ v)) (r:ValR P v):
  Calls prog 145 #[A_ (pcCells P A0 A1 A2 A3 c0 c1 c2 c3),S_ V n cv] w (RB_ (I_ j_ (YX_ P.l0 P.l1 P.l2 v)) w):=by
 have ai:v.length=n:=K2_ hv;have aH:=hR.n0;have hn:n<=8:=by have:=r.1;omega
 have aK:n<=P.l0.length:=by have:=r.1;omega
 have HM:=h_ hM;have HR:=h_ hR;have HV:=h_ hv;have av:=h_ r.2;have aI:=hR.n1;have aJ:=hR.n2;have A:=h_ ai;obtain⟨T,hT⟩:=ex_ (YX_ P.l0 P.l1 P.l2 v);have HT:=h_ hT;rw[hT];clear hM hR hv r ai hT;unfold pcCells;obtain⟨O,D⟩:=ex_ P.l0.length;obtain⟨J,E⟩:=ex_ P.l1.length;obtain⟨B,F⟩:=ex_ P.l2.length;obtain⟨N3,ae⟩:=ex_ P.l3.length;have aa:=h_ D;have L:=h_ E;have M:=h_ F;rw[D,E,F,ae];rw[D]at aK aH;rw[E]at aI;rw[F]at aJ;have ap:=h_ (show ∀W,Below w.heap.size w W->Rd W 2 A0 O (P.l0.flatMap Q0_)from fun W h=>by rw[<-aa.o];exact(HM.o.next h).r0);have ao:=h_ (show ∀W,Below w.heap.size w W->Rd W 5 A1 J (P.l1.flatMap Qo_)from fun W h=>by rw[<-L.o];exact(HM.o.next h).r1);have aq:=h_ (show ∀W,Below w.heap.size w W->Rd W 3 A2 B (P.l2.flatMap QJ_)from fun W h=>by rw[<-M.o];exact(HM.o.next h).r2);clear D E F ae;have Z:=h_ (Blk.new w 149 (pcC P.m A0 O c0 A1 J c1 A2 B c2 A3 N3 c3));have U:=h_ (show Below w.heap.size w (w.alloc (C_ (pcC P.m A0 O c0 A1 J c1 A2 B c2 A3 N3 c3) 149))from Ql_ br);go_enter func145,ntmps145;go_wp2;go_loopw [5,6] (fun s x wr=>∃(i:Nat) (y:Int),i<=n/\x=I_ j_ i/\s=I_ j_ y/\0<=y/\y<=3000 * (i:Int)/\Hid (y+(Vs_ (P.l0.drop i) (v.drop i)+Zu_ P.l1 v P.l2)=T)/\Hid (Blk wr w.heap.size 149 (pcC P.m A0 O c0 A1 J c1 A2 B c2 A3 N3 c3))/\Hid (Below w.heap.size w wr)) (fun _ x _=>n - (intOf x).toNat)
 case atStart=>exact⟨0,0,lz_ _,rfl,rfl,oo,oo,h_ (by rw[List.drop_zero,List.drop_zero,Int.zero_add];exact HT.o),Z,U⟩
 case round=>
  clear Z U;obtain⟨i,y,aY,rfl,rfl,R,ak,K,o,f⟩:=hrel;have l:=f.o.size;obtain⟨q0,q1,q2,q3,q4,I⟩:=Vp_ o.o;by_cases h1:i < n
  ·obtain⟨⟨x0,x1⟩,q⟩:∃d,P.l0[i]? =some d:=⟨_,gE (by rw[aa.o];omega)⟩;obtain⟨y5,m⟩:∃d,v[i]? =some d:=⟨_,gE (by rw[A.o];omega)⟩;have h0:i < O:=oo;obtain⟨p,off,rfl,hp,cx,cy⟩:=Xo_ (ap.o wr f.o) h0 q;obtain⟨b5,al,rfl,aE,ax⟩:=Qu_ (HV.o.next f.o) h1 m;have t:=h_ (GC_ q m);have H:=HR.o.rule _ (lm_ q);dsimp only at H;obtain⟨aF,aG⟩:=Wl_ (av.o _ (lm_ m)) ⟨H.2.2.1,H.2.2.2⟩;rw[Int.mul_comm]at t aF aG;clear q m H;go_wp2
   go_region
   go_wp2;go_roundw
   case rel=>exact⟨i+1,y+x1 * y5,oo,by go_num,rfl,oo,oo,h_ (by rw[<-K.o,t.o];omega),o,h_ f.o.drew⟩
   case measure=>simp[intOf];omega
  ·obtain rfl:n=i:=oo;have X:Hid (y+Zu_ P.l1 v (P.l2.drop 0)=T):=h_ (by have:=K.o;rw[Js_ (by rw[A.o];exact lr_ _),Int.zero_add]at this;exact this);clear K;have aO:y<=24000:=oo;clear ak;obtain⟨W0,rfl⟩:∃W0,W0=wr:=⟨_,rfl⟩;go_wp2;go_loopw [5,7] (fun s x wr=>∃(j:Nat) (y:Int),j<=B/\x=I_ j_ j/\s=I_ j_ y/\0<=y/\y<=24000+9 * (j:Int)/\Hid (y+Zu_ P.l1 v (P.l2.drop j)=T)/\Hid (Blk wr w.heap.size 149 (pcC P.m A0 O c0 A1 J c1 A2 B c2 A3 N3 c3))/\Hid (Below w.heap.size w wr)) (fun _ x _=>B - (intOf x).toNat)
   case atStart=>exact⟨0,y,lz_ _,rfl,rfl,R,oo,X,o,f⟩
   case round=>
    clear X o f l q0 q1 q2 q3 q4 I R aO;obtain⟨j,y,aZ,rfl,rfl,R,ak,K,o,f⟩:=hrel;have l:=f.o.size;obtain⟨q0,q1,q2,q3,q4,I⟩:=Vp_ o.o;by_cases h2:j < B
    ·obtain⟨⟨a,b,c⟩,q⟩:∃d,P.l2[j]? =some d:=⟨_,gE (by rw[M.o];omega)⟩;obtain⟨⟨ha,ag⟩,Q,aQ,aR⟩:=HR.o.span _ (lm_ q);dsimp only at ha ag Q aQ aR;obtain⟨a,rfl⟩:=eo_ ha;obtain⟨b,rfl⟩:=eo_ (show 0<=b from oo);have ah:a<=b:=oo;have aU:b+1 < J:=(by rw[L.o]at Q;omega);have ab:=h_ (show ∀W,Below w.heap.size w W->∃p off,A2=some ⟨p,off,none⟩/\p < W.heap.size/\W.cell? ⟨p,off+j * 3,none⟩=some (I_ j_ a)/\W.cell? ⟨p,off+j * 3+1,none⟩=some (I_ j_ b)/\W.cell? ⟨p,off+j * 3+2,none⟩=some (I_ j_ c)from fun W h=>WJ_ (aq.o W h) h2 q);obtain⟨z,hz⟩:=ex_ (hitS P.l1 v ((a:Int),(b:Int),c));have t:=h_ (WI_ q hz);have S:=h_ (show Xl_ P.l1 v a (b+1)=z by rw[U0_ P.l1 v (c:=c) ah,hz]);clear q hz ha ag Q;obtain⟨p,off,rfl,hp,cx,cy,cz⟩:=ab.o wr f.o;obtain⟨W0,rfl⟩:∃W0,W0=wr:=⟨_,rfl⟩;go_wp2;go_loopw [8,9] (fun s x wr=>∃(k:Nat) (z:Bool),a<=k/\k<=b+1/\x=I_ j_ k/\s=B_ z/\Hid (Xl_ P.l1 v a k=z)/\Hid (Blk wr w.heap.size 149 (pcC P.m A0 O c0 A1 J c1 (some ⟨p,off,none⟩) B c2 A3 N3 c3))/\Hid (Below w.heap.size w wr)) (fun _ x _=>b+1 - (intOf x).toNat)
     case atStart=>exact⟨a,false,lr_ _,oo,rfl,rfl,h_ (Gp_ _ _ _),o,f⟩
     case round=>
      clear o f l q0 q1 q2 q3 q4 I cx cy cz hp;obtain⟨k,z5,G,a0,rfl,rfl,Y,o,f⟩:=hrel;have l:=f.o.size;obtain⟨q0,q1,q2,q3,q4,I⟩:=Vp_ o.o;obtain⟨p',aV,e',hp,cx,cy,cz⟩:=ab.o wr f.o;injection e' with e';injection e' with e1 e2;subst e1;subst e2;by_cases h3:k<=b
      ·have h4:k < J:=oo;obtain⟨x0,x1,x2,x3,x4,q,aj,aN⟩:=HR.o.chunk (i:=k) (by rw[L.o];omega);obtain⟨p5,o5,rfl,a1,y0,y1,y2,y3,y4⟩:=Zk_ (ao.o wr f.o) h4 q;have HS:=h_ (Blk.new wr 176 #[I_ j_ x1,I_ j_ x2,B_ x3,I_ j_ x4]);obtain⟨x1,rfl⟩:=eo_ aj;clear aj aN
       cases z5 with
       |true=>
        have g:Hid (Xl_ P.l1 v a (k+1)=true):=h_ (by rw[Yj_ P.l1 v G,Y.o];rfl);clear q;go_wp2;go_quiet (fail);go_wp2;go_roundw
        case rel=>exact⟨k+1,true,oo,oo,by go_num,rfl,g,h_ ((o.o.alloc _).drewN _),h_ (below_drewN (f.o.alloc l _) _)⟩
        case measure=>simp[intOf];omega
       |false=>
        by_cases h5:x1 < n
        ·obtain⟨y5,m⟩:∃d,v[x1]? =some d:=⟨_,gE (by rw[A.o];omega)⟩;obtain⟨b5,al,rfl,aE,ax⟩:=Qu_ (HV.o.next f.o) h5 m;have C:=h_ ((qn_ q (v:=v) (by rw[A.o];dsimp only;omega)).trans (Qek_ m));have aX:(x1:Int) < (n:Int):=oo;clear q m;by_cases h6:x2<=y5
         ·have g:Hid (Xl_ P.l1 v a (k+1)=true):=h_ (by rw[UE_ G Y.o C.o,dt_ h6];rfl);go_wp2;go_quiet (fail);go_wp2;go_roundw
          case rel=>exact⟨k+1,true,oo,oo,by go_num,rfl,g,h_ ((o.o.alloc _).drewN _),h_ (below_drewN (f.o.alloc l _) _)⟩
          case measure=>simp[intOf];omega
         ·have g:Hid (Xl_ P.l1 v a (k+1)=false):=h_ (by rw[UE_ G Y.o C.o,df_ h6];rfl);have h7:decide (x2<=y5)=false:=df_ h6;go_wp2;go_quiet (fail);go_wp2;go_roundw
          case rel=>exact⟨k+1,false,oo,oo,by go_num,rfl,g,h_ ((o.o.alloc _).drewN _),h_ (below_drewN (f.o.alloc l _) _)⟩
          case measure=>simp[intOf];omega
        ·have C:=h_ (vM_ q (v:=v) (by rw[A.o];dsimp only;omega));have g:Hid (Xl_ P.l1 v a (k+1)=false):=h_ (by rw[UE_ G Y.o C.o];rfl);have h7:decide ((x1:Int) < (n:Int))=false:=df_ oo;have h8:decide (x1 < n)=false:=df_ h5;clear q;go_wp2;go_quiet (fail);go_wp2;go_roundw
         case rel=>exact⟨k+1,false,oo,oo,by go_num,rfl,g,h_ ((o.o.alloc _).drewN _),h_ (below_drewN (f.o.alloc l _) _)⟩
         case measure=>simp[intOf];omega
      ·obtain rfl:k=b+1:=oo;have HZ:Hid (z=z5):=h_ (by rw[<-S.o,<-Y.o])
       cases z5 with
       |true=>
        go_wp2;go_roundw
        case rel=>exact⟨j+1,y+c,oo,by go_num,rfl,oo,oo,h_ (by rw[<-K.o,t.o,HZ.o];simp only[if_true,eq_self];omega),o,f⟩
        case measure=>simp[intOf];omega
       |false=>
        go_wp2;go_roundw
        case rel=>exact⟨j+1,y,oo,by go_num,rfl,oo,oo,h_ (by rw[<-K.o,t.o,HZ.o];simp only[if_false,Bool.false_eq_true];omega),o,f⟩
        case measure=>simp[intOf];omega
    ·obtain rfl:B=j:=oo;have g:Hid (T=y):=h_ (by have:=K.o;rw[Jt_ (by rw[M.o];exact lr_ _)]at this;omega);go_wp2;go_ret;exact⟨Kx_ g.o.symm,f.o⟩
theorem j4_ (P:Hn) (A0 A1 A2 A3:OA) (c0 c1 c2 c3:Nat) (V:OA) (n cv:Nat) (v:LI) (w:World) (hM:PcM P A0 A1 A2 A3 w) (hR:PcR P) (hv:Rd w 1 V n (Qa_ v)) (l:ValR P v) (t:v.length=P.l0.length):
  Calls prog 194 #[A_ (pcCells P A0 A1 A2 A3 c0 c1 c2 c3),S_ V n cv] w (RB_ (I_ j_ (YX_ P.l0 P.l1 P.l2 v)) w):=by
 have X:v.length=n:=K2_ hv;have aH:=hR.n0;have hn:n<=8:=by have:=l.1;omega
 have aK:n<=P.l0.length:=by have:=l.1;omega
 have HM:=h_ hM;have HR:=h_ hR;have HV:=h_ hv;have ay:=h_ l.2;have aI:=hR.n1;have aJ:=hR.n2;have R:=h_ X;have ae:=h_ (show P.l0.length=n by rw[<-t,X]);have L:=h_ (fun q c' W h1 h2 h3 h4=>GG_ P A0 A1 A2 A3 c0 c1 c2 c3 V n cv v q c' W h1 HR.o.toPcOk h2 hn h3 h4);obtain⟨T,hT⟩:=ex_ (YX_ P.l0 P.l1 P.l2 v);have HT:=h_ hT;rw[hT];clear hM hR hv l X hT t;unfold pcCells at L |-
 obtain⟨S,D⟩:=ex_ P.l0.length;obtain⟨K,E⟩:=ex_ P.l1.length;obtain⟨B,F⟩:=ex_ P.l2.length;obtain⟨N3,aj⟩:=ex_ P.l3.length;have C:=h_ D;have O:=h_ E;have Q:=h_ F;rw[D,E,F,aj]at L |-
 rw[D]at aK aH;rw[E]at aI;rw[F]at aJ;have av:=h_ (show ∀W,Below w.heap.size w W->Rd W 2 A0 S (P.l0.flatMap Q0_)from fun W h=>by rw[<-C.o];exact(HM.o.next h).r0);have aV:=h_ (show ∀W,Below w.heap.size w W->Rd W 5 A1 K (P.l1.flatMap Qo_)from fun W h=>by rw[<-O.o];exact(HM.o.next h).r1);have ax:=h_ (show ∀W,Below w.heap.size w W->Rd W 3 A2 B (P.l2.flatMap QJ_)from fun W h=>by rw[<-Q.o];exact(HM.o.next h).r2);clear D E F aj;have af:=h_ (Blk.new w 149 (pcC P.m A0 S c0 A1 K c1 A2 B c2 A3 N3 c3));have ac:=h_ (show Below w.heap.size w (w.alloc (C_ (pcC P.m A0 S c0 A1 K c1 A2 B c2 A3 N3 c3) 149))from Ql_ br);go_enter func194,ntmps194;go_wp2;go_loopw [5,6] (fun s x wr=>∃(i:Nat) (y:Int),i<=n/\x=I_ j_ i/\s=I_ j_ y/\0<=y/\y<=3000 * (i:Int)/\Hid (y+(Vs_ (P.l0.drop i) (v.drop i)+Zu_ P.l1 v P.l2)=T)/\Hid (Blk wr w.heap.size 149 (pcC P.m A0 S c0 A1 K c1 A2 B c2 A3 N3 c3))/\Hid (Below w.heap.size w wr)) (fun _ x _=>n - (intOf x).toNat)
 case atStart=>exact⟨0,0,lz_ _,rfl,rfl,oo,oo,h_ (by rw[List.drop_zero,List.drop_zero,Int.zero_add];exact HT.o),af,ac⟩
 case round=>
  clear af ac;obtain⟨i,y,aZ,rfl,rfl,Z,ao,M,g,f⟩:=hrel;have G:=f.o.size;obtain⟨q0,q1,q2,q3,q4,J⟩:=Vp_ g.o;by_cases h1:i < n
  ·obtain⟨⟨x0,x1⟩,m⟩:∃d,P.l0[i]? =some d:=⟨_,gE (by rw[C.o];omega)⟩;obtain⟨y5,I⟩:∃d,v[i]? =some d:=⟨_,gE (by rw[R.o];omega)⟩;have h0:i < S:=oo;obtain⟨p,off,rfl,hp,cx,cy⟩:=Xo_ (av.o wr f.o) h0 m;obtain⟨b5,aU,rfl,aY,aX⟩:=Qu_ (HV.o.next f.o) h1 I;have r:=h_ (GC_ m I);have H:=HR.o.rule _ (lm_ m);dsimp only at H;obtain⟨aF,aG⟩:=Wl_ (ay.o _ (lm_ I)) ⟨H.2.2.1,H.2.2.2⟩;rw[Int.mul_comm]at r aF aG;clear m I H;go_wp2
   go_region
   go_wp2;go_roundw
   case rel=>exact⟨i+1,y+x1 * y5,oo,by go_num,rfl,oo,oo,h_ (by rw[<-M.o,r.o];omega),g,h_ f.o.drew⟩
   case measure=>simp[intOf];omega
  ·obtain rfl:n=i:=oo;have ad:Hid (y+Zu_ P.l1 v (P.l2.drop 0)=T):=h_ (by have:=M.o;rw[Js_ (by rw[R.o];exact lr_ _),Int.zero_add]at this;exact this);clear M;have aN:y<=24000:=oo;clear ao;obtain⟨W0,rfl⟩:∃W0,W0=wr:=⟨_,rfl⟩;go_wp2;go_loopw [5,7] (fun s x wr=>∃(j:Nat) (y:Int),j<=B/\x=I_ j_ j/\s=I_ j_ y/\0<=y/\y<=24000+9 * (j:Int)/\Hid (y+Zu_ P.l1 v (P.l2.drop j)=T)/\Hid (Blk wr w.heap.size 149 (pcC P.m A0 S c0 A1 K c1 A2 B c2 A3 N3 c3))/\Hid (Below w.heap.size w wr)) (fun _ x _=>B - (intOf x).toNat)
   case atStart=>exact⟨0,y,lz_ _,rfl,rfl,Z,oo,ad,g,f⟩
   case round=>
    clear ad g f G q0 q1 q2 q3 q4 J Z aN;obtain⟨j,y,a0,rfl,rfl,Z,ao,M,g,f⟩:=hrel;have G:=f.o.size;obtain⟨q0,q1,q2,q3,q4,J⟩:=Vp_ g.o;by_cases h2:j < B
    ·obtain⟨⟨a,b,c⟩,m⟩:∃d,P.l2[j]? =some d:=⟨_,gE (by rw[Q.o];omega)⟩;obtain⟨⟨ha,al⟩,U,aP,aQ⟩:=HR.o.span _ (lm_ m);dsimp only at ha al U aP aQ;obtain⟨a,rfl⟩:=eo_ ha;obtain⟨b,rfl⟩:=eo_ (show 0<=b from oo);have am:a<=b:=oo;have aS:b+1 < K:=(by rw[O.o]at U;omega);have ag:=h_ (show ∀W,Below w.heap.size w W->∃p off,A2=some ⟨p,off,none⟩/\p < W.heap.size/\W.cell? ⟨p,off+j * 3,none⟩=some (I_ j_ a)/\W.cell? ⟨p,off+j * 3+1,none⟩=some (I_ j_ b)/\W.cell? ⟨p,off+j * 3+2,none⟩=some (I_ j_ c)from fun W h=>WJ_ (ax.o W h) h2 m);obtain⟨z,hz⟩:=ex_ (hitS P.l1 v ((a:Int),(b:Int),c));have r:=h_ (WI_ m hz);have ab:=h_ (show Xl_ P.l1 v a (b+1)=z by rw[U0_ P.l1 v (c:=c) am,hz]);clear m hz ha al U;obtain⟨p,off,rfl,hp,cx,cy,cz⟩:=ag.o wr f.o;obtain⟨W0,rfl⟩:∃W0,W0=wr:=⟨_,rfl⟩;go_wp2;go_loopw [8,9] (fun s x wr=>∃(k:Nat) (z:Bool),a<=k/\k<=b+1/\x=I_ j_ k/\s=B_ z/\Hid (Xl_ P.l1 v a k=z)/\Hid (Blk wr w.heap.size 149 (pcC P.m A0 S c0 A1 K c1 (some ⟨p,off,none⟩) B c2 A3 N3 c3))/\Hid (Below w.heap.size w wr)) (fun _ x _=>b+1 - (intOf x).toNat)
     case atStart=>exact⟨a,false,lr_ _,oo,rfl,rfl,h_ (Gp_ _ _ _),g,f⟩
     case round=>
      clear g f G q0 q1 q2 q3 q4 J cx cy cz hp;obtain⟨k,z5,an,a1,rfl,rfl,HH,g,f⟩:=hrel;have G:=f.o.size;obtain⟨q0,q1,q2,q3,q4,J⟩:=Vp_ g.o;obtain⟨p',aT,e',hp,cx,cy,cz⟩:=ag.o wr f.o;injection e' with e';injection e' with e1 e2;subst e1;subst e2;by_cases h3:k<=b
      ·have h4:k < K:=oo;obtain⟨x0,x1,x2,x3,x4,m,Y,A⟩:=HR.o.chunk (i:=k) (by rw[O.o];omega)
       cases z5 with
       |true=>
        have o:Hid (Xl_ P.l1 v a (k+1)=true):=h_ (by rw[Yj_ P.l1 v an,HH.o];rfl);clear m Y A;go_wp2;go_roundw
        case rel=>exact⟨k+1,true,oo,oo,by go_num,rfl,o,g,f⟩
        case measure=>simp[intOf];omega
       |false=>
        obtain⟨z6,aa⟩:=ex_ (ZE_ v (x0,x1,x2,x3,x4));have HC:=h_ (L.o k _ wr (HM.o.next f.o) (HV.o.next f.o) m ⟨Y,by rw[C.o]at A;rw[<-ae.o,C.o];exact A⟩);have o:Hid (Xl_ P.l1 v a (k+1)=z6):=h_ (by rw[UE_ an HH.o ((qn_ m (v:=v) (by rw[R.o,<-ae.o];exact A)).trans aa)];rfl);rw[aa]at HC;clear m Y A aa;go_wp2_with (go_at_call 148;refine HC.o.mono ?_;rintro e w1 ⟨rfl,k1⟩)
        go_roundw
        case rel=>exact⟨k+1,z6,oo,oo,by go_num,rfl,o,h_ (g.o.next k1),h_ (Qb_ f.o k1)⟩
        case measure=>simp[intOf];omega
      ·obtain rfl:k=b+1:=oo;have HZ:Hid (z=z5):=h_ (by rw[<-ab.o,<-HH.o])
       cases z5 with
       |true=>
        go_wp2;go_roundw
        case rel=>exact⟨j+1,y+c,oo,by go_num,rfl,oo,oo,h_ (by rw[<-M.o,r.o,HZ.o];simp only[if_true,eq_self];omega),g,f⟩
        case measure=>simp[intOf];omega
       |false=>
        go_wp2;go_roundw
        case rel=>exact⟨j+1,y,oo,by go_num,rfl,oo,oo,h_ (by rw[<-M.o,r.o,HZ.o];simp only[if_false,Bool.false_eq_true];omega),g,f⟩
        case measure=>simp[intOf];omega
    ·obtain rfl:B=j:=oo;have o:Hid (T=y):=h_ (by have:=M.o;rw[Jt_ (by rw[Q.o];exact lr_ _)]at this;omega);go_wp2;go_ret;exact⟨Kx_ o.o.symm,f.o⟩
theorem ki_ (k:Nat):QK_ (k:Int)++⟨#[32]⟩=QK_ ((k:Int)+1):=by
 apply VY_;show(QK_ (k:Int)).data.toList++[32]=_;unfold QK_;rw[show((k:Int)+1).toNat=(k:Int).toNat+1 from oo,List.replicate_succ']
theorem V8_ (n:Int) (w:World) (hn:0<=n/\n<=1000):Calls prog 112 #[I_ j_ n] w (RS_ (T_ (QK_ n)) w):=by
 obtain⟨k,rfl⟩:=eo_ hn.1;have hk:k<=1000:=oo;clear hn;go_enter func112,ntmps112;go_wp2
 go_loop [3,4] (fun s x=>∃i:Nat,i<=k/\x=I_ j_ i/\s=T_ (QK_ (i:Int))) (fun _ x=>k - (intOf x).toNat)
 case atStart=>exact⟨0,lz_ _,rfl,rfl⟩
 case round=>
  obtain⟨i,a,rfl,rfl⟩:=hrel;have HZ:=h_ (ki_ i);have hz:¬9223372036854775807 < (QK_ (i:Int)).size+1:=by rw[Kc_];omega
  by_cases h1:i < k
  ·go_wp2
   go_round
   case rel=>exact⟨i+1,oo,by go_num,by rw[HZ.o];rfl⟩
   case measure=>simp[intOf];omega
  ·obtain rfl:i=k:=oo;go_wp2;go_ret;exact⟨rfl,rfl⟩
theorem XW_ {i:Array Oper} {rest:List Oper} {o:Oper} {a:Act} {Q:Exit->Act->World->Prop} (s x:Operand) {B:Nat} {w1:World} {A:OA} {b c:Nat} {ks:List BA} {k:BA}
  (m:Hid (Mine w1 B 9 1 A b c (Qm_ ks))) (hB:B<=w1.heap.size) (n:o.guard=none) (ho:o.op=.call { callee:=.builtin .append,args:=#[s,x],argTypes:=#[31,31] }) (hs:a.eval s=S_ A b c) (l:a.eval x=S_ (some ⟨w1.heap.size,0,none⟩) 1 1) (y:b<=1000000000)
  (h:∀A' c' w',Hid (Mine w' B 9 1 A' (b+1) c' (Qm_ (ks++[k])))->Hid (w1.heap.size<=w'.heap.size/\∀g t cs,Blk w1 g t cs->t≠9->Blk w' g t cs)->Hid (∀w0,Below B w0 w1->Below B w0 w')->wpList prog i Q rest (a.put o.dst (S_ A' (b+1) c')) w'):wpList prog i Q (o::rest) a (w1.alloc (C_ #[T_ k] 9)):=by
 obtain⟨i0,hi,p,q,r⟩:=info_parts qy_;refine wpList_append_own _ n s x _ ho B 9 i0 (T_ ⟨#[]⟩) 1 16 underlying31 hi p q r rfl dc_ (S_ A b c) b (Qm_ ks) hs (Mine.alloc m.o _) ⟨w1.heap.size,0,none⟩ 1 1 [T_ k] l rfl (km_ _ _ _) (fun x l=>by simp at l;subst l;rfl) mx_ oo so_ ?_;intro v' w5 f d z;obtain⟨A5,c5,rfl,m5⟩:=Mine.of f;have m6:Mine w5 B 9 1 A5 (b+1) c5 (Qm_ (ks++[k])):=by
  have:Qm_ (ks++[k])=Qm_ ks++[T_ k]:=by simp[Qm_]
  rw[this];exact m5
 refine h A5 c5 w5 m6 ⟨lt_ sm_ d.size,fun g t cs j ht=>?_⟩ (fun w0 j=>?_)
 ·refine(j.alloc _).grown d (fun e=>?_);rw[Q3_]at e;obtain⟨v,b'⟩:=Qw_ m.o e.symm;exact Kj_ j b' ht rfl
 ·exact(j.alloc hB _).grown d so_ (fun g d=>by rw[Q3_]at d;exact(Mine.blk m.o d).1)
theorem xp_ {m:Int} {v:LI} {l:List ChunkD} {i:Nat} {c:ChunkD} (h:l[i]? =some c) (hi:i+1=l.length) (s:BA):Y6_ m v (l.drop i) s=[s++c.1]:=by
 obtain⟨h1,h2⟩:=gs_.1 h;rw[List.drop_eq_getElem_cons h1,h2,List.drop_of_length_le oo];show(if ([]:List ChunkD)=[]then _ else _)=_;rw[ip_ rfl]
theorem Qd0_ {m:Int} {v:LI} {l:List ChunkD} {i:Nat} {c:ChunkD} (h:l[i]? =some c) (hi:i+1 < l.length) (s:BA) {z:Bool} (hz:ZE_ v c=z):Y6_ m v (l.drop i) s=if z=true then (s++c.1)::Y6_ m v (l.drop (i+1)) (QK_ (m+c.2.2.2.2))else Y6_ m v (l.drop (i+1)) (s++c.1++(if c.2.2.2.1=true then ⟨#[32]⟩else ⟨#[]⟩)):=by
 obtain⟨h1,h2⟩:=gs_.1 h;rw[List.drop_eq_getElem_cons h1,h2]
 conv=>lhs;unfold Y6_
 rw[in_ (fun e=>by have:=congrArg List.length e;simp at this;omega),hz]
theorem x8_ (n:Nat) (h:n<=128):(⟨(List.replicate 128 (32:UInt8)).toArray⟩:BA).extract 0 n=QK_ (n:Int):=by
 apply VY_;rw[Qfe_];show((List.replicate 128 (32:UInt8)).take n).drop 0=List.replicate (n:Int).toNat 32;rw[List.drop_zero,List.take_replicate,it_,Nat.min_eq_left h]
theorem QbP_ (n:Nat) (w:World) (a:n<=100):Calls prog 219 #[T_ ⟨#[32]⟩,I_ j_ (n:Int)] w fun e w'=>e=R_ (T_ (QK_ (n:Int)))/\w=w':=by
 match n,a with
 |0,_=>
  go_enter func219,ntmps219;go_wp2;go_ret;exact⟨rfl,rfl⟩
 |1,_=>
  go_enter func219,ntmps219;go_wp2;go_ret;exact⟨rfl,rfl⟩
 |k+2,hk=>
  obtain⟨n,a⟩:∃n,n=k+2:=⟨_,rfl⟩;rw[<-a]at hk |-
  have h2:2<=n:=oo;clear a;have HM:=h_ (Tryz.bits_Mul 1 n oo oo w);rw[show 1 * n / 18446744073709551616=0 from oo,show 1 * n % 18446744073709551616=n from oo]at HM;have h0:((n:Int)==0)=false:=bn_.2 oo;have h1:((n:Int)==1)=false:=bn_.2 oo;have HP:=h_ (show Calls prog 154 #[T_ ⟨(List.replicate 128 (32:UInt8)).toArray⟩,T_ ⟨#[32]⟩] w fun e w'=>e=R_ (B_ true)/\w'=w from Tryz.strings_HasPrefix ⟨(List.replicate 128 (32:UInt8)).toArray⟩ ⟨#[32]⟩ w);have HT:=h_ (x8_ n oo);go_enter func219,ntmps219;go_wp2_with fail
  refine HM.o.mono ?_;rintro e w1 ⟨rfl,rfl⟩;go_wp2_with fail
  refine HP.o.mono ?_;rintro e w2 ⟨rfl,rfl⟩;go_wp2;go_ret;exact⟨Xn_ HT.o,rfl⟩
theorem V1_ (n:Int) (w:World) (hn:0<=n/\n<=100):Calls prog 175 #[I_ j_ n] w (RS_ (T_ (QK_ n)) w):=by
 obtain⟨k,rfl⟩:=eo_ hn.1;have HR:=h_ (QbP_ k w oo);go_enter func175,ntmps175;go_wp2_with fail
 refine HR.o.mono ?_;rintro e w1 ⟨rfl,rfl⟩;go_wp2;go_ret;exact⟨rfl,rfl⟩
theorem Qaq_ {w w':World} {L a:List BA} {A:OA} {c b:Nat} (h:L=a) (hl:a.length=b) (m:Mine w' w.heap.size 9 1 A b c (Qm_ a)) (hb:Below w.heap.size w w'):QgE_ w L (R_ (S_ A b c)) w':=by
 subst h;subst hl;exact⟨A,c,rfl,m,hb⟩
theorem kd_ (a:BA):a++⟨#[]⟩=a:=VY_ (show a.data.toList++[]=_ by simp)
theorem V3_ (P:Hn) (A0 A1 A2 A3:OA) (c0 c1 c2 c3:Nat) (V:OA) (n cv:Nat) (v:LI) (w:World) (hM:PcM P A0 A1 A2 A3 w) (X:PcR P) (hv:Rd w 1 V n (Qa_ v)) (g:v.length=P.l0.length):
  Calls prog 226 #[A_ (pcCells P A0 A1 A2 A3 c0 c1 c2 c3),S_ V n cv] w (QgE_ w (YI_ P.m P.l1 v)):=by
 have al:v.length=n:=K2_ hv;have hn:n<=8:=by have:=X.n0;omega
 have HM:=h_ hM;have HR:=h_ X;have HV:=h_ hv;have aF:=X.n1;obtain⟨aE,aP⟩:=X.m;have D:=X.one;have ay:=h_ (show P.l0.length=n by rw[<-g,al]);have G:=h_ (fun q c' W h1 h2 h3 h4=>zv_ P A0 A1 A2 A3 c0 c1 c2 c3 V n cv v q c' W h1 HR.o.toPcOk h2 hn h3 h4);have aa:=h_ (fun k W (h:0<=k/\k<=100)=>V1_ k W h);obtain⟨L,hL⟩:=ex_ (YI_ P.m P.l1 v);have HL:=h_ (show Y6_ P.m v P.l1 (QK_ P.m)=L from hL);rw[hL];clear hM X hv al hL g;unfold pcCells at G |-
 obtain⟨N0,S⟩:=ex_ P.l0.length;obtain⟨b,y⟩:=ex_ P.l1.length;obtain⟨N2,ai⟩:=ex_ P.l2.length;obtain⟨N3,aj⟩:=ex_ P.l3.length;have aN:=h_ S;have f:=h_ y;rw[S,y,ai,aj]at G |-
 rw[y]at aF D;have az:=h_ (show ∀W,Below w.heap.size w W->Rd W 5 A1 b (P.l1.flatMap Qo_)from fun W h=>by rw[<-f.o];exact(HM.o.next h).r1);clear S y ai aj;have ab:=h_ (Blk.new w 149 (pcC P.m A0 N0 c0 A1 b c1 A2 N2 c2 A3 N3 c3));have Z:=h_ (show Below w.heap.size w (w.alloc (C_ (pcC P.m A0 N0 c0 A1 b c1 A2 N2 c2 A3 N3 c3) 149))from Ql_ br);have ad:=h_ (show Mine (w.alloc (C_ (pcC P.m A0 N0 c0 A1 b c1 A2 N2 c2 A3 N3 c3) 149)) w.heap.size 9 1 none 0 0 (Qm_ [])from Mine.mk_nil _ _ _ _);have Y:=h_ (aa.o P.m (w.alloc (C_ (pcC P.m A0 N0 c0 A1 b c1 A2 N2 c2 A3 N3 c3) 149)) ⟨aE,oo⟩);go_enter func226,ntmps226;go_wp2_with (go_at_call 175;refine Y.o.mono ?_;rintro e w1 ⟨rfl,rfl⟩)
 go_loopw [5,6,15] (fun o t x wr=>∃(i:Nat) (a:List BA) (s:BA) (A:OA) (c E:Nat),i < b/\E<=i/\x=I_ j_ i/\o=S_ A E c/\t=T_ s/\s.size<=200+1000000000001 * i/\Hid (a.length=E)/\Hid (a++Y6_ P.m v (P.l1.drop i) s=L)/\Hid (Mine wr w.heap.size 9 1 A E c (Qm_ a))/\Hid (Blk wr w.heap.size 149 (pcC P.m A0 N0 c0 A1 b c1 A2 N2 c2 A3 N3 c3))/\Hid (Below w.heap.size w wr)) (fun _ _ x _=>b - (intOf x).toNat)
 case atStart=>exact⟨0,[],QK_ P.m,none,0,0,D,lr_ _,rfl,rfl,rfl,by rw[Kc_];omega,h_ rfl,h_ (by rw[List.drop_zero];exact HL.o),ad,ab,Z⟩
 case round=>
  clear ab Z ad Y;obtain⟨i,a,s,A,c,E,aD,aO,rfl,rfl,rfl,aQ,r,HE,HO,HK,U⟩:=hrel;have aC:=U.o.size;obtain⟨q0,q1,q2,q3,q4,an⟩:=Vp_ HK.o;obtain⟨⟨x0,x1,x2,T,F⟩,B⟩:∃d,P.l1[i]? =some d:=⟨_,gE (by rw[f.o];omega)⟩;obtain⟨p,off,rfl,hp,y0,y1,y2,y3,y4⟩:=Zk_ (az.o wr U.o) aD B;have aR:x0.size<=1000000000000:=HR.o.text _ (lm_ B);have aI:=HR.o.nest _ (lm_ B);dsimp only at aI;have aS:¬9223372036854775807 < s.size+x0.size:=oo;have aL:¬9223372036854775807 < s.size+x0.size+1:=oo;have HS:=h_ (Blk.new wr 178 #[T_ x0,I_ j_ x1,I_ j_ x2,B_ T,I_ j_ F]);have ae:=h_ (HO.o.alloc (C_ #[T_ x0,I_ j_ x1,I_ j_ x2,B_ T,I_ j_ F] 178));have C:w.heap.size<=(wr.alloc (C_ #[T_ x0,I_ j_ x1,I_ j_ x2,B_ T,I_ j_ F] 178)).heap.size:=by simp;omega
  by_cases h1:i+1=b
  ·have aA:Hid (L=a++[s++x0]):=h_ (by rw[<-HE.o,xp_ B (by rw[f.o];exact h1)]);have hb:((i:Int)==(b:Int) - 1)=true:=(by rw[beq_iff_eq];omega);clear B h1;go_wp2_with (at_builtin;refine XW_ (.tmp 51) (.tmp 53) ae C rfl rfl rfl er_ oo ?_;intro A5 c5 w5 M J H)
   go_wp2;go_ret;exact Qaq_ aA.o (by rw[lA,r.o];rfl) M.o (H.o _ (U.o.alloc aC _))
  ·have j:i+1 < b:=oo;have hb:((i:Int)==(b:Int) - 1)=false:=(by rw[bn_];omega);obtain⟨z,hz⟩:=ex_ (ZE_ v (x0,x1,x2,T,F));have hr:=HR.o.split i _ B (by rw[f.o];exact j);have HC:=h_ (G.o i _ (wr.alloc (C_ #[T_ x0,I_ j_ x1,I_ j_ x2,B_ T,I_ j_ F] 178)) ((HM.o.next U.o).alloc _) ((HV.o.next U.o).alloc _) B ⟨hr.1,by rw[<-ay.o];exact hr.2⟩);have O:=h_ (Qd0_ (m:=P.m) B (by rw[f.o];exact j) s hz);rw[hz]at HC;have av:=h_ (fun W=>aa.o (P.m+F) W ⟨oo,oo⟩);clear B hr hz;go_wp2_with fail
   refine HC.o.mono ?_;rintro e w1 ⟨rfl,k1⟩;have I:=h_ (HK.o.next1 k1);have K:=h_ (HO.o.next1 k1);have l:=h_ (Q7_ U.o k1);have Q:=h_ (HS.o.next k1);have t3:w1.cell? ⟨wr.heap.size,3,none⟩=some (B_ T):=Q.o.cell 3;have aK:=Q.o.lt;clear HC k1 q0 q1 q2 q3 q4 an y0 y1 y2 y3 y4 hp C ae HS;have ak:=l.o.size
   cases z with
   |true=>
    go_upto_region 10 with(at_builtin;refine XW_ (.tmp 34) (.tmp 36) K ak rfl rfl rfl er_ oo ?_;intro A5 c5 w5 M J H)
    have ac:=h_ (J.o.2 _ _ _ I.o dc_);have ar:=h_ (H.o _ l.o);obtain⟨q0,q1,q2,q3,q4,an⟩:=Vp_ ac.o;have R:=J.o.2 _ _ _ Q.o dc_;have t4:w5.cell? ⟨wr.heap.size,4,none⟩=some (I_ j_ F):=R.cell 4;have aM:=R.lt;clear R t3 aK;go_wp2_with (go_at_call 175;refine(av.o _).mono ?_;rintro e w6 ⟨rfl,rfl⟩)
    go_roundw
    case rel=>exact⟨i+1,a++[s++x0],QK_ (P.m+F),A5,c5,E+1,j,oo,by go_num,rfl,rfl,by rw[Kc_];omega,h_ (by rw[lA,r.o];rfl),h_ (by rw[<-HE.o,O.o,ip_ sm_,List.append_assoc];rfl),M,ac,ar⟩
    case measure=>simp[intOf];omega
   |false=>
    cases T with
    |true=>
     go_wp2;go_roundw
     case rel=>exact⟨i+1,a,s++x0++⟨#[32]⟩,A,c,E,j,oo,by go_num,rfl,rfl,by rw[bs_,bs_];show s.size+x0.size+1<=_;omega,r,h_ (by rw[<-HE.o,O.o,in_ sm_];rfl),K,I,l⟩
     case measure=>simp[intOf];omega
    |false=>
     go_wp2;go_roundw
     case rel=>exact⟨i+1,a,s++x0,A,c,E,j,oo,by go_num,rfl,rfl,by rw[bs_];omega,r,h_ (by rw[<-HE.o,O.o,in_ sm_];show _=a++Y6_ P.m v (P.l1.drop (i+1)) (s++x0++⟨#[]⟩);rw[kd_]),K,I,l⟩
     case measure=>simp[intOf];omega
theorem ze_ (P:Hn) (A0 A1 A2 A3:OA) (c0 c1 c2 c3:Nat) (V:OA) (n cv:Nat) (v:LI) (w:World) (hM:PcM P A0 A1 A2 A3 w) (Y:PcR P) (hv:Rd w 1 V n (Qa_ v)) (l:v.length=P.l0.length):
  Calls prog 116 #[A_ (pcCells P A0 A1 A2 A3 c0 c1 c2 c3),S_ V n cv] w (QgE_ w (YI_ P.m P.l1 v)):=by
 have ao:v.length=n:=K2_ hv;have hn:n<=8:=by have:=Y.n0;omega
 have HM:=h_ hM;have HR:=h_ Y;have HV:=h_ hv;have aD:=Y.n1;obtain⟨aC,aT⟩:=Y.m;have F:=Y.one;have az:=h_ (show P.l0.length=n by rw[<-l,ao]);have H:=h_ (fun q c' W h1 h2 h3 h4=>GG_ P A0 A1 A2 A3 c0 c1 c2 c3 V n cv v q c' W h1 HR.o.toPcOk h2 hn h3 h4);have ac:=h_ (fun k W (h:0<=k/\k<=100)=>V8_ k W ⟨h.1,oo⟩);obtain⟨L,hL⟩:=ex_ (YI_ P.m P.l1 v);have HL:=h_ (show Y6_ P.m v P.l1 (QK_ P.m)=L from hL);rw[hL];clear hM Y hv ao hL l;unfold pcCells at H |-
 obtain⟨O,T⟩:=ex_ P.l0.length;obtain⟨f,D⟩:=ex_ P.l1.length;obtain⟨Q,ak⟩:=ex_ P.l2.length;obtain⟨R,al⟩:=ex_ P.l3.length;have aQ:=h_ T;have j:=h_ D;rw[T,D,ak,al]at H |-
 rw[D]at aD F;have ah:=h_ (show ∀W,Below w.heap.size w W->Rd W 5 A1 f (P.l1.flatMap Qo_)from fun W h=>by rw[<-j.o];exact(HM.o.next h).r1);clear T D ak al;have ae:=h_ (show Blk ((w.alloc (C_ (pcC P.m A0 O c0 A1 f c1 A2 Q c2 A3 R c3) 149)).alloc (C_ #[] 9)) w.heap.size 149 (pcC P.m A0 O c0 A1 f c1 A2 Q c2 A3 R c3)from(Blk.new _ _ _).alloc _);have aa:=h_ (Z3_ w (C_ (pcC P.m A0 O c0 A1 f c1 A2 Q c2 A3 R c3) 149) (C_ #[] 9));have ai:=h_ (show Mine ((w.alloc (C_ (pcC P.m A0 O c0 A1 f c1 A2 Q c2 A3 R c3) 149)).alloc (C_ #[] 9)) w.heap.size 9 1 (some ⟨w.heap.size+1,0,none⟩) 0 0 (Qm_ [])from by
  have h:=ZA_ (w.alloc (C_ (pcC P.m A0 O c0 A1 f c1 A2 Q c2 A3 R c3) 149)) 9 1;rw[ws_]at h;exact Mine.more h (oo:w.heap.size<=w.heap.size+1))
 have Z:=h_ (ac.o P.m ((w.alloc (C_ (pcC P.m A0 O c0 A1 f c1 A2 Q c2 A3 R c3) 149)).alloc (C_ #[] 9)) ⟨aC,oo⟩);go_enter func116,ntmps116;go_wp2_with (go_at_call 112;refine Z.o.mono ?_;rintro e w1 ⟨rfl,rfl⟩)
 go_loopw [5,6,7] (fun o t x wr=>∃(i:Nat) (b:List BA) (s:BA) (A:OA) (c G:Nat),i < f/\G<=i/\x=I_ j_ i/\o=S_ A G c/\t=T_ s/\s.size<=200+1000000000001 * i/\Hid (b.length=G)/\Hid (b++Y6_ P.m v (P.l1.drop i) s=L)/\Hid (Mine wr w.heap.size 9 1 A G c (Qm_ b))/\Hid (Blk wr w.heap.size 149 (pcC P.m A0 O c0 A1 f c1 A2 Q c2 A3 R c3))/\Hid (Below w.heap.size w wr)) (fun _ _ x _=>f - (intOf x).toNat)
 case atStart=>exact⟨0,[],QK_ P.m,some ⟨w.heap.size+1,0,none⟩,0,0,F,lr_ _,rfl,rfl,rfl,by rw[Kc_];omega,h_ rfl,h_ (by rw[List.drop_zero];exact HL.o),ai,ae,aa⟩
 case round=>
  clear ae aa ai Z;obtain⟨i,b,s,A,c,G,an,aS,rfl,rfl,rfl,aU,C,HE,HO,HK,X⟩:=hrel;have aR:=X.o.size;obtain⟨q0,q1,q2,q3,q4,U⟩:=Vp_ HK.o;obtain⟨⟨x0,x1,x2,x3,x4⟩,y⟩:∃d,P.l1[i]? =some d:=⟨_,gE (by rw[j.o];omega)⟩;obtain⟨p,off,rfl,hp,y0,y1,y2,y3,y4⟩:=Zk_ (ah.o wr X.o) an y;have aV:x0.size<=1000000000000:=HR.o.text _ (lm_ y);have aH:=HR.o.nest _ (lm_ y);dsimp only at aH;have aX:¬9223372036854775807 < s.size+x0.size:=oo;have aP:¬9223372036854775807 < s.size+x0.size+1:=oo;have aj:=HO;have E:w.heap.size<=wr.heap.size:=oo;by_cases h1:i+1=f
  ·have aA:Hid (L=b++[s++x0]):=h_ (by rw[<-HE.o,xp_ y (by rw[j.o];exact h1)]);have hb:((i:Int)+1==(f:Int))=true:=(by rw[beq_iff_eq];omega);clear y h1;go_wp2_with (at_builtin;refine XW_ (.tmp 61) (.tmp 63) aj E rfl rfl rfl er_ oo ?_;intro A5 c5 w5 K af I)
   go_wp2;go_ret;exact Qaq_ aA.o (by rw[lA,C.o];rfl) K.o (I.o _ X.o)
  ·have r:i+1 < f:=oo;have hb:((i:Int)+1==(f:Int))=false:=(by rw[bn_];omega);obtain⟨z,hz⟩:=ex_ (ZE_ v (x0,x1,x2,x3,x4));have hr:=HR.o.split i _ y (by rw[j.o];exact r);have HC:=h_ (H.o i _ wr (HM.o.next X.o) (HV.o.next X.o) y ⟨hr.1,by rw[<-az.o];exact hr.2⟩);have M:=h_ (Qd0_ (m:=P.m) y (by rw[j.o];exact r) s hz);rw[hz]at HC;have ax:=h_ (fun W=>ac.o (P.m+x4) W ⟨oo,oo⟩);have ad:=h_ (show ∀W,Below w.heap.size w W->∃b' a,some (⟨p,off,none⟩:Addr)=some ⟨b',a,none⟩/\b' < W.heap.size/\W.cell? ⟨b',a+i * 5,none⟩=some (T_ x0)/\W.cell? ⟨b',a+i * 5+1,none⟩=some (I_ j_ x1)/\W.cell? ⟨b',a+i * 5+2,none⟩=some (I_ j_ x2)/\W.cell? ⟨b',a+i * 5+3,none⟩=some (B_ x3)/\W.cell? ⟨b',a+i * 5+4,none⟩=some (I_ j_ x4)from fun W h=>Zk_ (ah.o W h) an y);clear y hr hz;go_wp2_with fail
   refine HC.o.mono ?_;rintro e w1 ⟨rfl,k1⟩;have B:=h_ (HK.o.next k1);have J:=h_ (HO.o.next k1);have g:=h_ (Qb_ X.o k1);clear HC k1 q0 q1 q2 q3 q4 U y0 y1 y2 y3 y4 hp E aj;have am:=g.o.size
   cases z with
   |true=>
    go_upto_region 10 with(at_builtin;refine XW_ (.tmp 37) (.tmp 39) J am rfl rfl rfl er_ oo ?_;intro A5 c5 w5 K af I)
    have ag:=h_ (af.o.2 _ _ _ B.o dc_);have ab:=h_ (I.o _ g.o);obtain⟨q0,q1,q2,q3,q4,U⟩:=Vp_ ag.o;obtain⟨p',a,S,hp,y0,y1,y2,y3,y4⟩:=ad.o w5 ab.o;injection S with S;injection S with e1 e2;subst e1;subst e2;go_quiet ((go_at_call 112;exact Calls.quiet_of_same ((ax.o _).mono fun _ _ h=>⟨h.1,h.2.symm⟩)));go_wp2;go_roundw
    case rel=>exact⟨i+1,b++[s++x0],QK_ (P.m+x4),A5,c5,G+1,r,oo,by go_num,rfl,rfl,by rw[Kc_];omega,h_ (by rw[lA,C.o];rfl),h_ (by rw[<-HE.o,M.o,ip_ sm_,List.append_assoc];rfl),K,ag,h_ (below_drewN ab.o _)⟩
    case measure=>simp[intOf];omega
   |false=>
    obtain⟨p',a,S,hp,y0,y1,y2,y3,y4⟩:=ad.o w1 g.o;injection S with S;injection S with e1 e2;subst e1;subst e2;obtain⟨q0,q1,q2,q3,q4,U⟩:=Vp_ B.o
    cases x3 with
    |true=>
     go_wp2;go_roundw
     case rel=>exact⟨i+1,b,s++x0++⟨#[32]⟩,A,c,G,r,oo,by go_num,rfl,rfl,by rw[bs_,bs_];show s.size+x0.size+1<=_;omega,C,h_ (by rw[<-HE.o,M.o,in_ sm_];rfl),J,B,g⟩
     case measure=>simp[intOf];omega
    |false=>
     go_wp2;go_roundw
     case rel=>exact⟨i+1,b,s++x0,A,c,G,r,oo,by go_num,rfl,rfl,by rw[bs_];omega,C,h_ (by rw[<-HE.o,M.o,in_ sm_];show _=b++Y6_ P.m v (P.l1.drop (i+1)) (s++x0++⟨#[]⟩);rw[kd_]),J,B,g⟩
     case measure=>simp[intOf];omega
theorem QaM_ {l:List ChunkD} {M:Nat} (h:∀c∈l,c.1.size<=M):KB_ l<=l.length * M:=by
 induction l with
 |nil=>exact lz_ _
 |cons c l ih=>
  have h1:=h c sm_;have h2:=ih (fun d hd=>h d (by simp[hd]));rw[show KB_ (c::l)=c.1.size+KB_ l by simp[KB_],List.length_cons,Nat.add_mul];omega
theorem PcR.all {P:Hn} (h:PcR P):KB_ P.l1<=80000000000000:=by
 have h1:=QaM_ h.text;have h2:=h.n1;have h3:P.l1.length * Xj_<=80 * Xj_:=Nat.mul_le_mul_right _ h2;unfold Xj_ at h1 h3;omega
theorem q3_ (b:Int) (w:World):Calls prog 193 #[I_ j_ b] w (RS_ (I_ j_ (Zj_ b)) w):=by
 unfold Zj_;by_cases h1:b < 0
 ·rw[show max 0 (min b 100000)=0 from oo];go_enter func193,ntmps193;go_wp2;go_ret;exact⟨rfl,rfl⟩
 ·by_cases h2:100000 < b
  ·rw[show max 0 (min b 100000)=100000 from oo];go_enter func193,ntmps193;go_wp2;go_ret;exact⟨rfl,rfl⟩
  ·rw[show max 0 (min b 100000)=b from oo];go_enter func193,ntmps193;go_wp2;go_ret;exact⟨rfl,rfl⟩
theorem QdP_ {m:Int} {v:LI} {width:Int} {l:List ChunkD} {i:Nat} {c:ChunkD} (h:l[i]? =some c) (n o:Int) {z:Bool} (hz:(decide (i+1=l.length)||ZE_ v c)=z):Wr_ m v width (l.drop i) n o=if z=true then Wr_ m v width (l.drop (i+1)) (m+c.2.2.2.2) (if width < n+c.1.size then o+(n+c.1.size) - width else o)else Wr_ m v width (l.drop (i+1)) (if c.2.2.2.1=true then n+c.1.size+1 else n+c.1.size) o:=by
 obtain⟨h1,h2⟩:=gs_.1 h;have hd:l.drop (i+1)=[]↔i+1=l.length:=by
  constructor
  ·intro e;have:=congrArg List.length e;simp at this;omega
  ·intro e;exact List.drop_of_length_le oo
 rw[List.drop_eq_getElem_cons h1,h2]
 conv=>lhs;unfold Wr_
 dsimp only;subst hz;by_cases a:i+1=l.length
 ·rw[ip_ (.inl (hd.2 a)),dt_ a,Bool.true_or,ip_ rfl]
 ·rw[df_ a,Bool.false_or]
  cases hs:ZE_ v c with
  |true=>rw[ip_ (.inr rfl),ip_ rfl]
  |false=>rw[in_ (fun h=>h.elim (fun e=>a (hd.1 e)) sm_)];simp only[Bool.false_eq_true,if_false]
theorem Qhy_ {P:Hn} (a:PcR P) (v:LI):Wr_ P.m v (Zj_ P.width) P.l1 P.m 0=Uq_ (Zj_ P.width) (YI_ P.m P.l1 v):=by
 have h1:=QfL_ (m:=P.m) (v:=v) (width:=Zj_ P.width) P.l1 (QK_ P.m) 0 (fun e=>by have:=a.one;rw[e]at this;simp at this) (fun c hc=>by have:=a.nest c hc;have:=a.m;omega);rw[Kc_,Int.zero_add]at h1;have h2:((P.m.toNat:Nat):Int)=P.m:=by have:=a.m;omega
 rw[h2]at h1;exact h1
theorem xC_ (P:Hn) (A0 A1 A2 A3:OA) (c0 c1 c2 c3:Nat) (V:OA) (n cv:Nat) (v:LI) (w:World) (hM:PcM P A0 A1 A2 A3 w) (E:PcR P) (hv:Rd w 1 V n (Qa_ v)) (k:v.length=P.l0.length):
  Calls prog 192 #[A_ (pcCells P A0 A1 A2 A3 c0 c1 c2 c3),S_ V n cv,I_ j_ (Zj_ P.width)] w fun e w'=>e=R_ (I_ j_ (Uq_ (Zj_ P.width) (YI_ P.m P.l1 v)))/\Below w.heap.size w w':=by
 have O:v.length=n:=K2_ hv;have hn:n<=8:=by have:=E.n0;omega
 have HM:=h_ hM;have Y:=h_ E;have HV:=h_ hv;have al:=E.n1;obtain⟨ak,az⟩:=E.m;have M:=E.one;have ac:=h_ (show P.l0.length=n by rw[<-k,O]);have B:=h_ (fun q c' W h1 Z h3 h4=>GG_ P A0 A1 A2 A3 c0 c1 c2 c3 V n cv v q c' W h1 Y.o.toPcOk Z hn h3 h4);obtain⟨T,hT⟩:=ex_ (Uq_ (Zj_ P.width) (YI_ P.m P.l1 v));have HT:=h_ (show Wr_ P.m v (Zj_ P.width) P.l1 P.m 0=T from(Qhy_ E v).trans hT);have Q:0<=Zj_ P.width:=by unfold Zj_;omega
 have R:Zj_ P.width<=100000:=by unfold Zj_;omega
 rw[hT];generalize Zj_ P.width=wd at HT Q R |-
 clear hM E hv O hT k;unfold pcCells at B |-
 obtain⟨N0,D⟩:=ex_ P.l0.length;obtain⟨g,r⟩:=ex_ P.l1.length;obtain⟨N2,J⟩:=ex_ P.l2.length;obtain⟨N3,K⟩:=ex_ P.l3.length;have ax:=h_ D;have f:=h_ r;rw[D,r,J,K]at B |-
 rw[r]at al M;have I:=h_ (show ∀W,Below w.heap.size w W->Rd W 5 A1 g (P.l1.flatMap Qo_)from fun W h=>by rw[<-f.o];exact(HM.o.next h).r1);clear D r J K;have H:=h_ (Blk.new w 149 (pcC P.m A0 N0 c0 A1 g c1 A2 N2 c2 A3 N3 c3));have G:=h_ (show Below w.heap.size w (w.alloc (C_ (pcC P.m A0 N0 c0 A1 g c1 A2 N2 c2 A3 N3 c3) 149))from Ql_ br);go_enter func192,ntmps192;go_wp2;go_loopw [7,8,9] (fun o t x wr=>∃(i:Nat) (y s:Int),i<=g/\x=I_ j_ i/\o=I_ j_ y/\t=I_ j_ s/\0<=y/\y<=100000000000000 * (i:Int)/\0<=s/\s<=200+1000000000001 * (i:Int)/\Hid (Wr_ P.m v wd (P.l1.drop i) s y=T)/\Hid (Blk wr w.heap.size 149 (pcC P.m A0 N0 c0 A1 g c1 A2 N2 c2 A3 N3 c3))/\Hid (Below w.heap.size w wr)) (fun _ _ x _=>g - (intOf x).toNat)
 case atStart=>exact⟨0,0,P.m,lz_ _,rfl,rfl,rfl,oo,oo,ak,oo,h_ (by rw[List.drop_zero];exact HT.o),H,G⟩
 case round=>
  clear H G;obtain⟨i,y,s,ay,rfl,rfl,rfl,aD,aE,aA,aB,C,X,A⟩:=hrel;have L:=A.o.size;obtain⟨q0,q1,q2,q3,q4,U⟩:=Vp_ X.o;by_cases h1:i < g
  ·obtain⟨⟨x0,x1,x2,x3,F⟩,l⟩:∃d,P.l1[i]? =some d:=⟨_,gE (by rw[f.o];omega)⟩;obtain⟨p,off,rfl,hp,y0,y1,y2,y3,y4⟩:=Zk_ (I.o wr A.o) h1 l;have aC:x0.size<=1000000000000:=Y.o.text _ (lm_ l);have S:=Y.o.nest _ (lm_ l);dsimp only at S;obtain⟨ar,av⟩:=S;by_cases Z:i+1=g
   ·have hb:((i:Int)+1==(g:Int))=true:=(by rw[beq_iff_eq];omega);have b:=h_ (QdP_ (m:=P.m) (v:=v) (width:=wd) l s y (z:=true) (by rw[f.o,dt_ Z,Bool.true_or]));clear l;by_cases h5:wd < s+x0.size
    ·go_wp2
     go_region
     go_wp2;go_roundw
     case rel=>exact⟨i+1,y+(s+x0.size) - wd,P.m+F,oo,by go_num,rfl,rfl,oo,oo,oo,oo,h_ (by rw[<-C.o,b.o,ip_ sm_,ip_ h5]),X,h_ (A.o).drew⟩
     case measure=>simp[intOf];omega
    ·go_wp2
     go_region
     go_wp2;go_roundw
     case rel=>exact⟨i+1,y,P.m+F,oo,by go_num,rfl,rfl,oo,oo,oo,oo,h_ (by rw[<-C.o,b.o,ip_ sm_,in_ oo]),X,h_ (A.o).drew⟩
     case measure=>simp[intOf];omega
   ·have hb:((i:Int)+1==(g:Int))=false:=(by rw[bn_];omega);have aj:i+1 < g:=oo;obtain⟨z,hz⟩:=ex_ (ZE_ v (x0,x1,x2,x3,F));have hr:=Y.o.split i _ l (by rw[f.o];exact aj);have HC:=h_ (B.o i _ wr (HM.o.next A.o) (HV.o.next A.o) l ⟨hr.1,by rw[<-ac.o];exact hr.2⟩);have b:=h_ (QdP_ (m:=P.m) (v:=v) (width:=wd) l s y (z:=z) (by rw[f.o,df_ Z,Bool.false_or,hz]));rw[hz]at HC;have ab:=h_ (show ∀W,Below w.heap.size w W->∃b' a,some (⟨p,off,none⟩:Addr)=some ⟨b',a,none⟩/\b' < W.heap.size/\W.cell? ⟨b',a+i * 5,none⟩=some (T_ x0)/\W.cell? ⟨b',a+i * 5+1,none⟩=some (I_ j_ x1)/\W.cell? ⟨b',a+i * 5+2,none⟩=some (I_ j_ x2)/\W.cell? ⟨b',a+i * 5+3,none⟩=some (B_ x3)/\W.cell? ⟨b',a+i * 5+4,none⟩=some (I_ j_ F)from fun W h=>Zk_ (I.o W h) h1 l);clear l hr hz;go_wp2_with fail
    refine HC.o.mono ?_;rintro e w1 ⟨rfl,k1⟩;have j:=h_ (X.o.next k1);have c:=h_ (Qb_ A.o k1);clear HC k1 q0 q1 q2 q3 q4 U y0 y1 y2 y3 y4 hp L;have L:=c.o.size;obtain⟨q0,q1,q2,q3,q4,U⟩:=Vp_ j.o;obtain⟨p',a,e',hp,y0,y1,y2,y3,y4⟩:=ab.o w1 c.o;injection e' with e';injection e' with e1 e2;subst e1;subst e2
    cases z with
    |true=>
     by_cases h5:wd < s+x0.size
     ·go_wp2
      go_region
      go_wp2;go_roundw
      case rel=>exact⟨i+1,y+(s+x0.size) - wd,P.m+F,oo,by go_num,rfl,rfl,oo,oo,oo,oo,h_ (by rw[<-C.o,b.o,ip_ sm_,ip_ h5]),j,h_ (c.o).drew⟩
      case measure=>simp[intOf];omega
     ·go_wp2
      go_region
      go_wp2;go_roundw
      case rel=>exact⟨i+1,y,P.m+F,oo,by go_num,rfl,rfl,oo,oo,oo,oo,h_ (by rw[<-C.o,b.o,ip_ sm_,in_ oo]),j,h_ (c.o).drew⟩
      case measure=>simp[intOf];omega
    |false=>
     cases x3 with
     |true=>
      go_wp2;go_roundw
      case rel=>exact⟨i+1,y,s+x0.size+1,oo,by go_num,rfl,rfl,oo,oo,oo,oo,h_ (by rw[<-C.o,b.o,in_ sm_];rfl),j,c⟩
      case measure=>simp[intOf];omega
     |false=>
      go_wp2;go_roundw
      case rel=>exact⟨i+1,y,s+x0.size,oo,by go_num,rfl,rfl,oo,oo,oo,oo,h_ (by rw[<-C.o,b.o,in_ sm_];rfl),j,c⟩
      case measure=>simp[intOf];omega
  ·obtain rfl:i=g:=oo;have b:Hid (T=y):=h_ (by have:=C.o;rw[List.drop_of_length_le (by rw[f.o];exact lr_ _)]at this;exact this.symm);go_wp2;go_ret;exact⟨Kx_ b.o.symm,A.o⟩
abbrev costC (c:Int × Int):Value:=A_ #[I_ j_ c.1,I_ j_ c.2]
theorem pc_s {w:World} {g h:Nat} {t:TypeId} {m:Int} {A0 A1 A2 A3:OA} {n0 c0 n1 c1 n2 c2 n3 c3:Nat} (hb:Blk w g t (pcC m A0 n0 c0 A1 n1 c1 A2 n2 c2 A3 n3 c3)) (f:g≠h) (i j:Nat) (u v:Value):
  ((w.setCell ⟨h,i,none⟩ u).setCell ⟨h,j,none⟩ v).cell? ⟨g,0,none⟩=some (I_ j_ m)/\((w.setCell ⟨h,i,none⟩ u).setCell ⟨h,j,none⟩ v).cell? ⟨g,1,none⟩=some (S_ A0 n0 c0)/\((w.setCell ⟨h,i,none⟩ u).setCell ⟨h,j,none⟩ v).cell? ⟨g,2,none⟩=some (S_ A1 n1 c1)/\((w.setCell ⟨h,i,none⟩ u).setCell ⟨h,j,none⟩ v).cell? ⟨g,3,none⟩=some (S_ A2 n2 c2)/\((w.setCell ⟨h,i,none⟩ u).setCell ⟨h,j,none⟩ v).cell? ⟨g,4,none⟩=some (S_ A3 n3 c3):=by
 obtain⟨a,b,c,d,e,_⟩:=Vp_ ((hb.far (p:=⟨h,i,none⟩) f u).far (p:=⟨h,j,none⟩) f v);exact⟨a,b,c,d,e⟩
theorem QfM_ {wd:Int} {l:List BA} {i:Nat} {s:BA} (h:l[i]? =some s):Uq_ wd (l.drop i)=max ((s.size:Int) - wd) 0+Uq_ wd (l.drop (i+1))/\szL (l.drop i)=s.size+1+szL (l.drop (i+1)):=by
 obtain⟨h1,h2⟩:=gs_.1 h;rw[List.drop_eq_getElem_cons h1,h2];exact⟨rfl,VP_ _ _⟩
theorem jE_ {P:Hn} (hR:PcR P) (v:LI):szL (YI_ P.m P.l1 v)<=90000000000000:=by
 have h1:=xq_ hR v;have h2:=hR.all;omega
theorem GT_ (P:Hn) (A0 A1 A2 A3:OA) (c0 c1 c2 c3:Nat) (V:OA) (n cv:Nat) (v:LI) (w:World) (hM:PcM P A0 A1 A2 A3 w) (U:PcR P) (hv:Rd w 1 V n (Qa_ v)) (l:ValR P v) (k:v.length=P.l0.length):
  Calls prog 270 #[A_ (pcCells P A0 A1 A2 A3 c0 c1 c2 c3),S_ V n cv,I_ j_ P.width] w (RB_ (costC (P.cost v)) w):=by
 have p:=h_ (jE_ U v);have a:=h_ (fun W h=>JK_ P A0 A1 A2 A3 c0 c1 c2 c3 V n cv v W (hM.next h) U (hv.next h) l);have b:=h_ (fun W h=>V3_ P A0 A1 A2 A3 c0 c1 c2 c3 V n cv v W (hM.next h) U (hv.next h) k);unfold Hn.cost QgP_;generalize hL:YI_ P.m P.l1 v=L at p b |-
 generalize hT:YX_ P.l0 P.l1 P.l2 v=T at a |-
 have R:0<=Zj_ P.width:=by unfold Zj_;omega
 have S:Zj_ P.width<=100000:=by unfold Zj_;omega
 have H:=h_ (show max 0 (min P.width 100000)=Zj_ P.width from rfl);generalize Zj_ P.width=wd at H R S |-
 generalize hO:Uq_ wd L=O;have HO:=h_ hO;clear hM U hv l k hL hT hO;unfold pcCells at a b |-
 generalize P.l0.length=I at a b |-
 generalize P.l1.length=J at a b |-
 generalize P.l2.length=K at a b |-
 generalize P.l3.length=M at a b |-
 have f:=h_ (show Blk ((w.alloc (C_ (pcC P.m A0 I c0 A1 J c1 A2 K c2 A3 M c3) 149)).alloc (C_ #[I_ j_ 0,I_ j_ 0] 182)) w.heap.size 149 (pcC P.m A0 I c0 A1 J c1 A2 K c2 A3 M c3)from(Blk.new _ _ _).alloc _);have j:=h_ (show Blk ((w.alloc (C_ (pcC P.m A0 I c0 A1 J c1 A2 K c2 A3 M c3) 149)).alloc (C_ #[I_ j_ 0,I_ j_ 0] 182)) (w.heap.size+1) 182 #[I_ j_ 0,I_ j_ 0]from by have:=Blk.new (w.alloc (C_ (pcC P.m A0 I c0 A1 J c1 A2 K c2 A3 M c3) 149)) 182 #[I_ j_ 0,I_ j_ 0];rwa[ws_]at this);have d:=h_ (Z3_ w (C_ (pcC P.m A0 I c0 A1 J c1 A2 K c2 A3 M c3) 149) (C_ #[I_ j_ 0,I_ j_ 0] 182));go_enter func270,ntmps270;go_wp2_with fail
 refine(a.o _ d.o).mono ?_;rintro e w1 ⟨rfl,X⟩;replace f:=h_ (f.o.next X);replace j:=h_ (j.o.next X);replace d:=h_ (Qb_ d.o X);clear a X;obtain⟨q0,q1,q2,q3,q4,ak⟩:=Vp_ f.o;have m:=h_ (d.o.alloc d.o.size (C_ #[I_ j_ 0,I_ j_ T] 182));have aa:=h_ (f.o.alloc (C_ #[I_ j_ 0,I_ j_ T] 182));have F:=h_ (j.o.alloc (C_ #[I_ j_ 0,I_ j_ T] 182));have C:=h_ (Blk.new w1 182 #[I_ j_ 0,I_ j_ T]);have ag:w.heap.size+1 < w1.heap.size:=j.o.lt;go_wp2_with fail
 rw[H.o];refine(b.o _ m.o).mono ?_;rintro e w2 h2;obtain⟨A,c,rfl,hm,Y⟩:=h2;have B:=h_ (Qb_ m.o Y);have G:=h_ (F.o.next Y);have o:=h_ (C.o.next Y);have ae:L.length<=90000000000000:=lt_ (Ya_ L) p.o;obtain⟨r,t⟩:=ex_ L.length;rw[t]at ae hm |-
 have D:=h_ t;have q:=h_ (hm.more (by simp:w1.heap.size+1<=_));generalize w1.heap.size=g at o ag q |-
 clear q0 q1 q2 q3 q4 ak f aa j F C d m b Y hm t;go_wp2;go_loopw [21] (fun x wr=>∃(i:Nat) (y:Int),i<=r/\x=I_ j_ i/\0<=y/\y+(szL (L.drop i):Nat)<=90000000000000/\Hid (y+Uq_ wd (L.drop i)=O)/\Hid (Blk wr g 182 #[I_ j_ y,I_ j_ T])/\Hid (Blk wr (w.heap.size+1) 182 #[I_ j_ 0,I_ j_ 0])/\Hid (Mine wr (g+1) 9 1 A r c (Qm_ L))/\Hid (Below w.heap.size w wr)) (fun x _=>r - (intOf x).toNat)
 case atStart=>exact⟨0,0,lz_ _,rfl,oo,by rw[List.drop_zero];have:=p.o;omega,h_ (by rw[List.drop_zero,Int.zero_add];exact HO.o),o,G,q,B⟩
 case round=>
  clear o G q B;obtain⟨i,y,ap,rfl,ar,aj,HE,z,E,HM,Z⟩:=hrel;have ao:=Z.o.size;have d0:wr.cell? ⟨g,0,none⟩=some (I_ j_ y):=z.o.cell 0;have d1:wr.cell? ⟨g,1,none⟩=some (I_ j_ T):=z.o.cell 1;have df:=z.o.frozen;have dl:=z.o.lt;by_cases h1:i < r
  ·obtain⟨s,hs⟩:∃s,L[i]? =some s:=⟨_,gE (by rw[D.o];omega)⟩;obtain⟨b5,al,rfl,am,cs⟩:=Ud_ HM.o.rd h1 hs;obtain⟨N,Q⟩:=QfM_ (wd:=wd) hs;have ac:=h_ N;rw[Q]at aj;clear hs N Q;have aq:(s.size:Int)<=90000000000000:=oo;go_wp2;go_roundw
   case rel=>exact⟨i+1,y+max ((s.size:Int) - wd) 0,oo,by go_num,oo,oo,h_ (by rw[<-HE.o,ac.o];omega),h_ (z.o.set_ 0 (I_ j_ (y+max ((s.size:Int) - wd) 0))),h_ (E.o.far (by dsimp only;omega) _),h_ (Qt_ HM.o z.o dc_ _ _),h_ (Z.o.setCell (by dsimp only;omega) _)⟩
   case measure=>simp[intOf];omega
  ·obtain rfl:i=r:=oo;have ab:Hid (O=y):=h_ (by have:=HE.o;rw[List.drop_of_length_le (by rw[D.o];exact lr_ _)]at this;have e:Uq_ wd []=0:=rfl;omega);have z0:wr.cell? ⟨w.heap.size+1,0,none⟩=some (I_ j_ 0):=E.o.cell 0;have z1:wr.cell? ⟨w.heap.size+1,1,none⟩=some (I_ j_ 0):=E.o.cell 1;have zf:=E.o.frozen;have zl:=E.o.lt;have an:=Z.o;go_wp2_with fail
   refine bodyPost_ret (by simp[results,Tryz.results270,go_sem,z0,z1];try rfl) rfl ?_;exact⟨by rw[ab.o],grow_⟩
theorem xx_ (P:Hn) (A0 A1 A2 A3:OA) (c0 c1 c2 c3:Nat) (V:OA) (n A:Nat) (v:LI) (w:World) (B:PcM P A0 A1 A2 A3 w) (C:PcR P) (D:Rd w 1 V n (Qa_ v)) (f:ValR P v) (c:v.length=P.l0.length):
  Calls prog 141 #[A_ (pcCells P A0 A1 A2 A3 c0 c1 c2 c3),S_ V n A,I_ j_ P.width] w (RB_ (costC (P.cost v)) w):=by
 have b:=h_ (fun W h=>j4_ P A0 A1 A2 A3 c0 c1 c2 c3 V n A v W (B.next h) C (D.next h) f c);have a:=h_ (fun W h=>xC_ P A0 A1 A2 A3 c0 c1 c2 c3 V n A v W (B.next h) C (D.next h) c);have q:=h_ (fun W=>q3_ P.width W);unfold Hn.cost QgP_;generalize YX_ P.l0 P.l1 P.l2 v=T at b |-
 generalize Uq_ (Zj_ P.width) (YI_ P.m P.l1 v)=O at a |-
 generalize Zj_ P.width=wd at a q |-
 clear B C D f c;unfold pcCells at b a |-
 generalize P.l0.length=i at b a |-
 generalize P.l1.length=j at b a |-
 generalize P.l2.length=k at b a |-
 generalize P.l3.length=l at b a |-
 have g:=h_ (show Blk ((w.alloc (C_ (pcC P.m A0 i c0 A1 j c1 A2 k c2 A3 l c3) 149)).alloc (C_ #[I_ j_ 0,I_ j_ 0] 182)).drew w.heap.size 149 (pcC P.m A0 i c0 A1 j c1 A2 k c2 A3 l c3)from(Blk.new _ _ _).alloc _);have p:=h_ (show Blk ((w.alloc (C_ (pcC P.m A0 i c0 A1 j c1 A2 k c2 A3 l c3) 149)).alloc (C_ #[I_ j_ 0,I_ j_ 0] 182)).drew (w.heap.size+1) 182 #[I_ j_ 0,I_ j_ 0]from by have:=Blk.new (w.alloc (C_ (pcC P.m A0 i c0 A1 j c1 A2 k c2 A3 l c3) 149)) 182 #[I_ j_ 0,I_ j_ 0];rwa[ws_]at this);have d:=h_ (Z3_ w (C_ (pcC P.m A0 i c0 A1 j c1 A2 k c2 A3 l c3) 149) (C_ #[I_ j_ 0,I_ j_ 0] 182)).drew;obtain⟨q0,q1,q2,q3,q4,H⟩:=Vp_ g.o;go_enter func141,ntmps141;go_wp2_with fail
 go_region_held3 (fun w'=>w'.cell? ⟨w.heap.size,0,none⟩=some (I_ j_ P.m)/\w'.cell? ⟨w.heap.size,1,none⟩=some (S_ A0 i c0)/\w'.cell? ⟨w.heap.size,2,none⟩=some (S_ A1 j c1)/\w'.cell? ⟨w.heap.size,3,none⟩=some (S_ A2 k c2)/\w'.cell? ⟨w.heap.size,4,none⟩=some (S_ A3 l c3))
  (first|exact⟨q0,q1,q2,q3,q4⟩|exact⟨u0,u1,u2,u3,u4⟩|exact⟨v0,v1,v2,v3,v4⟩|exact pc_s y.o oo _ _ _ _|exact pc_s z.o oo _ _ _ _)
  (first
   |(go_at_call 193;refine(q.o _).mono ?_;rintro e E ⟨rfl,rfl⟩)
   |(
    go_at_call 192;refine(a.o _ (by first|exact x.o|exact d.o)).mono ?_;rintro e w8 ⟨rfl,m⟩;have y:=h_ (by first|exact z.o.next m|exact g.o.next m);have r:=h_ (by first|exact s.o.next m|exact p.o.next m);have t:=h_ (by first|exact Qb_ x.o m|exact Qb_ d.o m);obtain⟨u0,u1,u2,u3,u4,I⟩:=Vp_ y.o;have z0:w8.cell? ⟨w.heap.size+1,0,none⟩=some (I_ j_ 0):=r.o.cell 0;have z1:w8.cell? ⟨w.heap.size+1,1,none⟩=some (I_ j_ 0):=r.o.cell 1;have zf:=r.o.frozen;have zl:=r.o.lt)
   |(
    go_at_call 194;refine(b.o _ (by first|exact t.o|exact d.o)).mono ?_;rintro e E ⟨rfl,o⟩;have z:=h_ (by first|exact y.o.next o|exact g.o.next o);have s:=h_ (by first|exact r.o.next o|exact p.o.next o);have x:=h_ (by first|exact Qb_ t.o o|exact Qb_ d.o o);obtain⟨v0,v1,v2,v3,v4,J⟩:=Vp_ z.o;have y0:E.cell? ⟨w.heap.size+1,0,none⟩=some (I_ j_ 0):=s.o.cell 0;have y1:E.cell? ⟨w.heap.size+1,1,none⟩=some (I_ j_ 0):=s.o.cell 1;have yf:=s.o.frozen;have yl:=s.o.lt))
 all_goals (have F:=t.o;have G:=x.o;go_wp2_with fail;first|(refine bodyPost_ret (by simp[results,Tryz.results141,go_sem,z0,z1];try rfl) rfl ?_;exact⟨rfl,grow_⟩)|(refine bodyPost_ret (by simp[results,Tryz.results141,go_sem,y0,y1];try rfl) rfl ?_;exact⟨rfl,grow_⟩))
end Go.Proofs.YtbiijipkgfpgoaaGreatDoor

/-
  Put together by program.
-/
import Derived.Test.YtbiijipkgfpgoaaGreatDoorMfW
import Derived.Test.YtbiijipkgfpgoaaGreatDoorMfV
set_option maxRecDepth 100000
set_option linter.all false
set_option maxHeartbeats 25600000
open Go.Proofs.Tryz
open Go.Value renaming int→I_,slice→S_,string→T_,bool→B_,pointer→P_,agg→A_,tuple→U_
open Go.IntKind renaming i64→j_
open Go.Obj renaming cells→C_
open Go.Ending renaming returned→R_
namespace Go.Proofs.YtbiijipkgfpgoaaGreatDoor
open Go.RowKit
theorem XJ_ {w:World} {g h k:Nat} {x:Value} (hc:w.cell? ⟨g,k,none⟩=some x) (a:g≠h) (i j:Nat) (u v:Value):((w.setCell ⟨h,i,none⟩ u).setCell ⟨h,j,none⟩ v).cell? ⟨g,k,none⟩=some x:=by
 have e:∀(i:Nat) (w:World) (u:Value),(w.setCell ⟨h,i,none⟩ u).cell? ⟨g,k,none⟩=w.cell? ⟨g,k,none⟩:=fun i w u=>World.cell?_setCell_other _ _ _ _ (by intro e;injection e with e _ _;exact a e.symm)
 rw[e,e];exact hc
theorem WrM.far {D:WD} {s:Ws} {w:World} {g:Nat} {cs:Array Value} (h:WrM D s w) (hb:Blk w g 61 cs) (hg:D.w0.heap.size<=g) (i:Nat) (u:Value):WrM D s (w.setCell ⟨g,i,none⟩ u):=by
 obtain⟨A,c,h⟩:=h;have a:61≠wty D.imp:=by cases D.imp<;>decide
 exact⟨A,c,h.blk.far (Kj_ h.blk hb (Ne.symm a)) u,Qt_ h.row hb dc_ _ _,h.bT,h.old.setCell hg _⟩
theorem WrM.app {D:WD} {s:Ws} {W:World} (h:WrM D s W) (ls:List BA) (n:Nat) (hn:s.1.length+ls.length=n):∃A c,Hid (Mine W D.w0.heap.size 9 1 A s.1.length c (Qm_ s.1))/\W.cell? ⟨D.T,3,none⟩=some (S_ A s.1.length c)/\D.w0.heap.size<=W.heap.size/\
  Hid (∀A' c' w',Hid (Mine w' D.w0.heap.size 9 1 A' n c' (Qm_ (s.1++ls)))->Hid (W.heap.size<=w'.heap.size/\∀g t cs,Blk W g t cs->t≠9->Blk w' g t cs)->Hid (∀w0,Below D.w0.heap.size w0 W->Below D.w0.heap.size w0 w')->w'.cell? ⟨D.T,3,none⟩=some (S_ A s.1.length c)/\(∀i,w'.frozen? ⟨D.T,i,none⟩=false)/\D.T < w'.heap.size/\Hid (WrM D (s.1++ls,s.2) (w'.setCell ⟨D.T,3,none⟩ (S_ A' n c'))/\Kb W (w'.setCell ⟨D.T,3,none⟩ (S_ A' n c')))/\Hid (∀g cs,Blk W g 61 cs->Blk (w'.setCell ⟨D.T,3,none⟩ (S_ A' n c')) g 61 cs)):=by
 obtain⟨A,c,h⟩:=h;refine⟨A,c,h.row,h.blk.cell 3,h.old.size,fun A' c' w' m k b=>?_⟩;obtain⟨k0,k1,k2⟩:=h.put (ls:=ls) (by rw[lA];exact hn.symm) m.o k.o b.o;have a:61≠wty D.imp:=by cases D.imp<;>decide
 exact⟨k0.cell 3,k0.frozen,k0.lt,⟨⟨A',c',k1⟩,k2⟩,fun g cs hb=>(k.o.2 g _ cs hb dc_).far (Kj_ (k.o.2 g _ cs hb dc_) k0 a) _⟩
theorem xU_ {F:FuncId} {D:WD} {f:Nat} (g:WK F D f) {s:Ws} {c b:BA} {q:Nat} {a:Int} (ha:0<=a/\a<=26) (j:okW D.Q f a (.val c (q:Int) b)) (hz:szL s.1+wE 2100000 D.Q.ps (.val c (q:Int) b)<=632000000):∃(P:Hn) (N:Nat) (L:List BA) (st:Int) (v:LI),(KZ_ D.Q c (q:Int) b a=P/\PcR P/\okP P=true/\P.width=D.Q.width)/\(D.Q.budget=(N:Int)/\N<=100000)/\KU_ P (N:Int)=(v,st)/\YI_ P.m P.l1 v=L/\(st=1\/st=2)/\v.length=P.l0.length/\valW D.Q s c (q:Int) b a=WX_ s L st/\szL s.1+szL L<=632000000/\q < D.Q.m+1/\Kk_ D.Q.ps q<=300:=by
 obtain⟨⟨h1,h2⟩,⟨h3,h4⟩,h5,h6⟩:=j;have hf:=g.hf;have l:szL s.1+(10000+c.size+b.size+Kk_ D.Q.ps (q:Int).toNat * 2100000)<=632000000:=hz;obtain⟨hR,hS⟩:=UM_ g.K 2100000 (lr_ _) s (a:=a) ⟨ha.1,oo⟩ h1 h2 h4 (k:=(q:Int)) oo h6 oo;have hO:okP (KZ_ D.Q c (q:Int) b a)=true:=qM_ (VD_ g.K.F (lr_ _) h1 (show q < D.Q.m+1 from oo) h6) ⟨ha.1,oo⟩ h3;obtain⟨N,hN⟩:=eo_ g.B.1;have h:=G6_ (KZ_ D.Q c (q:Int) b a) (N:Int);have i:=(G5_ hR (N:Int)).2;rw[it_]at l;obtain⟨R,e⟩:=ex_ (KU_ (KZ_ D.Q c (q:Int) b a) (N:Int));have d:valW D.Q s c (q:Int) b a=WX_ s (YI_ (KZ_ D.Q c (q:Int) b a).m (KZ_ D.Q c (q:Int) b a).l1 R.1) R.2:=by unfold valW;dsimp only;rw[hN,e]
 rw[e]at h i;refine⟨KZ_ D.Q c (q:Int) b a,N,YI_ (KZ_ D.Q c (q:Int) b a).m (KZ_ D.Q c (q:Int) b a).l1 R.1,R.2,R.1,⟨rfl,hR,hO,rfl⟩,⟨hN,by have:=g.B.2;omega⟩,e,rfl,h,i,d,?_,oo,oo⟩;rw[d,Va_]at hS;rw[show wE 2100000 D.Q.ps (.val c (q:Int) b)=10000+c.size+b.size+Kk_ D.Q.ps q * 2100000 from rfl]at hS;omega
theorem kJ_ (D:WD) (hi:D.imp=true) {f:Nat} (hK:WK 104 D f) (s:Ws) (x i:BA) (q:Nat) (a:Int) (W:World) (h:WrM D s W) (ha:0<=a/\a<=26) (am:okW D.Q f a (.val x (q:Int) i)) (hz:szL s.1+wE 2100000 D.Q.ps (.val x (q:Int) i)<=632000000):
    Calls prog 124 #[P_ (some ⟨D.T,0,none⟩),T_ x,I_ j_ (q:Int),T_ i,I_ j_ a] W (WrR D (valW D.Q s x (q:Int) i a) W):=by
  obtain⟨P,N,L,st,v,⟨hP,hR,hO,ao⟩,⟨hN,r⟩,hv,hL,aC,_,H,aP,aB,ai⟩:=xU_ hK ha am hz;obtain⟨⟨h1,h2⟩,⟨h3,h4⟩,h5,h6⟩:=am;have O:=h_ (fun W h=>U2_ D.Q hK.K D.A D.c q x i a W h aB h6 h1 h2 h3 h4 ⟨ha.1,oo⟩ ai);rw[hP]at O;have j:=h_ (fun A0 A1 A2 A3 c0 c1 c2 c3 W hM=>W9_ P A0 A1 A2 A3 c0 c1 c2 c3 N W hM hR hO r);rw[hv]at j;dsimp only at j;rw[hL,ao,<-hN]at j;rw[H];have ag:=h_ (hK.P.next h.old);have HW:=h_ h;obtain⟨u0,u1,u2,u4,uf,uz⟩:=h.cells;have aN:=Ya_ L;have aO:=Ya_ s.1;clear hK hz hP hR hO hv hL H h1 h2 h3 h4 h5 h6 h ao hN;unfold pcCells at j;obtain⟨Y,R⟩:=ex_ P.l0.length;obtain⟨Z,r⟩:=ex_ P.l1.length;obtain⟨N2,S⟩:=ex_ P.l2.length;obtain⟨N3,T⟩:=ex_ P.l3.length;have HE:=h_ (fun A0 A1 A2 A3 c0 c1 c2 c3=>show pcCells P A0 A1 A2 A3 c0 c1 c2 c3=pcC P.m A0 Y c0 A1 Z c1 A2 N2 c2 A3 N3 c3 by unfold pcCells;rw[R,r,S,T]);rw[R,r,S,T]at j;clear R r S T;go_enter func124,ntmps124;go_wp2_with fail
  refine(O.o _ ag.o).mono ?_;rintro e w1 ⟨A0,A1,A2,A3,c0,c1,c2,c3,rfl,an,m⟩;rw[HE.o];have U:Below W.heap.size W (w1.alloc (C_ (pcC P.m A0 Y c0 A1 Z c1 A2 N2 c2 A3 N3 c3) 149)):=Qb_ m (Ql_ br);have ak:Below w1.heap.size w1 (w1.alloc (C_ (pcC P.m A0 Y c0 A1 Z c1 A2 N2 c2 A3 N3 c3) 149)):=Ql_ br;have o:=h_ (HW.o.next U);have I:=h_ U;have y:=h_ (an.pcM.next ak);have Q:=h_ (Blk.new w1 149 (pcC P.m A0 Y c0 A1 Z c1 A2 N2 c2 A3 N3 c3));clear u0 u1 u2 u4 uf uz an m U ak HW ag O;go_upto_region 5 with fail
  generalize w1.alloc (C_ (pcC P.m A0 Y c0 A1 Z c1 A2 N2 c2 A3 N3 c3) 149)=b at *;obtain⟨u0,u1,u2,u4,uf,uz⟩:=o.o.cells;obtain⟨q0,q1,q2,q3,q4,aD⟩:=Vp_ Q.o;have n1:w1.heap.size≠b.heap.size:=oo;have n2:D.T≠b.heap.size:=oo
  go_region_held3 (fun w'=>w'.cell? ⟨w1.heap.size,0,none⟩=some (I_ j_ P.m)/\w'.cell? ⟨w1.heap.size,1,none⟩=some (S_ A0 Y c0)/\w'.cell? ⟨w1.heap.size,2,none⟩=some (S_ A1 Z c1)/\w'.cell? ⟨w1.heap.size,3,none⟩=some (S_ A2 N2 c2)/\w'.cell? ⟨w1.heap.size,4,none⟩=some (S_ A3 N3 c3)/\w'.cell? ⟨D.T,1,none⟩=some (I_ j_ D.Q.width)/\w'.cell? ⟨D.T,2,none⟩=some (I_ j_ D.Q.budget))
    (first|exact⟨q0,q1,q2,q3,q4,u1,u2⟩|exact⟨v0,v1,v2,v3,v4,y1,y2⟩|exact⟨XJ_ v0 n1 _ _ _ _,XJ_ v1 n1 _ _ _ _,XJ_ v2 n1 _ _ _ _,XJ_ v3 n1 _ _ _ _,XJ_ v4 n1 _ _ _ _,XJ_ y1 n2 _ _ _ _,XJ_ y2 n2 _ _ _ _⟩|go_keep)
    (first
      |(go_at_call 179;refine(j.o A0 A1 A2 A3 c0 c1 c2 c3 _ (by first|exact y.o|exact y.o.next br.drew|exact y.o.next (show Below b.heap.size b (b.alloc _).drew from(Ql_ br).drew))).mono ?_;rintro e w3 ⟨k,l,rfl,hm,m⟩;have V:Below b.heap.size b w3:=(by first|exact m|exact br.drew.trans m|exact Qb_ (show Below b.heap.size b (b.alloc _).drew from(Ql_ br).drew) m);have M:Hid (Mine w3 D.w0.heap.size 9 1 k L.length l (Qm_ L)):=h_ (hm.more (lt_ o.o.old.size (by first|exact lr_ _|exact(show Below b.heap.size b (b.alloc _).drew from(Ql_ br).drew).size)));have C:=h_ (o.o.next V);have J:=h_ (Qb_ I.o V);obtain⟨v0,v1,v2,v3,v4,aJ⟩:=Vp_ (Q.o.next V);obtain⟨y0,y1,y2,y4,yf,yz⟩:=C.o.cells;try (have d:Hid (Blk w3 b.heap.size 61 #[S_ none 0 0,I_ j_ 0]):=h_ ((Blk.new b 61 #[S_ none 0 0,I_ j_ 0]).next (br.drew.trans m));have k0:w3.cell? ⟨b.heap.size,0,none⟩=some (S_ none 0 0):=d.o.cell 0;have k1:w3.cell? ⟨b.heap.size,1,none⟩=some (I_ j_ 0):=d.o.cell 1;have kf:=d.o.frozen;have kz:=d.o.lt)))
  all_goals
    have al:=o.o.old.size
    first
    |(have K:Hid (Blk ((w3.setCell ⟨b.heap.size,0,none⟩ (S_ k L.length l)).setCell ⟨b.heap.size,1,none⟩ (I_ j_ st)) b.heap.size 61 #[S_ k L.length l,I_ j_ st]):=h_ ((d.o.set_ 0 (S_ k L.length l)).set_ 1 (I_ j_ st));have E:=h_ ((C.o.far d.o al 0 (S_ k L.length l)).far (d.o.set_ 0 (S_ k L.length l)) al 1 (I_ j_ st));have z:=h_ (Qt_ (Qt_ M.o d.o dc_ 0 (S_ k L.length l)) (d.o.set_ 0 (S_ k L.length l)) dc_ 1 (I_ j_ st));have ac:=h_ ((J.o.setCell (p:=⟨b.heap.size,0,none⟩) I.o.size (S_ k L.length l)).setCell (p:=⟨b.heap.size,1,none⟩) I.o.size (I_ j_ st));generalize (w3.setCell ⟨b.heap.size,0,none⟩ (S_ k L.length l)).setCell ⟨b.heap.size,1,none⟩ (I_ j_ st)=W5 at *;generalize b.heap.size=g at K |-)
    |(have K:=h_ (Blk.new w3 61 #[S_ k L.length l,I_ j_ st]);have G:Below w3.heap.size w3 (w3.alloc (C_ #[S_ k L.length l,I_ j_ st] 61)):=Ql_ br;have E:=h_ (C.o.next G);have z:=h_ (M.o.next G);have ac:=h_ (Qb_ J.o G);clear G;generalize w3.alloc (C_ #[S_ k L.length l,I_ j_ st] 61)=W5 at *;generalize w3.heap.size=g at K |-)
    clear v0 v1 v2 v3 v4 aJ y0 y1 y2 y4 yf yz q0 q1 q2 q3 q4 aD u0 u1 u2 u4 uf uz C M J o Q y j n1 n2;obtain⟨n1,X⟩:=ex_ s.1.length;obtain⟨A5,c5,B,x3,aj,n⟩:=E.o.app L (n1+L.length) (by rw[X]);obtain⟨x0,x1,x2,x4,xf,xz⟩:=E.o.cells;have g0:W5.cell? ⟨g,0,none⟩=some (S_ k L.length l):=K.o.cell 0;have gz:=K.o.lt;have aM:n1+L.length<=632000000:=oo;rw[X]at B x3 n;clear X x0 x1 x2 x4;go_upto_region 6 with fail
    go_region_law
      (refine z1_ (.tmp 59) (.tmp 61) (by first|exact B.o.drew|exact B.o) (by first|exact z.o.drew|exact z.o) aj rfl rfl ev_ ev_ oo ?_
       intro A6 c6 w6 M6 K6 B6;obtain⟨j3,jf,jz,F,ad⟩:=n.o A6 c6 w6 M6 (h_ ⟨K6.o.1,fun g t cs m ht=>K6.o.2 g t cs m ht⟩) (h_ (fun w0 m=>B6.o w0 (by first|exact m.drew|exact m))))
    all_goals
      have ae:=h_ (ad.o _ _ K.o);clear ad K n B z x3 xf xz g0 gz aj E j3 jf jz;generalize w6.setCell ⟨D.T,3,none⟩ (S_ A6 (n1+L.length) c6)=W7 at *;obtain⟨u0,u1,u2,u4,uf,uz⟩:=F.o.1.cells;have g1:W7.cell? ⟨g,1,none⟩=some (I_ j_ st):=ae.o.cell 1;have gz:=ae.o.lt;have af:=h_ ((Kb.below ac.o).trans F.o.2);rcases aC with rfl|rfl
      · go_wp2
        go_end0;exact⟨rfl,F.o.1,af.o⟩
      · have ah:Hid (WrM D (WX_ s L 2) (W7.setCell ⟨D.T,4,none⟩ (I_ j_ 2))/\Kb W7 (W7.setCell ⟨D.T,4,none⟩ (I_ j_ 2))):=h_ (by
          obtain⟨A,c,h⟩:=F.o.1;exact⟨⟨A,c,(h.state 2).1⟩,(h.state 2).2⟩)
        go_wp2;go_end0;exact⟨rfl,ah.o.1,af.o.trans ah.o.2⟩
theorem xF_ (D:WD) (hi:D.imp=false) {f:Nat} (hK:WK 78 D f) (s:Ws) (r d:BA) (q:Nat) (a:Int) (W:World) (h:WrM D s W) (ha:0<=a/\a<=26) (al:okW D.Q f a (.val r (q:Int) d)) (hz:szL s.1+wE 2100000 D.Q.ps (.val r (q:Int) d)<=632000000):
  Calls prog 98 #[P_ (some ⟨D.T,0,none⟩),I_ j_ (q:Int),T_ r,T_ d,I_ j_ a] W (WrR D (valW D.Q s r (q:Int) d a) W):=by
 obtain⟨P,N,L,st,v,⟨hP,hR,hO,an⟩,⟨hN,o⟩,hv,hL,aH,p,F,aN,aG,ag⟩:=xU_ hK ha al hz;obtain⟨⟨h1,h2⟩,⟨h3,h4⟩,h5,h6⟩:=al;have I:=h_ (fun W h=>WK_ D.Q hK.K D.A D.c q r d a W h aG h6 h1 h2 h3 h4 ⟨ha.1,oo⟩ ag);rw[hP]at I;have l:=h_ (fun A0 A1 A2 A3 c0 c1 c2 c3 W hM=>zf_ P A0 A1 A2 A3 c0 c1 c2 c3 N W hM hR hO o);rw[hv,an,<-hN]at l;have k:=h_ (fun A0 A1 A2 A3 c0 c1 c2 c3 W hM V n E hr=>ze_ P A0 A1 A2 A3 c0 c1 c2 c3 V n E v W hM hR hr p);rw[hL]at k;rw[F];have ad:=h_ (hK.P.next h.old);have HW:=h_ h;obtain⟨u0,u1,u2,u4,uf,uz⟩:=h.cells;have aL:=Ya_ L;have aM:=Ya_ s.1;clear hK hz hP hR hO hv hL F h1 h2 h3 h4 h5 h6 h an hN p;unfold pcCells at l k;obtain⟨X,O⟩:=ex_ P.l0.length;obtain⟨Y,o⟩:=ex_ P.l1.length;obtain⟨Z,Q⟩:=ex_ P.l2.length;obtain⟨N3,R⟩:=ex_ P.l3.length;have HE:=h_ (fun A0 A1 A2 A3 c0 c1 c2 c3=>show pcCells P A0 A1 A2 A3 c0 c1 c2 c3=pcC P.m A0 X c0 A1 Y c1 A2 Z c2 A3 N3 c3 by unfold pcCells;rw[O,o,Q,R]);rw[O,o,Q,R]at l k;clear O o Q R;go_enter func98,ntmps98;go_wp2_with fail
 refine(I.o _ ad.o).mono ?_;rintro e w1 ⟨A0,A1,A2,A3,c0,c1,c2,c3,rfl,am,C⟩;rw[HE.o];have S:Below W.heap.size W (w1.alloc (C_ (pcC P.m A0 X c0 A1 Y c1 A2 Z c2 A3 N3 c3) 149)):=Qb_ C (Ql_ br);have ai:Below w1.heap.size w1 (w1.alloc (C_ (pcC P.m A0 X c0 A1 Y c1 A2 Z c2 A3 N3 c3) 149)):=Ql_ br;have J:=h_ (HW.o.next S);have ab:=h_ S;have x:=h_ (am.pcM.next ai);have M:=h_ (Blk.new w1 149 (pcC P.m A0 X c0 A1 Y c1 A2 Z c2 A3 N3 c3));clear u0 u1 u2 u4 uf uz am C S ai HW ad I;go_upto_region 3 with fail
 generalize w1.alloc (C_ (pcC P.m A0 X c0 A1 Y c1 A2 Z c2 A3 N3 c3) 149)=W2 at *;obtain⟨u0,u1,u2,u4,uf,uz⟩:=J.o.cells;obtain⟨q0,q1,q2,q3,q4,U⟩:=Vp_ M.o;go_cut [12,13] (fun a b wx=>∃(V:OA) (n E:Nat),a=S_ V n E/\b=I_ j_ st/\n<=8/\Hid (Rd wx 1 V n (Qa_ v))/\Hid (Below W2.heap.size W2 wx))
 case first=>
  go_region_with (go_at_call 115;refine(l.o A0 A1 A2 A3 c0 c1 c2 c3 _ (by first|exact x.o|exact x.o.next br.drew)).mono ?_;rintro e w3 ⟨V,n,E,rfl,ak,hm,C⟩;have aF:Hid (Below W2.heap.size W2 w3):=h_ (by first|exact C|exact br.drew.trans C);have m:=h_ hm.rd)
  all_goals
   go_wp2_with fail
   go_meet;exact⟨V,n,E,rfl,rfl,ak,m,aF⟩
 case rest=>
 obtain⟨V,n,E,rfl,rfl,ak,m,i⟩:=hcut;have G:=h_ (x.o.next i.o);have K:=h_ (J.o.next i.o);have ae:=h_ (M.o.next i.o);have aA:=h_ (Qb_ ab.o i.o);clear q0 q1 q2 q3 q4 U u0 u1 u2 u4 uf uz J M x ab l i;obtain⟨n1,T⟩:=ex_ s.1.length;obtain⟨A5,c5,H,x3,B,j⟩:=K.o.app L (n1+L.length) (by rw[T]);obtain⟨x0,x1,x2,x4,xf,xz⟩:=K.o.cells;obtain⟨q0,q1,q2,q3,q4,U⟩:=Vp_ ae.o;have aK:n1+L.length<=632000000:=oo;rw[T]at H x3 j;clear T x0 x1 x2 x4;go_upto_region 4 with fail
 go_region_law (first
  |(
    have _s:=z;refine z1_ (.tmp 58) (.tmp 61) M4.o N4.o aj rfl rfl ev_ ev_ oo ?_;intro A6 c6 w6 M6 K6 B6;obtain⟨j3,jf,jz,y,aB⟩:=j.o A6 c6 w6 M6 (h_ ⟨lt_ z.o.size K6.o.1,fun g t cs C ht=>K6.o.2 g t cs (C.next z.o) ht⟩) (h_ (fun w0 C=>B6.o w0 (Je_ C z.o B))))
  |(
    refine GJ_ rfl 116 func116 nr_ nr_ _ _ rfl #[A_ (pcC P.m A0 X c0 A1 Y c1 A2 Z c2 A3 N3 c3),S_ V n E] ev_ (k.o A0 A1 A2 A3 c0 c1 c2 c3 _ (by first|exact G.o|exact G.o.next br.drew) V n E (by first|exact m.o.drew|exact m.o)) ?_;rintro e w4 ⟨A4,c4,rfl,m4,h4⟩;refine⟨_,rfl,?_⟩;have z:=h_ (show Below wc.heap.size wc w4 by first|exact h4|exact br.drew.trans h4);have M4:=h_ (H.o.next z.o);have N4:=h_ (m4.more (show D.w0.heap.size<=wc.heap.size from B));have k3:=((QW_ z.o).1 _ 3 xz).trans x3;have kz:=ll_ xz z.o.size;have aj:=lt_ B z.o.size))
 all_goals
  clear j H x3 xf xz B K j3 jf jz q0 q1 q2 q3 q4 U ae G m k k3 kz aj M4 N4 z aB;generalize w6.setCell ⟨D.T,3,none⟩ (S_ A6 (n1+L.length) c6)=W7 at *;obtain⟨u0,u1,u2,u4,uf,uz⟩:=y.o.1.cells;have ac:=h_ ((Kb.below aA.o).trans y.o.2);rcases aH with rfl|rfl
  ·go_wp2;go_end0;exact⟨rfl,y.o.1,ac.o⟩
  ·have af:Hid (WrM D (WX_ s L 2) (W7.setCell ⟨D.T,4,none⟩ (I_ j_ 2))/\Kb W7 (W7.setCell ⟨D.T,4,none⟩ (I_ j_ 2))):=h_ (by
     obtain⟨A,c,h⟩:=y.o.1;exact⟨⟨A,c,(h.state 2).1⟩,(h.state 2).2⟩)
   go_wp2;go_end0;exact⟨rfl,af.o.1,ac.o.trans af.o.2⟩
section
variable {D:WD} {f:Nat} {fin s:Ws} {a:Int} {es:List Wv} {w W:World} {R:Ending->World->Prop}
theorem Wt.iline {t:BA} (hi:D.imp=true) (H:Hid (Wt 104 D f fin w a s (.line t::es) W)) (k:∀s1 W1,Hid (Wt 104 D f fin w a s1 es W1)->R (R_ (U_ #[])) W1):Calls prog 123 #[P_ (some ⟨D.T,0,none⟩),I_ j_ a,T_ t] W R:=by
 have hz:szL s.1+(61+t.size)<=632000000:=H.o.size;refine(Qae_ D hi s a t W H.o.M ⟨H.o.ha.1,by have:=H.o.ha;omega⟩ oo).mono ?_;rintro e w1 ⟨rfl,h1,h2⟩;exact k _ w1 (h_ (H.o.jump rfl h1 h2))
theorem Wt.sline {t:BA} (hi:D.imp=false) (H:Hid (Wt 78 D f fin w a s (.line t::es) W)) (k:∀s1 W1,Hid (Wt 78 D f fin w a s1 es W1)->R (R_ (U_ #[])) W1):Calls prog 96 #[P_ (some ⟨D.T,0,none⟩),I_ j_ a,T_ t] W R:=by
 have hz:szL s.1+(61+t.size)<=632000000:=H.o.size;refine(Qaz_ D hi s a t W H.o.M ⟨H.o.ha.1,by have:=H.o.ha;omega⟩ oo).mono ?_;rintro e w1 ⟨rfl,h1,h2⟩;exact k _ w1 (h_ (H.o.jump rfl h1 h2))
theorem Wt.ival {c b:BA} {q:Nat} (hi:D.imp=true) (H:Hid (Wt 104 D f fin w a s (.val c (q:Int) b::es) W)) (hq:q < f) (hv:QI_ (Qc_ D.Q.ps (q:Int))) (k:∀s1 W1,Hid (Wt 104 D f fin w a s1 es W1)->R (R_ (U_ #[])) W1):Calls prog 124 #[P_ (some ⟨D.T,0,none⟩),T_ c,I_ j_ (q:Int),T_ b,I_ j_ a] W R:=by
 refine(kJ_ D hi H.o.K s c b q a W H.o.M H.o.ha (H.o.O _ sm_) H.o.size).mono ?_;rintro e w1 ⟨rfl,h1,h2⟩;exact k _ w1 (h_ (H.o.jump rfl h1 h2))
theorem Wt.sval {c b:BA} {q:Nat} (hi:D.imp=false) (H:Hid (Wt 78 D f fin w a s (.val c (q:Int) b::es) W)) (hq:q < f) (hv:QI_ (Qc_ D.Q.ps (q:Int))) (k:∀s1 W1,Hid (Wt 78 D f fin w a s1 es W1)->R (R_ (U_ #[])) W1):Calls prog 98 #[P_ (some ⟨D.T,0,none⟩),I_ j_ (q:Int),T_ c,T_ b,I_ j_ a] W R:=by
 refine(xF_ D hi H.o.K s c b q a W H.o.M H.o.ha (H.o.O _ sm_) H.o.size).mono ?_;rintro e w1 ⟨rfl,h1,h2⟩;exact k _ w1 (h_ (H.o.jump rfl h1 h2))
theorem Wt.iblock {q:Nat} (hi:D.imp=true) (H:Hid (Wt 104 D f fin w a s (.all (QC_ D.Q.ps (q:Int))::es) W)) (hq:q < f) (k:∀s1 W1,Hid (Wt 104 D f fin w a s1 es W1)->R (R_ (U_ #[])) W1):Calls prog 125 #[P_ (some ⟨D.T,0,none⟩),I_ j_ (q:Int),I_ j_ a] W R:=by
 refine(qo_ D hi H.o.K s a q W H.o.M (by have:=H.o.K.hf;omega) (H.o.O _ sm_) H.o.ha H.o.size).mono ?_;rintro e w1 ⟨rfl,h1,h2⟩;exact k _ w1 (h_ (H.o.jump rfl h1 h2))
theorem Wt.sblock {q:Nat} (hi:D.imp=false) (H:Hid (Wt 78 D f fin w a s (.all (QC_ D.Q.ps (q:Int))::es) W)) (hq:q < f) (k:∀s1 W1,Hid (Wt 78 D f fin w a s1 es W1)->R (R_ (U_ #[])) W1):Calls prog 99 #[P_ (some ⟨D.T,0,none⟩),I_ j_ (q:Int),I_ j_ a] W R:=by
 refine(qY_ D hi H.o.K s a q W H.o.M (by have:=H.o.K.hf;omega) (H.o.O _ sm_) H.o.ha H.o.size).mono ?_;rintro e w1 ⟨rfl,h1,h2⟩;exact k _ w1 (h_ (H.o.jump rfl h1 h2))
theorem Wt.iall {l:LI} {A':OA} {c':Nat} (hi:D.imp=true) (H:Hid (Wt 104 D f fin w a s (.all l::es) W)) (hr:Rd D.w0 1 A' l.length (Qa_ l)) (hl:l.length<=12) (k:∀s1 W1,Hid (Wt 104 D f fin w a s1 es W1)->R (R_ (U_ #[])) W1):Calls prog 81 #[P_ (some ⟨D.T,0,none⟩),S_ A' l.length c',I_ j_ (a+2)] W R:=by
 refine(Jh_ D hi H.o.K _ s (a+2) A' l.length c' l W rfl oo hr (Mt.start H.o.K H.o.M (H.o.O _ sm_) H.o.ha.1 rfl H.o.size)).mono ?_;rintro e w1 ⟨rfl,h1,h2⟩;exact k _ w1 (h_ (H.o.jump rfl h1 h2))
theorem Wt.sall {l:LI} {A':OA} {c':Nat} (hi:D.imp=false) (H:Hid (Wt 78 D f fin w a s (.all l::es) W)) (hr:Rd D.w0 1 A' l.length (Qa_ l)) (hl:l.length<=12) (k:∀s1 W1,Hid (Wt 78 D f fin w a s1 es W1)->R (R_ (U_ #[])) W1):Calls prog 56 #[P_ (some ⟨D.T,0,none⟩),S_ A' l.length c',I_ j_ (a+2)] W R:=by
 refine(Vv_ D hi H.o.K _ s (a+2) A' l.length c' l W rfl oo hr (Mt.start H.o.K H.o.M (H.o.O _ sm_) H.o.ha.1 rfl H.o.size)).mono ?_;rintro e w1 ⟨rfl,h1,h2⟩;exact k _ w1 (h_ (H.o.jump rfl h1 h2))
end
theorem Qa0_ (A:OA) (m c:Nat) (ps:List PN) (A':OA) (c':Nat) (l:LI) (v9:Int) (kd:Int) (t:BA) (z:Bool) (W:World) (hP:Nps W A m ps) (I:PNs ps) (hm:l.length<=11) (M:t.size<=1048576) (hr:Rd W 1 A' (l.length+1) (Qa_ (l++[v9]))) (X:l.length+1<=c') (hv:Hid (∀v∈l,0<=v/\v < (m:Int))) (ag:m<=300):
  Calls prog 126 #[S_ A m c,A_ #[I_ j_ kd,T_ t,S_ A' (l.length+1) c',B_ z]] W fun e w'=>e=R_ (T_ (t++⟨#[40]⟩++Q5_ (l.map (QE_ ps))++⟨#[41,32,123]⟩))/\Below W.heap.size W w':=by
 have J:=h_ hr;have HP:=h_ hP;have y:=h_ (show ∀k:Int,(QE_ ps k).size<=1048576 from fun k=>Yt_ I _);have B:=h_ (Jj_ (l:=l.map (QE_ ps)) (fun t M=>by obtain⟨u,_,rfl⟩:=List.mem_map.1 M;exact y.o u) so_ l.length);have s:=h_ (show(l.map (QE_ ps)).take l.length=l.map (QE_ ps)from List.take_of_length_le sm_);rw[s.o]at B;obtain⟨L,a,rfl⟩:=ZC_ J.o oo;have g:=h_ (show Below W.heap.size W (W.alloc (C_ #[I_ j_ kd,T_ t,S_ (some ⟨L,a,none⟩) (l.length+1) c',B_ z] 96))from grow_);have h:=h_ (show Mine (W.alloc (C_ #[I_ j_ kd,T_ t,S_ (some ⟨L,a,none⟩) (l.length+1) c',B_ z] 96)) W.heap.size 9 1 none 0 0 (Qm_ ((l.take 0).map (QE_ ps)))from Mine.mk_nil _ _ _ _);have O:=h_ (fun(Z:World) (V:Below W.heap.size W Z) (i:Nat) (v:Int) (hd:(l++[v9])[i]? =some v)=>QO_ J.o V (by have:=(gs_.1 hd).1;simpa using this) hd);have R:=h_ (fun(Z:World) (V:Below W.heap.size W Z)=>ZU_ J.o V oo);have n:=h_ (Blk.new W 96 #[I_ j_ kd,T_ t,S_ (some ⟨L,a,none⟩) (l.length+1) c',B_ z]);obtain⟨b,q⟩:=ex_ l.length;have j:=h_ q;rw[q]at hm g h n X |-
 clear hr hP I q J s;have ae:(b:Int)<=(c':Int):=oo;go_enter func126,ntmps126;go_wp2;go_loopw [5,16] (fun o x wr=>∃(i:Nat) (A:OA) (c:Nat),i<=b/\x=I_ j_ i/\o=S_ A i c/\Hid (Mine wr W.heap.size 9 1 A i c (Qm_ ((l.take i).map (QE_ ps))))/\Hid (Below W.heap.size W wr)/\Hid (Blk wr W.heap.size 96 #[I_ j_ kd,T_ t,S_ (some ⟨L,a,none⟩) (b+1) c',B_ z])) (fun _ x _=>b - (intOf x).toNat)
 case atStart=>exact⟨0,none,0,lz_ _,rfl,rfl,h,g,n⟩
 case round=>
  clear h g n;obtain⟨i,An,cn,af,rfl,rfl,S,r,n⟩:=hrel;have F:=r.o.size;by_cases h1:i < b
  ·obtain⟨v,hd⟩:∃d,l[i]? =some d:=⟨_,gE (by rw[j.o];exact h1)⟩;obtain⟨aa,ak⟩:=hv.o v (lm_ hd);obtain⟨p,rfl⟩:=eo_ aa;have H:p < m:=oo;have ck:=O.o wr r.o i (p:Int) (by rw[List.getElem?_append_left (by rw[j.o];exact h1)];exact hd);have cl:=R.o wr r.o;obtain⟨x,hx⟩:=HP.o.get H;obtain⟨bn,ad,A9,c9,eD,E,_,y1,_⟩:=HP.o.atc H hx;subst eD;have G:=(QW_ r.o).1;have yn:=(G _ _ E).trans y1;have ac:=ll_ E F;have C:=h_ (Gy_ (ps:=ps) hd);have U:=h_ (show QE_ ps (p:Int)=x.text by unfold QE_;rw[it_,X7_ hx]);rw[U.o]at C;clear hd y1 G hx;go_wp2_with (at_builtin;refine XW_ (.tmp 20) (.tmp 26) S F rfl rfl er_ er_ oo ?_;intro A5 c5 w5 T Q N)
   go_roundw
   case rel=>exact⟨i+1,A5,c5,oo,by go_num,rfl,by rw[C.o];exact T,h_ (N.o _ r.o),h_ (Q.o.2 _ _ _ n.o dc_)⟩
   case measure=>simp[intOf];omega
  ·obtain rfl:b=i:=oo;have HJ:=h_ (show(l.take b).map (QE_ ps)=l.map (QE_ ps)by rw[List.take_of_length_le (Nat.le_of_eq j.o)]);have P:=h_ (fun W2 (hb:Below wr.heap.size wr W2)=>vT_ An b cn (l.map (QE_ ps)) W2 oo (by rw[<-HJ.o];exact S.o.rd.next hb) (fun t M=>by obtain⟨u,_,rfl⟩:=List.mem_map.1 M;exact y.o u) (Mine.cap S.o));have Y:=B.o;have ah:¬9223372036854775807 < t.size+1:=oo;have ai:¬9223372036854775807 < t.size+1+(Q5_ (l.map (QE_ ps))).size:=oo;have aj:¬9223372036854775807 < t.size+1+(Q5_ (l.map (QE_ ps))).size+3:=oo;have K:=n.o;have x1:=K.q1;have xg:=K.lt;clear K Y;go_upto_region 7 with fail
   go_cut [4] (fun x wx=>x=T_ (t++⟨#[40]⟩++Q5_ (l.map (QE_ ps))++⟨#[41,32,123]⟩)/\Hid (Below W.heap.size W wx))
   case first=>
    go_region_with (go_at_call 180;refine(P.o _ (by first|exact br|exact br.drew)).mono ?_;rintro e w8 ⟨rfl,h8⟩;have D:Below wr.heap.size wr w8:=(by first|exact h8|exact br.drew.trans h8);have f:=h_ (Qb_ r.o D);have K8:=n.o.next D;have al:w8.cell? ⟨W.heap.size,1,none⟩=some (T_ t):=K8.cell 1;have am:=K8.lt)
    all_goals
     go_wp2_with fail
     go_meet;exact⟨rfl,f⟩
   case rest=>
   obtain⟨rfl,f⟩:=hcut;go_wp2;go_ret;exact⟨rfl,f.o⟩
theorem Wt.told0 {D:WD} {f:Nat} {fin s:Ws} {a:Int} {es:List Wv} {w W:World} {R:Ending->World->Prop} {kd:Int} {t b c:BA} {A':OA} {c':Nat} {z:Bool} (hi:D.imp=false) (hr:Rd D.w0 1 A' 0 (Qa_ [])) (H:Hid (Wt 78 D f fin w a s (.line b::es) W)) (k:∀s1 W1,Hid (Wt 78 D f fin w a s1 es W1)->R (R_ (U_ #[])) W1):
  Calls prog 97 #[P_ (some ⟨D.T,0,none⟩),A_ #[I_ j_ kd,T_ t,S_ A' 0 c',B_ z],T_ b,T_ c,I_ j_ a] W R:=by
 have H1:=h_ (H.o.next (show Below W.heap.size W (W.alloc (C_ #[I_ j_ kd,T_ t,S_ A' 0 c',B_ z] 96))from grow_));clear H
 suffices h:Calls prog 97 #[P_ (some ⟨D.T,0,none⟩),A_ #[I_ j_ kd,T_ t,S_ A' 0 c',B_ z],T_ b,T_ c,I_ j_ a] W (fun e w'=>e=R_ (U_ #[])/\∃s1,Wt 78 D f fin w a s1 es w')from
  h.mono (by rintro e w1 ⟨rfl,s1,h1⟩;exact k s1 w1 (h_ h1))
 clear k;go_enter func97,ntmps97;go_wp2_with fail
 refine Wt.sline hi H1 ?_;intro s1 W1 H2;go_wp2;refine bodyPost_ret (results_none rfl _ _ _) rfl ?_;exact⟨rfl,s1,H2.o⟩
theorem Wt.told1 {D:WD} {f:Nat} {fin s:Ws} {a:Int} {es:List Wv} {w W:World} {R:Ending->World->Prop} {kd:Int} {t b d:BA} {A':OA} {c':Nat} {z:Bool} {q:Nat} (hi:D.imp=false) (g:Rd D.w0 1 A' 1 (Qa_ [(q:Int)])) (H:Hid (Wt 78 D f fin w a s (.val d (q:Int) ⟨#[59]⟩::es) W)) (hq:q < f) (hv:QI_ (Qc_ D.Q.ps (q:Int))) (k:∀s1 W1,Hid (Wt 78 D f fin w a s1 es W1)->R (R_ (U_ #[])) W1):
  Calls prog 97 #[P_ (some ⟨D.T,0,none⟩),A_ #[I_ j_ kd,T_ t,S_ A' 1 c',B_ z],T_ b,T_ d,I_ j_ a] W R:=by
 obtain⟨b5,c,rfl⟩:=ZC_ g sm_;have hb:Below W.heap.size W (W.alloc (C_ #[I_ j_ kd,T_ t,S_ (some ⟨b5,c,none⟩) 1 c',B_ z] 96)):=grow_;have H1:=h_ (H.o.next hb);have cv:=QO_ g H.o.M.old (i:=0) sm_ rfl;rw[Nat.add_zero]at cv;have j:=ZU_ g H.o.M.old sm_;clear H hb g
 suffices h:Calls prog 97 #[P_ (some ⟨D.T,0,none⟩),A_ #[I_ j_ kd,T_ t,S_ (some ⟨b5,c,none⟩) 1 c',B_ z],T_ b,T_ d,I_ j_ a] W (fun e w'=>e=R_ (U_ #[])/\∃s1,Wt 78 D f fin w a s1 es w')from
  h.mono (by rintro e w1 ⟨rfl,s1,h1⟩;exact k s1 w1 (h_ h1))
 clear k;go_enter func97,ntmps97;go_wp2_with fail
 refine Wt.sval hi H1 hq hv ?_;intro s1 W1 H2;go_wp2;go_end0;exact⟨rfl,s1,H2.o⟩
end Go.Proofs.YtbiijipkgfpgoaaGreatDoor

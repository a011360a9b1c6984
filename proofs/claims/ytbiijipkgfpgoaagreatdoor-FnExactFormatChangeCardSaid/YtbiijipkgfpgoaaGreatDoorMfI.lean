/-
  Put together by program.
-/
import Derived.Test.YtbiijipkgfpgoaaGreatDoorMfH
set_option maxRecDepth 100000
set_option linter.all false
set_option maxHeartbeats 25600000
open Go.Proofs.Tryz
open Go.Value renaming int→I_,slice→S_,string→T_,bool→B_,pointer→P_,agg→A_,tuple→U_
open Go.IntKind renaming i64→j_
open Go.Obj renaming cells→C_
open Go.Ending renaming returned→R_
namespace Go.Proofs.YtbiijipkgfpgoaaGreatDoor
open Go.RowKit
theorem Qes_ (R:RC) (hi:R.imp=true) (N f:Nat) (hN:R.n < N) (HE:EC R N f) (d:Nat) (b:Bool) (st:RdSt) (row:ON) (w:World) (j:RdI R d st row w) (hn:Need R.n st 12 (f+1)) (hd:d+f<=100000) (g:(Qx_ R.sg st 0).1=5):
  Calls prog 208 #[P_ (some ⟨R.T,0,none⟩),B_ b] w (QA_ R d row w (I_ j_ (Xm_ R.sg b st).1) (Xm_ R.sg b st).2):=by
 have a:∀s,st=some s->s.at_ < R.n:=fun s e=>by
  rcases Nat.lt_or_ge s.at_ R.sg.length with hl|hl
  ·rw[<-j.ok.len];exact hl
  ·exact absurd g (by rw[e,ZO_ (i:=0) hl];decide)
 have c:=h_ (fun(row:ON) (W:World) h=>v8_ R hi d st row b W h a);unfold QA_ at c |-
 generalize Xm_ R.sg b st=r at c |-
 obtain⟨k,st2⟩:=r;dsimp only at c |-
 have l:=h_ j;have o:=h_ (Kr.refl R.T row w);have t:=h_ (Kl_ R hi d st row w j);have v:=q9_;have y:=ky_;generalize Qx_ R.sg st 0=x at t g;obtain⟨kd,xt,xp,xz⟩:=x;dsimp only at t g;subst g;clear j hn a;go_enter func208,ntmps208;go_wp2_with fail
 refine rst (t.o) l o ?_;intro w1 m p;go_wp2_with fail
 refine pst (c.o _ _ m.o) p ?_;intro w2 row2 n q;go_wp2;go_ret;exact⟨rfl,row2,n.o,q.o⟩
theorem Qf6_ (R:RC) (hi:R.imp=true) (N f:Nat) (hN:R.n < N) (HE:EC R N f) (d:Nat) (b:Bool) (st:RdSt) (row:ON) (w:World) (l:RdI R d st row w) (hn:Need R.n st 12 (f+1)) (hd:d+f<=100000) (z:(Qx_ R.sg st 0).1≠5) (g:isW R.sg st ⟨#[118,97,114]⟩=true):
  Calls prog 208 #[P_ (some ⟨R.T,0,none⟩),B_ b] w (QA_ R d row w (I_ j_ (Jx_ R.sg (Qd_ R.sg N f) d b (Qf_ st)).1) (Jx_ R.sg (Qd_ R.sg N f) d b (Qf_ st)).2):=by
 obtain⟨s,es,e⟩:=U9_ g;subst es;have A:s.at_ < R.n:=by rw[<-l.ok.len];exact e
 have j:=h_ (fun(row:ON) (W:World) h=>Gd_ R hi N f HE d b s row W h A hn hd);unfold QA_ at j |-
 generalize Jx_ R.sg (Qd_ R.sg N f) d b (Qf_ (some s))=r at j |-
 obtain⟨k,st2⟩:=r;dsimp only at j |-
 have m:=h_ l;have p:=h_ (Kr.refl R.T row w);have y:=h_ (Kl_ R hi d (some s) row w l);have C:=q9_;have D:=ky_;have c:=h_ (fun(W:World) h=>Qs_ R hi d (some s) row ⟨#[118,97,114]⟩ W h);rw[g]at c;generalize Qx_ R.sg (some s) 0=x at y z;obtain⟨kd,xt,xp,xz⟩:=x;dsimp only at y z;have B:(kd==5)=false:=by rw[bn_];exact z
 clear l hn e;go_enter func208,ntmps208;go_wp2_with fail
 refine rst (y.o) m p ?_;intro w1 a q;go_wp2_with fail
 refine rst (c.o _ a.o) a q ?_;intro w2 n t;go_wp2_with fail
 refine pst (j.o _ _ n.o) t ?_;intro w3 i o v;go_wp2;go_ret;exact⟨rfl,i,o.o,v.o⟩
theorem Qf3_ (R:RC) (hi:R.imp=true) (N f:Nat) (hN:R.n < N) (HE:EC R N f) (d:Nat) (b:Bool) (st:RdSt) (row:ON) (w:World) (n:RdI R d st row w) (hn:Need R.n st 12 (f+1)) (hd:d+f<=100000) (C:(Qx_ R.sg st 0).1≠5) (E:isW R.sg st ⟨#[118,97,114]⟩=false) (j:isW R.sg st ⟨#[114,101,116,117,114,110]⟩=true):
  Calls prog 208 #[P_ (some ⟨R.T,0,none⟩),B_ b] w (QA_ R d row w (I_ j_ (Yp_ R.sg (Qd_ R.sg N f) d b (Qf_ st)).1) (Yp_ R.sg (Qd_ R.sg N f) d b (Qf_ st)).2):=by
 obtain⟨s,es,i⟩:=U9_ j;subst es;have D:s.at_ < R.n:=by rw[<-n.ok.len];exact i
 have m:=h_ (fun(row:ON) (W:World) h=>Qbl_ R hi N f HE d b s row W h D hn hd);unfold QA_ at m |-
 generalize Yp_ R.sg (Qd_ R.sg N f) d b (Qf_ (some s))=r at m |-
 obtain⟨k,st2⟩:=r;dsimp only at m |-
 have o:=h_ n;have t:=h_ (Kr.refl R.T row w);have B:=h_ (Kl_ R hi d (some s) row w n);have G:=q9_;have H:=ky_;have e:=h_ (fun(W:World) h=>Qs_ R hi d (some s) row ⟨#[118,97,114]⟩ W h);rw[E]at e;have g:=h_ (fun(W:World) h=>Qs_ R hi d (some s) row ⟨#[114,101,116,117,114,110]⟩ W h);rw[j]at g;generalize Qx_ R.sg (some s) 0=x at B C;obtain⟨kd,xt,xp,xz⟩:=x;dsimp only at B C;have F:(kd==5)=false:=by rw[bn_];exact C
 clear n hn i;go_enter func208,ntmps208;go_wp2_with fail
 refine rst (B.o) o t ?_;intro w1 a v;go_wp2_with fail
 refine rst (e.o _ a.o) a v ?_;intro w2 c y;go_wp2_with fail
 refine rst (g.o _ c.o) c y ?_;intro w3 p z;go_wp2_with fail
 refine pst (m.o _ _ p.o) z ?_;intro w4 l q A;go_wp2;go_ret;exact⟨rfl,l,q.o,A.o⟩
theorem QhO_ (R:RC) (hi:R.imp=true) (N f:Nat) (hN:R.n < N) (HE:EC R N f) (d:Nat) (b:Bool) (st:RdSt) (row:ON) (w:World) (p:RdI R d st row w) (hn:Need R.n st 12 (f+1)) (hd:d+f<=100000) (F:(Qx_ R.sg st 0).1≠5) (H:isW R.sg st ⟨#[118,97,114]⟩=false) (I:isW R.sg st ⟨#[114,101,116,117,114,110]⟩=false) (m:isW R.sg st ⟨#[105,102]⟩=true):
  Calls prog 208 #[P_ (some ⟨R.T,0,none⟩),B_ b] w (QA_ R d row w (I_ j_ (ifS R.sg (Qd_ R.sg N f) d b (Qf_ st)).1) (ifS R.sg (Qd_ R.sg N f) d b (Qf_ st)).2):=by
 obtain⟨s,es,l⟩:=U9_ m;subst es;have G:s.at_ < R.n:=by rw[<-p.ok.len];exact l
 have o:=h_ (fun(row:ON) (W:World) h=>x9_ R hi N f HE d b s row W h G hn hd);unfold QA_ at o |-
 generalize ifS R.sg (Qd_ R.sg N f) d b (Qf_ (some s))=r at o |-
 obtain⟨k,st2⟩:=r;dsimp only at o |-
 have q:=h_ p;have y:=h_ (Kr.refl R.T row w);have E:=h_ (Kl_ R hi d (some s) row w p);have K:=q9_;have L:=ky_;have g:=h_ (fun(W:World) h=>Qs_ R hi d (some s) row ⟨#[118,97,114]⟩ W h);rw[H]at g;have i:=h_ (fun(W:World) h=>Qs_ R hi d (some s) row ⟨#[114,101,116,117,114,110]⟩ W h);rw[I]at i;have j:=h_ (fun(W:World) h=>Qs_ R hi d (some s) row ⟨#[105,102]⟩ W h);rw[m]at j;generalize Qx_ R.sg (some s) 0=x at E F;obtain⟨kd,xt,xp,xz⟩:=x;dsimp only at E F;have J:(kd==5)=false:=by rw[bn_];exact F
 clear p hn l;go_enter func208,ntmps208;go_wp2_with fail
 refine rst (E.o) q y ?_;intro w1 a z;go_wp2_with fail
 refine rst (g.o _ a.o) a z ?_;intro w2 c A;go_wp2_with fail
 refine rst (i.o _ c.o) c A ?_;intro w3 e B;go_wp2_with fail
 refine rst (j.o _ e.o) e B ?_;intro w4 t C;go_wp2_with fail
 refine pst (o.o _ _ t.o) C ?_;intro w5 n v D;go_wp2;go_ret;exact⟨rfl,n,v.o,D.o⟩
theorem Qca_ (R:RC) (hi:R.imp=true) (N f:Nat) (hN:R.n < N) (HE:EC R N f) (d:Nat) (b:Bool) (st:RdSt) (row:ON) (w:World) (j:RdI R d st row w) (hn:Need R.n st 12 (f+1)) (hd:d+f<=100000) (h5:(Qx_ R.sg st 0).1≠5) (an:isW R.sg st ⟨#[118,97,114]⟩=false) (ao:isW R.sg st ⟨#[114,101,116,117,114,110]⟩=false) (ap:isW R.sg st ⟨#[105,102]⟩=false) (H:isW R.sg st ⟨#[119,104,105,108,101]⟩=true):
  Calls prog 208 #[P_ (some ⟨R.T,0,none⟩),B_ b] w (QA_ R d row w (I_ j_ (z6_ R.sg (Qd_ R.sg N f) d b (Qf_ st)).1) (z6_ R.sg (Qd_ R.sg N f) d b (Qf_ st)).2):=by
 obtain⟨s,es,G⟩:=U9_ H;subst es;have g:s.at_ < R.n:=by rw[<-j.ok.len];exact G
 obtain⟨i0,F,I,J,K⟩:=info_parts QY_;have ay:=h_ (ai_ F (ai_ I (ai_ J K)));clear F I J K;have ai:=h_ j.lo;have Q:=h_ j.lo.1;have HL:=h_ (fun t (e:(some s)=some t)=>show t.at_ < R.n by obtain rfl:=oi_ e;exact g);unfold QA_ z6_;dsimp only;have c:=Qh_ (some s);have O:=h_ (fun(row:ON) (W:World) h=>VZ_ R hi N f HE d (Qf_ (some s)) row W h (hn.next g (c.trans (Qq_ _ _)) oo) hd);have a:=c.trans (Yy_ (sg:=R.sg) (E:=Qd_ R.sg N f) (fun m d st=>QB_ f m d st) d (Qf_ (some s)));generalize JJ_ R.sg (Qd_ R.sg N f) d (Qf_ (some s))=rc at O a |-
 obtain⟨kc,M⟩:=rc;dsimp only at O a |-
 have y:=h_ (fun(U:Nat->Prop) (row:ON) (W:World) h=>HE.block U d M row W h (hn.next g a oo) hd);unfold QA_ at y;generalize Qd_ R.sg N f .block d M=rt at y |-
 obtain⟨kt,st2⟩:=rt;dsimp only at y |-
 have S:=h_ j;have Z:=h_ (Kr.refl R.T row w);have HX:=h_ (Kl_ R hi d (some s) row w j);have aA:=q9_;have aB:=ky_;have z:=h_ (fun(W:World) h=>Qs_ R hi d (some s) row ⟨#[118,97,114]⟩ W h);rw[an]at z;have B:=h_ (fun(W:World) h=>Qs_ R hi d (some s) row ⟨#[114,101,116,117,114,110]⟩ W h);rw[ao]at B;have C:=h_ (fun(W:World) h=>Qs_ R hi d (some s) row ⟨#[105,102]⟩ W h);rw[ap]at C;have D:=h_ (fun(W:World) h=>Qs_ R hi d (some s) row ⟨#[119,104,105,108,101]⟩ W h);rw[H]at D;generalize Qx_ R.sg (some s) 0=x at HX h5;obtain⟨kd,xt,xp,xz⟩:=x;dsimp only at HX h5;have az:(kd==5)=false:=by rw[bn_];exact h5
 clear j hn G c a;go_enter func208,ntmps208;go_wp2_with fail
 refine rst (HX.o) S Z ?_;intro w1 k aa;go_wp2_with fail
 refine rst (z.o _ k.o) k aa ?_;intro w2 l ab;go_wp2_with fail
 refine rst (B.o _ l.o) l ab ?_;intro w3 n ac;go_wp2_with fail
 refine rst (C.o _ n.o) n ac ?_;intro w4 o ad;go_wp2_with fail
 refine rst (D.o _ o.o) o ad ?_;intro w5 T ae;go_wp2_with fail
 refine pst (Zo_ R hi d (some s) row w5 T.o HL.o) ae ?_;intro w6 av V q;go_wp2_with fail
 refine(O.o _ _ V.o).mono ?_;rintro e w7 ⟨A,rfl,m7,ax,h7,k7⟩;have af:=QS_ q k7;have p:=h_ h7;have r:=h_ (m7.more (B':=w.heap.size) q.o.size);clear h7 k7 m7 O;go_wp2_with fail
 refine(y.o _ _ _ p.o).mono ?_;rintro e w8 ⟨rfl,L,h8,k8⟩;replace r:=h_ (p.o.keepI k8 r.o);have X:=h_ h8;have ag:=h_ (af.o.trans k8);clear h8 k8 y;go_wp2_with (at_builtin;refine KA_ (.tmp 46) (.tmp 48) X ag r Q rfl rfl rfl rfl oo ?_;intro A9 c9 w9 Y ah v)
 replace r:=v;clear v;have hA:=addK R hi d st2 L 17 noT A9 2 c9 [kc,kt] b w.heap.size w9 Y.o.unres r.o ai.o;unfold QA_ at hA;have P:=h_ hA;clear hA;go_wp2_with fail
 refine P.o.mono ?_;rintro e aC ⟨rfl,i,ak,aq⟩;go_wp2;go_ret;exact⟨rfl,i,ak,ah.o.trans aq⟩
theorem Qf4_ (R:RC) (hi:R.imp=true) (N f:Nat) (hN:R.n < N) (HE:EC R N f) (d:Nat) (b:Bool) (st:RdSt) (row:ON) (w:World) (Q:RdI R d st row w) (hn:Need R.n st 12 (f+1)) (hd:d+f<=100000) (h5:(Qx_ R.sg st 0).1≠5) (aj:isW R.sg st ⟨#[118,97,114]⟩=false) (ak:isW R.sg st ⟨#[114,101,116,117,114,110]⟩=false) (al:isW R.sg st ⟨#[105,102]⟩=false) (am:isW R.sg st ⟨#[119,104,105,108,101]⟩=false) (hs:setB R.sg st=true):
  Calls prog 208 #[P_ (some ⟨R.T,0,none⟩),B_ b] w (QA_ R d row w (I_ j_ (setS R.sg (Qd_ R.sg N f) d b st).1) (setS R.sg (Qd_ R.sg N f) d b st).2):=by
 unfold setB at hs;simp only[Bool.and_eq_true]at hs;obtain⟨g,m,a⟩:=hs;obtain⟨s,es,O⟩:=Z7_ g;subst es;have ai:s.at_ < R.n:=by rw[<-Q.ok.len];exact O
 have hM:isM R.sg (Qf_ (some s)) ⟨#[61]⟩=true:=by
  have e1:Qx_ R.sg (Qf_ (some s)) 0=Qx_ R.sg (some s) 1:=rfl;have e2:(⟨#[61]⟩:BA).toList=[61]:=by rw[ByteArray.toList_eq]
  unfold isM;rw[e1,a,e2,m];rfl
 have l:=h_ (fun(row:ON) (W:World) h=>ZQ_ R hi d (Qf_ (some s)) row ⟨#[61]⟩ W h);rw[Zr_ hM]at l;have c:=h_ (fun(row:ON) (W:World) h=>JW_ R hi d (some s) row W h);have I:=h_ (fun(row:ON) (W:World) h=>KM_ R hi d (some s) row 0 W h oo);rw[g]at I;rw[show nmS R.sg (some s)=Qf_ (some s)from ip_ g]at c;have e:=h_ (fun(row:ON) (W:World) h=>YH_ R hi d (some s) row 1 W h oo);have P:=h_ (fun(row:ON) (W:World) h=>HE.value R.U d (Qf_ (Qf_ (some s))) row W h (hn.next ai ((Qh_ _).trans (Qh_ _)) oo) hd);unfold QA_ at P l c |-
 unfold setS;dsimp only;generalize Qd_ R.sg N f .value d (Qf_ (Qf_ (some s)))=r at P |-
 obtain⟨k,st2⟩:=r;dsimp only at P |-
 generalize nmT R.sg (some s)=nt at c |-
 have S:=h_ Q;have V:=h_ (Kr.refl R.T row w);have HX:=h_ (Kl_ R hi d (some s) row w Q);have aq:=q9_;have ar:=ky_;have J:=h_ (fun(W:World) h=>Qs_ R hi d (some s) row ⟨#[118,97,114]⟩ W h);rw[aj]at J;have K:=h_ (fun(W:World) h=>Qs_ R hi d (some s) row ⟨#[114,101,116,117,114,110]⟩ W h);rw[ak]at K;have L:=h_ (fun(W:World) h=>Qs_ R hi d (some s) row ⟨#[105,102]⟩ W h);rw[al]at L;have M:=h_ (fun(W:World) h=>Qs_ R hi d (some s) row ⟨#[119,104,105,108,101]⟩ W h);rw[am]at M;generalize Qx_ R.sg (some s) 0=x at HX h5;obtain⟨kd,xt,xp,xz⟩:=x;dsimp only at HX h5;have ap:(kd==5)=false:=by rw[bn_];exact h5
 generalize Qx_ R.sg (some s) 1=y at e m a;obtain⟨yk,yt,yp,yz⟩:=y;dsimp only at e m a;obtain rfl:yk=4:=eq_of_beq a;clear Q hn O g hM a;go_enter func208,ntmps208;go_wp2_with fail
 refine rst (HX.o) S V ?_;intro w1 q X;go_wp2_with fail
 refine rst (J.o _ q.o) q X ?_;intro w2 z Y;go_wp2_with fail
 refine rst (K.o _ z.o) z Y ?_;intro w3 A Z;go_wp2_with fail
 refine rst (L.o _ A.o) A Z ?_;intro w4 B aa;go_wp2_with fail
 refine rst (M.o _ B.o) B aa ?_;intro w5 C ab;go_wp2_with fail
 refine rst (I.o _ _ C.o) C ab ?_;intro w6 D ac;go_wp2_with fail
 refine rst (e.o _ _ D.o) D ac ?_;intro w7 E ad;go_wp2_with fail
 refine rst (e.o _ _ E.o) E ad ?_;intro w8 T ae;go_wp2_with fail
 refine pst (c.o _ _ T.o) ae ?_;intro w9 ao U af;go_wp2_with fail
 refine pst (l.o _ _ U.o) af ?_;intro av an t F;go_wp2_with fail
 refine pst (P.o _ _ t.o) F ?_;intro p n i G;have j:=h_ i.o.lo;go_wp2_with fail
 refine pst (KK_ R hi d st2 n ⟨#[59]⟩ 13 nt (some ⟨p.heap.size,0,none⟩) 1 1 [k] b p.heap.size _ (i.o.alloc _) (GW_ p k) j.o) G ?_;intro ax o v H;go_wp2;go_ret;exact⟨rfl,o,v.o,H.o⟩
theorem Qep_ (R:RC) (hi:R.imp=true) (N f:Nat) (hN:R.n < N) (HE:EC R N f) (d:Nat) (b:Bool) (st:RdSt) (row:ON) (w:World) (O:RdI R d st row w) (hn:Need R.n st 12 (f+1)) (hd:d+f<=100000) (M:(Qx_ R.sg st 0).1≠5) (P:isW R.sg st ⟨#[118,97,114]⟩=false) (Q:isW R.sg st ⟨#[114,101,116,117,114,110]⟩=false) (S:isW R.sg st ⟨#[105,102]⟩=false) (T:isW R.sg st ⟨#[119,104,105,108,101]⟩=false) (hs:Kp_ R.sg st 0=false):
  Calls prog 208 #[P_ (some ⟨R.T,0,none⟩),B_ b] w (QA_ R d row w (I_ j_ (doS R.sg (Qd_ R.sg N f) d b st).1) (doS R.sg (Qd_ R.sg N f) d b st).2):=by
 have v:=h_ (fun(row:ON) (W:World) h=>HE.value R.U d st row W h (hn.same oo (Adv.refl st)) hd);have m:=h_ (fun(row:ON) (W:World) h=>KM_ R hi d st row 0 W h oo);have K:=h_ (fun(row:ON) (W:World) h=>YH_ R hi d st row 1 W h oo);unfold QA_ at v |-
 unfold doS;dsimp only;generalize Qd_ R.sg N f .value d st=r at v |-
 obtain⟨k,st2⟩:=r;dsimp only at v |-
 have y:=h_ O;have B:=h_ (Kr.refl R.T row w);have L:=h_ (Kl_ R hi d st row w O);have X:=q9_;have Y:=ky_;have n:=h_ (fun(W:World) h=>Qs_ R hi d st row ⟨#[118,97,114]⟩ W h);rw[P]at n;have o:=h_ (fun(W:World) h=>Qs_ R hi d st row ⟨#[114,101,116,117,114,110]⟩ W h);rw[Q]at o;have p:=h_ (fun(W:World) h=>Qs_ R hi d st row ⟨#[105,102]⟩ W h);rw[S]at p;have q:=h_ (fun(W:World) h=>Qs_ R hi d st row ⟨#[119,104,105,108,101]⟩ W h);rw[T]at q;generalize Qx_ R.sg st 0=x at L M;obtain⟨kd,xt,xp,xz⟩:=x;dsimp only at L M;have V:(kd==5)=false:=by rw[bn_];exact M
 rw[hs]at m;clear hs K;clear O hn;go_enter func208,ntmps208;go_wp2_with fail
 refine rst (L.o) y B ?_;intro w1 a C;go_wp2_with fail
 refine rst (n.o _ a.o) a C ?_;intro w2 c D;go_wp2_with fail
 refine rst (o.o _ c.o) c D ?_;intro w3 e E;go_wp2_with fail
 refine rst (p.o _ e.o) e E ?_;intro w4 g F;go_wp2_with fail
 refine rst (q.o _ g.o) g F ?_;intro w5 i G;go_wp2_with fail
 refine rst (m.o _ _ i.o) i G ?_;intro w6 z H;go_wp2_with fail
 refine pst (v.o _ _ z.o) H ?_;intro U s j I;have l:=h_ j.o.lo;go_wp2_with fail
 refine pst (KK_ R hi d st2 s ⟨#[59]⟩ 14 noT (some ⟨U.heap.size,0,none⟩) 1 1 [k] b U.heap.size _ (j.o.alloc _) (GW_ U k) l.o) I ?_;intro w8 t A J;go_wp2;go_ret;exact⟨rfl,t,A.o,J.o⟩
theorem Qeq_ (R:RC) (hi:R.imp=true) (N f:Nat) (hN:R.n < N) (HE:EC R N f) (d:Nat) (b:Bool) (st:RdSt) (row:ON) (w:World) (S:RdI R d st row w) (hn:Need R.n st 12 (f+1)) (hd:d+f<=100000) (Q:(Qx_ R.sg st 0).1≠5) (U:isW R.sg st ⟨#[118,97,114]⟩=false) (V:isW R.sg st ⟨#[114,101,116,117,114,110]⟩=false) (X:isW R.sg st ⟨#[105,102]⟩=false) (Y:isW R.sg st ⟨#[119,104,105,108,101]⟩=false) (T:Kp_ R.sg st 0=true) (hs:((Qx_ R.sg st 1).2.1.toList==[61])=false):
  Calls prog 208 #[P_ (some ⟨R.T,0,none⟩),B_ b] w (QA_ R d row w (I_ j_ (doS R.sg (Qd_ R.sg N f) d b st).1) (doS R.sg (Qd_ R.sg N f) d b st).2):=by
 have A:=h_ (fun(row:ON) (W:World) h=>HE.value R.U d st row W h (hn.same oo (Adv.refl st)) hd);have o:=h_ (fun(row:ON) (W:World) h=>KM_ R hi d st row 0 W h oo);have a:=h_ (fun(row:ON) (W:World) h=>YH_ R hi d st row 1 W h oo);unfold QA_ at A |-
 unfold doS;dsimp only;generalize Qd_ R.sg N f .value d st=r at A |-
 obtain⟨k,st2⟩:=r;dsimp only at A |-
 have B:=h_ S;have E:=h_ (Kr.refl R.T row w);have P:=h_ (Kl_ R hi d st row w S);have ab:=q9_;have ac:=ky_;have p:=h_ (fun(W:World) h=>Qs_ R hi d st row ⟨#[118,97,114]⟩ W h);rw[U]at p;have q:=h_ (fun(W:World) h=>Qs_ R hi d st row ⟨#[114,101,116,117,114,110]⟩ W h);rw[V]at q;have s:=h_ (fun(W:World) h=>Qs_ R hi d st row ⟨#[105,102]⟩ W h);rw[X]at s;have t:=h_ (fun(W:World) h=>Qs_ R hi d st row ⟨#[119,104,105,108,101]⟩ W h);rw[Y]at t;generalize Qx_ R.sg st 0=x at P Q;obtain⟨kd,xt,xp,xz⟩:=x;dsimp only at P Q;have aa:(kd==5)=false:=by rw[bn_];exact Q
 generalize Qx_ R.sg st 1=y at a hs;obtain⟨yk,yt,yp,yz⟩:=y;dsimp only at a hs;rw[T]at o;clear S hn;go_enter func208,ntmps208;go_wp2_with fail
 refine rst (P.o) B E ?_;intro w1 c F;go_wp2_with fail
 refine rst (p.o _ c.o) c F ?_;intro w2 e G;go_wp2_with fail
 refine rst (q.o _ e.o) e G ?_;intro w3 g H;go_wp2_with fail
 refine rst (s.o _ g.o) g H ?_;intro w4 i I;go_wp2_with fail
 refine rst (t.o _ i.o) i I ?_;intro w5 j J;go_wp2_with fail
 refine rst (o.o _ _ j.o) j J ?_;intro w6 l K;go_wp2_with fail
 refine rst (a.o _ _ l.o) l K ?_;intro w7 C L;go_wp2_with fail
 refine pst (A.o _ _ C.o) L ?_;intro Z v m M;have n:=h_ m.o.lo;go_wp2_with fail
 refine pst (KK_ R hi d st2 v ⟨#[59]⟩ 14 noT (some ⟨Z.heap.size,0,none⟩) 1 1 [k] b Z.heap.size _ (m.o.alloc _) (GW_ Z k) n.o) M ?_;intro w9 z D O;go_wp2;go_ret;exact⟨rfl,z,D.o,O.o⟩
theorem Qer_ (R:RC) (hi:R.imp=true) (N f:Nat) (hN:R.n < N) (HE:EC R N f) (d:Nat) (b:Bool) (st:RdSt) (row:ON) (w:World) (V:RdI R d st row w) (hn:Need R.n st 12 (f+1)) (hd:d+f<=100000) (U:(Qx_ R.sg st 0).1≠5) (Y:isW R.sg st ⟨#[118,97,114]⟩=false) (Z:isW R.sg st ⟨#[114,101,116,117,114,110]⟩=false) (aa:isW R.sg st ⟨#[105,102]⟩=false) (ab:isW R.sg st ⟨#[119,104,105,108,101]⟩=false) (X:Kp_ R.sg st 0=true) (C:((Qx_ R.sg st 1).2.1.toList==[61])=true) (hs:((Qx_ R.sg st 1).1==4)=false):
  Calls prog 208 #[P_ (some ⟨R.T,0,none⟩),B_ b] w (QA_ R d row w (I_ j_ (doS R.sg (Qd_ R.sg N f) d b st).1) (doS R.sg (Qd_ R.sg N f) d b st).2):=by
 have E:=h_ (fun(row:ON) (W:World) h=>HE.value R.U d st row W h (hn.same oo (Adv.refl st)) hd);have t:=h_ (fun(row:ON) (W:World) h=>KM_ R hi d st row 0 W h oo);have a:=h_ (fun(row:ON) (W:World) h=>YH_ R hi d st row 1 W h oo);unfold QA_ at E |-
 unfold doS;dsimp only;generalize Qd_ R.sg N f .value d st=r at E |-
 obtain⟨k,st2⟩:=r;dsimp only at E |-
 have F:=h_ V;have H:=h_ (Kr.refl R.T row w);have T:=h_ (Kl_ R hi d st row w V);have ae:=q9_;have af:=ky_;have v:=h_ (fun(W:World) h=>Qs_ R hi d st row ⟨#[118,97,114]⟩ W h);rw[Y]at v;have z:=h_ (fun(W:World) h=>Qs_ R hi d st row ⟨#[114,101,116,117,114,110]⟩ W h);rw[Z]at z;have A:=h_ (fun(W:World) h=>Qs_ R hi d st row ⟨#[105,102]⟩ W h);rw[aa]at A;have B:=h_ (fun(W:World) h=>Qs_ R hi d st row ⟨#[119,104,105,108,101]⟩ W h);rw[ab]at B;generalize Qx_ R.sg st 0=x at T U;obtain⟨kd,xt,xp,xz⟩:=x;dsimp only at T U;have ad:(kd==5)=false:=by rw[bn_];exact U
 generalize Qx_ R.sg st 1=y at a hs C;obtain⟨yk,yt,yp,yz⟩:=y;dsimp only at a hs C;rw[X]at t;clear V hn;go_enter func208,ntmps208;go_wp2_with fail
 refine rst (T.o) F H ?_;intro w1 e I;go_wp2_with fail
 refine rst (v.o _ e.o) e I ?_;intro w2 i J;go_wp2_with fail
 refine rst (z.o _ i.o) i J ?_;intro w3 j K;go_wp2_with fail
 refine rst (A.o _ j.o) j K ?_;intro w4 l L;go_wp2_with fail
 refine rst (B.o _ l.o) l L ?_;intro w5 m M;go_wp2_with fail
 refine rst (t.o _ _ m.o) m M ?_;intro w6 n O;go_wp2_with fail
 refine rst (a.o _ _ n.o) n O ?_;intro w7 o P;go_wp2_with fail
 refine rst (a.o _ _ o.o) o P ?_;intro w8 G Q;go_wp2_with fail
 refine pst (E.o _ _ G.o) Q ?_;intro w9 D p S;have s:=h_ p.o.lo;go_wp2_with fail
 refine pst (KK_ R hi d st2 D ⟨#[59]⟩ 14 noT (some ⟨w9.heap.size,0,none⟩) 1 1 [k] b w9.heap.size _ (p.o.alloc _) (GW_ w9 k) s.o) S ?_;intro ag c g q;go_wp2;go_ret;exact⟨rfl,c,g.o,q.o⟩
theorem Qet_ (R:RC) (hi:R.imp=true) (N f:Nat) (j:R.n < N) (g:EC R N f) (d:Nat) (b:Bool) (st:RdSt) (row:ON) (w:World) (i:RdI R d st row w) (k:Need R.n st 12 (f+1)) (hd:d+f<=100000):
  Calls prog 208 #[P_ (some ⟨R.T,0,none⟩),B_ b] w (QA_ R d row w (I_ j_ (ZJ_ R.sg (Qd_ R.sg N f) d b st).1) (ZJ_ R.sg (Qd_ R.sg N f) d b st).2):=by
 by_cases a:(Qx_ R.sg st 0).1=5
 ·rw[show ZJ_ R.sg (Qd_ R.sg N f) d b st=Xm_ R.sg b st from ip_ a];exact Qes_ R hi N f j g d b st row w i k hd a
 ·rcases bft (isW R.sg st ⟨#[118,97,114]⟩)with c|c
  ·rw[show ZJ_ R.sg (Qd_ R.sg N f) d b st=Jx_ R.sg (Qd_ R.sg N f) d b (Qf_ st)by unfold ZJ_;rw[in_ a,ip_ c]];exact Qf6_ R hi N f j g d b st row w i k hd a c
  ·rcases bft (isW R.sg st ⟨#[114,101,116,117,114,110]⟩)with h1|h1
   ·rw[show ZJ_ R.sg (Qd_ R.sg N f) d b st=Yp_ R.sg (Qd_ R.sg N f) d b (Qf_ st)by unfold ZJ_;rw[in_ a,in_ (by rw[c];decide),ip_ h1]];exact Qf3_ R hi N f j g d b st row w i k hd a c h1
   ·rcases bft (isW R.sg st ⟨#[105,102]⟩)with e|e
    ·rw[show ZJ_ R.sg (Qd_ R.sg N f) d b st=ifS R.sg (Qd_ R.sg N f) d b (Qf_ st)by unfold ZJ_;rw[in_ a,in_ (by rw[c];decide),in_ (by rw[h1];decide),ip_ e]];exact QhO_ R hi N f j g d b st row w i k hd a c h1 e
    ·rcases bft (isW R.sg st ⟨#[119,104,105,108,101]⟩)with h|h
     ·rw[show ZJ_ R.sg (Qd_ R.sg N f) d b st=z6_ R.sg (Qd_ R.sg N f) d b (Qf_ st)by unfold ZJ_;rw[in_ a,in_ (by rw[c];decide),in_ (by rw[h1];decide),in_ (by rw[e];decide),ip_ h]];exact Qca_ R hi N f j g d b st row w i k hd a c h1 e h
     ·rcases bft (setB R.sg st)with l|l
      ·rw[show ZJ_ R.sg (Qd_ R.sg N f) d b st=setS R.sg (Qd_ R.sg N f) d b st by unfold ZJ_;rw[in_ a,in_ (by rw[c];decide),in_ (by rw[h1];decide),in_ (by rw[e];decide),in_ (by rw[h];decide),ip_ l]];exact Qf4_ R hi N f j g d b st row w i k hd a c h1 e h l
      ·rw[show ZJ_ R.sg (Qd_ R.sg N f) d b st=doS R.sg (Qd_ R.sg N f) d b st by unfold ZJ_;rw[in_ a,in_ (by rw[c];decide),in_ (by rw[h1];decide),in_ (by rw[e];decide),in_ (by rw[h];decide),in_ (by rw[l];decide)]];unfold setB at l;rcases bft (Kp_ R.sg st 0)with m|m
       ·rw[m,Bool.true_and]at l;rcases bft ((Qx_ R.sg st 1).2.1.toList==[61])with n|n
        ·rw[n,Bool.true_and]at l;exact Qer_ R hi N f j g d b st row w i k hd a c h1 e h m n l
        ·exact Qeq_ R hi N f j g d b st row w i k hd a c h1 e h m n
       ·exact Qep_ R hi N f j g d b st row w i k hd a c h1 e h m
theorem ec_u {R:RC} {N f:Nat} (U:Nat->Prop) (h:EC R N f):EC { R with U:=U } N f:=
 ⟨fun U' d st row w a=>h.value U' d st row w a,fun U' d st row w a=>h.pick U' d st row w a,fun U' l d st row w a=>h.chain U' l d st row w a,fun U' d st row w a=>h.end_ U' d st row w a,fun U' d st row w a=>h.base U' d st row w a,fun U' b d st row w a=>h.stmt U' b d st row w a,fun U' d st row w a=>h.block U' d st row w a⟩
theorem GQ_ (R:RC) (hi:R.imp=true) (N:Nat) (g:R.n < N):∀f,EC R N f:=by
 intro f
 induction f with
 |zero=>
  exact⟨fun U d st row w c a=>absurd a.1 oo,fun U d st row w c a=>absurd a.1 oo,fun U l d st row w c hl a=>absurd a.1 oo,fun U d st row w c a=>absurd a.1 oo,fun U d st row w c a=>absurd a.1 oo,fun U b d st row w c a=>absurd a.1 oo,fun U d st row w c a=>absurd a.1 oo⟩
 |succ f e=>
  exact⟨fun U d st row w c a hd=>Qcc_ { R with U:=U } hi N f g (ec_u U e) d st row w c a hd,
   fun U d st row w c a hd=>QdQ_ { R with U:=U } hi N f (ec_u U e) d st row w c a hd,
   fun U l d st row w c hl a hd=>QaL_ { R with U:=U } hi N f g (ec_u U e) l d hl st row w c a hd,
   fun U d st row w c a hd=>Qfc_ { R with U:=U } hi N f g (ec_u U e) d st row w c a hd,
   fun U d st row w c a hd=>Qct_ { R with U:=U } hi N f g (ec_u U e) d st row w c a hd,
   fun U b d st row w c a hd=>Qet_ { R with U:=U } hi N f g (ec_u U e) d b st row w c a oo,
   fun U d st row w c a hd=>QaI_ { R with U:=U } hi N f g (ec_u U e) d st row w c a hd⟩
theorem qG_ {n r F:Nat} (st:RdSt) (hF:14 * (n+2)<=F) (hr:r<=13):Need n st r F:=⟨oo,fun s _=>by
 have:n - s.at_<=n:=oo;omega⟩
theorem Wk_ (R:RC) (hi:R.imp=true) (N F:Nat) (hF:14 * (R.n+2)<=F) (hd:F<=100000) (hN:R.n < N) (HE:EC R N F) (b cl:Bool) (st:RdSt) (row:ON) (w:World) (f:RdI R 0 st row w) (d:(Qx_ R.sg st 0).1=5):
  Calls prog 118 #[P_ (some ⟨R.T,0,none⟩),B_ b,B_ cl] w (QA_ R 0 row w (I_ j_ (Xm_ R.sg b st).1) (Xm_ R.sg b st).2):=by
 have a:∀s,st=some s->s.at_ < R.n:=fun s e=>by
  rcases Nat.lt_or_ge s.at_ R.sg.length with hl|hl
  ·rw[<-f.ok.len];exact hl
  ·exact absurd d (by rw[e,ZO_ (i:=0) hl];decide)
 have c:=h_ (fun(row:ON) (W:World) h=>v8_ R hi 0 st row b W h a);unfold QA_ at c |-
 generalize Xm_ R.sg b st=r at c |-
 obtain⟨k,st2⟩:=r;dsimp only at c |-
 have g:=h_ f;have m:=h_ (Kr.refl R.T row w);have p:=h_ (Kl_ R hi 0 st row w f);have q:=q9_;generalize Qx_ R.sg st 0=x at p d;obtain⟨kd,xt,xp,xz⟩:=x;dsimp only at p d;subst d;clear f a;go_enter func118,ntmps118;go_wp2_with fail
 refine rst (p.o) g m ?_;intro w1 j n;go_wp2_with fail
 refine pst (c.o _ _ j.o) n ?_;intro w2 row2 l o;go_wp2;go_ret;exact⟨rfl,row2,l.o,o.o⟩
theorem zG_ (R:RC) (hi:R.imp=true) (N F:Nat) (hF:14 * (R.n+2)<=F) (hd:F<=100000) (hN:R.n < N) (HE:EC R N F) (b cl:Bool) (st:RdSt) (row:ON) (w:World) (i:RdI R 0 st row w) (v:(Qx_ R.sg st 0).1≠5) (e:isW R.sg st ⟨#[118,97,114]⟩=true):
  Calls prog 118 #[P_ (some ⟨R.T,0,none⟩),B_ b,B_ cl] w (QA_ R 0 row w (I_ j_ (Jx_ R.sg (Qd_ R.sg N F) 0 b (Qf_ st)).1) (Jx_ R.sg (Qd_ R.sg N F) 0 b (Qf_ st)).2):=by
 obtain⟨s,es,d⟩:=U9_ e;subst es;have y:s.at_ < R.n:=by rw[<-i.ok.len];exact d
 have g:=h_ (fun(row:ON) (W:World) h=>Gd_ R hi N F HE 0 b s row W h y (qG_ (r:=12) (F:=F+1) (some s) oo oo) oo);unfold QA_ at g |-
 generalize Jx_ R.sg (Qd_ R.sg N F) 0 b (Qf_ (some s))=r at g |-
 obtain⟨k,st2⟩:=r;dsimp only at g |-
 have j:=h_ i;have n:=h_ (Kr.refl R.T row w);have t:=h_ (Kl_ R hi 0 (some s) row w i);have A:=q9_;have c:=h_ (fun(W:World) h=>Qs_ R hi 0 (some s) row ⟨#[118,97,114]⟩ W h);rw[e]at c;generalize Qx_ R.sg (some s) 0=x at t v;obtain⟨kd,xt,xp,xz⟩:=x;dsimp only at t v;have z:(kd==5)=false:=by rw[bn_];exact v
 clear i d;go_enter func118,ntmps118;go_wp2_with fail
 refine rst (t.o) j n ?_;intro w1 a o;go_wp2_with fail
 refine rst (c.o _ a.o) a o ?_;intro w2 l p;go_wp2_with fail
 refine pst (g.o _ _ l.o) p ?_;intro w3 f m q;go_wp2;go_ret;exact⟨rfl,f,m.o,q.o⟩
theorem qE_ (R:RC) (hi:R.imp=true) (N F:Nat) (hF:14 * (R.n+2)<=F) (hd:F<=100000) (hN:R.n < N) (HE:EC R N F) (b cl:Bool) (st:RdSt) (row:ON) (w:World) (t:RdI R 0 st row w) (h5:(Qx_ R.sg st 0).1≠5) (ag:isW R.sg st ⟨#[118,97,114]⟩=false) (af:cl=false):
  Calls prog 118 #[P_ (some ⟨R.T,0,none⟩),B_ b,B_ cl] w (QA_ R 0 row w (I_ j_ (VU_ R.sg (Qd_ R.sg N F) N b st).1) (VU_ R.sg (Qd_ R.sg N F) N b st).2):=by
 obtain⟨i0,v,y,z,B⟩:=info_parts QY_;have am:=h_ (ai_ v (ai_ y (ai_ z B)));clear v y z B;have ac:=h_ t.lo;have J:=h_ t.lo.1;have a:=h_ (fun(row:ON) (W:World) h=>JW_ R hi 0 st row W h);unfold QA_ at a |-
 unfold VU_;dsimp only;generalize nmT R.sg st=nt at a |-
 generalize nmS R.sg st=f at a |-
 have H:=h_ (fun(row:ON) (W:World) h=>We_ R.U hi 0 (Qn_ R.sg f ⟨#[40]⟩) row ⟨#[41]⟩ N W h hN);generalize QG_ R.sg (Qj_ R.sg) ⟨#[41]⟩ N [] (Qn_ R.sg f ⟨#[40]⟩)=q at H |-
 obtain⟨ks,g⟩:=q;dsimp only at H |-
 have o:=h_ (fun(U:Nat->Prop) (row:ON) (W:World) h=>HE.block U 0 (Qn_ R.sg g ⟨#[41]⟩) row W h (qG_ _ hF oo) oo);unfold QA_ at o;generalize Qd_ R.sg N F .block 0 (Qn_ R.sg g ⟨#[41]⟩)=r at o |-
 obtain⟨k,aj⟩:=r;dsimp only at o |-
 have K:=h_ t;have S:=h_ (Kr.refl R.T row w);have HX:=h_ (Kl_ R hi 0 st row w t);have ao:=q9_;have p:=h_ (fun(W:World) h=>Qs_ R hi 0 st row ⟨#[118,97,114]⟩ W h);rw[ag]at p;generalize Qx_ R.sg st 0=x at HX h5;obtain⟨kd,xt,xp,xz⟩:=x;dsimp only at HX h5;have an:(kd==5)=false:=by rw[bn_];exact h5
 clear t;subst af;go_enter func118,ntmps118;go_wp2_with fail
 refine rst (HX.o) K S ?_;intro w1 i T;go_wp2_with fail
 refine rst (p.o _ i.o) i T ?_;intro w2 L V;go_wp2_with fail
 refine pst (a.o _ _ L.o) V ?_;intro w3 C M X;go_wp2_with fail
 refine pst (ZQ_ R hi 0 f C ⟨#[40]⟩ w3 M.o) X ?_;intro w4 ak O m;go_wp2_with fail
 refine(H.o _ _ O.o).mono ?_;rintro e w5 ⟨A,c,rfl,m2,ap,D,h2,k2⟩;have Y:=QS_ m k2;have j:=h_ h2;have d:=h_ (m2.more (B':=w.heap.size) m.o.size);clear h2 k2 m2 H;go_wp2_with fail
 refine(Qat_ _ hi 0 g D ⟨#[41]⟩ w5 j.o).mono ?_;rintro e w6 ⟨rfl,al,h3,k3⟩;replace d:=h_ (j.o.keepI k3 d.o);have l:=h_ h3;have Z:=h_ (Y.o.trans k3);clear h3 k3;go_wp2_with fail
 refine(o.o _ _ _ l.o).mono ?_;rintro e w7 ⟨rfl,E,s,k5⟩;replace d:=h_ (l.o.keepI k5 d.o);have P:=h_ s;have aa:=h_ (Z.o.trans k5);clear s k5 o;go_wp2_with (at_builtin;refine KA_ (.tmp 47) (.tmp 49) P aa d J rfl rfl rfl rfl oo ?_;intro A8 c8 w8 Q ab n)
 replace d:=n;clear n;have hA:=addK R hi 0 aj E 20 nt A8 (ks.length+1) c8 (ks++[k]) b w.heap.size w8 Q.o.unres d.o ac.o;unfold QA_ at hA;have I:=h_ hA;clear hA;go_wp2_with fail
 refine I.o.mono ?_;rintro e w9 ⟨rfl,G,h8,k8⟩;go_wp2;go_ret;exact⟨rfl,G,h8,ab.o.trans k8⟩
theorem qF_ (R:RC) (hi:R.imp=true) (N F:Nat) (hF:14 * (R.n+2)<=F) (hd:F<=100000) (hN:R.n < N) (HE:EC R N F) (b cl:Bool) (st:RdSt) (row:ON) (w:World) (z:RdI R 0 st row w) (h5:(Qx_ R.sg st 0).1≠5) (aj:isW R.sg st ⟨#[118,97,114]⟩=false) (ak:isW R.sg st ⟨#[99,108,97,115,115]⟩=false) (ai:cl=true):
  Calls prog 118 #[P_ (some ⟨R.T,0,none⟩),B_ b,B_ cl] w (QA_ R 0 row w (I_ j_ (VU_ R.sg (Qd_ R.sg N F) N b st).1) (VU_ R.sg (Qd_ R.sg N F) N b st).2):=by
 obtain⟨i0,B,C,D,E⟩:=info_parts QY_;have aq:=h_ (ai_ B (ai_ C (ai_ D E)));clear B C D E;have af:=h_ z.lo;have L:=h_ z.lo.1;have a:=h_ (fun(row:ON) (W:World) h=>JW_ R hi 0 st row W h);unfold QA_ at a |-
 unfold VU_;dsimp only;generalize nmT R.sg st=nt at a |-
 generalize nmS R.sg st=g at a |-
 have J:=h_ (fun(row:ON) (W:World) h=>We_ R.U hi 0 (Qn_ R.sg g ⟨#[40]⟩) row ⟨#[41]⟩ N W h hN);generalize QG_ R.sg (Qj_ R.sg) ⟨#[41]⟩ N [] (Qn_ R.sg g ⟨#[40]⟩)=q at J |-
 obtain⟨ks,i⟩:=q;dsimp only at J |-
 have s:=h_ (fun(U:Nat->Prop) (row:ON) (W:World) h=>HE.block U 0 (Qn_ R.sg i ⟨#[41]⟩) row W h (qG_ _ hF oo) oo);unfold QA_ at s;generalize Qd_ R.sg N F .block 0 (Qn_ R.sg i ⟨#[41]⟩)=r at s |-
 obtain⟨k,an⟩:=r;dsimp only at s |-
 have M:=h_ z;have V:=h_ (Kr.refl R.T row w);have HX:=h_ (Kl_ R hi 0 st row w z);have av:=q9_;have t:=h_ (fun(W:World) h=>Qs_ R hi 0 st row ⟨#[118,97,114]⟩ W h);rw[aj]at t;have v:=h_ (fun(W:World) h=>Qs_ R hi 0 st row ⟨#[99,108,97,115,115]⟩ W h);rw[ak]at v;generalize Qx_ R.sg st 0=x at HX h5;obtain⟨kd,xt,xp,xz⟩:=x;dsimp only at HX h5;have ar:(kd==5)=false:=by rw[bn_];exact h5
 clear z;subst ai;go_enter func118,ntmps118;go_wp2_with fail
 refine rst (HX.o) M V ?_;intro w1 j X;go_wp2_with fail
 refine rst (t.o _ j.o) j X ?_;intro w2 l Y;go_wp2_with fail
 refine rst (v.o _ l.o) l Y ?_;intro w3 O Z;go_wp2_with fail
 refine pst (a.o _ _ O.o) Z ?_;intro w4 G P aa;go_wp2_with fail
 refine pst (ZQ_ R hi 0 g G ⟨#[40]⟩ w4 P.o) aa ?_;intro w5 ao Q o;go_wp2_with fail
 refine(J.o _ _ Q.o).mono ?_;rintro e w6 ⟨A,c,rfl,m2,ax,H,h2,k2⟩;have ab:=QS_ o k2;have m:=h_ h2;have d:=h_ (m2.more (B':=w.heap.size) o.o.size);clear h2 k2 m2 J;go_wp2_with fail
 refine(Qat_ _ hi 0 i H ⟨#[41]⟩ w6 m.o).mono ?_;rintro e w7 ⟨rfl,ap,h3,k3⟩;replace d:=h_ (m.o.keepI k3 d.o);have n:=h_ h3;have ac:=h_ (ab.o.trans k3);clear h3 k3;go_wp2_with fail
 refine(s.o _ _ _ n.o).mono ?_;rintro e w8 ⟨rfl,I,y,k5⟩;replace d:=h_ (n.o.keepI k5 d.o);have S:=h_ y;have ad:=h_ (ac.o.trans k5);clear y k5 s;go_wp2_with (at_builtin;refine KA_ (.tmp 47) (.tmp 49) S ad d L rfl rfl rfl rfl oo ?_;intro A9 c9 w9 T ae p)
 replace d:=p;clear p;have hA:=addK R hi 0 an I 20 nt A9 (ks.length+1) c9 (ks++[k]) b w.heap.size w9 T.o.unres d.o af.o;unfold QA_ at hA;have K:=h_ hA;clear hA;go_wp2_with fail
 refine K.o.mono ?_;rintro e ay ⟨rfl,f,h8,k8⟩;go_wp2;go_ret;exact⟨rfl,f,h8,ae.o.trans k8⟩
theorem Qby_ (R:RC) (hi:R.imp=true) (N F:Nat) (e:14 * (R.n+2)<=F) (hd:F<=100000) (g:R.n < N) (d:EC R N F) (b:Bool) (st:RdSt) (row:ON) (w:World) (f:RdI R 0 st row w):
  Calls prog 118 #[P_ (some ⟨R.T,0,none⟩),B_ b,B_ false] w (QA_ R 0 row w (I_ j_ (V6_ R.sg (Qd_ R.sg N F) N b st).1) (V6_ R.sg (Qd_ R.sg N F) N b st).2):=by
 by_cases a:(Qx_ R.sg st 0).1=5
 ·rw[show V6_ R.sg (Qd_ R.sg N F) N b st=Xm_ R.sg b st from ip_ a];exact Wk_ R hi N F e hd g d b false st row w f a
 ·rcases bft (isW R.sg st ⟨#[118,97,114]⟩)with c|c
  ·rw[show V6_ R.sg (Qd_ R.sg N F) N b st=Jx_ R.sg (Qd_ R.sg N F) 0 b (Qf_ st)by unfold V6_;rw[in_ a,ip_ c]];exact zG_ R hi N F e hd g d b false st row w f a c
  ·rw[show V6_ R.sg (Qd_ R.sg N F) N b st=VU_ R.sg (Qd_ R.sg N F) N b st by unfold V6_;rw[in_ a,in_ (by rw[c];decide)]];exact qE_ R hi N F e hd g d b false st row w f a c rfl
theorem QaO_ (R:RC) (hi:R.imp=true) (N F:Nat) (hF:14 * (R.n+2)<=F) (hd:F<=100000) (hN:R.n < N) (HE:EC R N F) (bl:Bool) (s:PS) (row:ON) (w:World) (hI:RdI R 0 (some s) row w) (aV:s.at_ < R.n):
  Calls prog 162 #[P_ (some ⟨R.T,0,none⟩),B_ bl] w (QA_ R 0 row w (I_ j_ (Vd_ R.sg (Qd_ R.sg N F) N bl (Qf_ (some s))).1) (Vd_ R.sg (Qd_ R.sg N F) N bl (Qf_ (some s))).2):=by
 obtain⟨i0,aH,aI,aJ,aK⟩:=info_parts QY_;have a2:=h_ (ai_ aH (ai_ aI (ai_ aJ aK)));clear aH aI aJ aK;have ay:=h_ hI;have aA:=h_ (Kr.refl R.T row w);have aQ:=h_ hI.lo;have ax:=h_ hI.lo.1;have HL:=h_ (fun t (e:(some s)=some t)=>show t.at_ < R.n by obtain rfl:=oi_ e;exact aV);have V:=h_ (fun(row:ON) (W:World) h=>JW_ R hi 0 (Qf_ (some s)) row W h);have HO:Hid (QeS_ R 0 (some s) (V6_ R.sg (Qd_ R.sg N F) N) (fun w b Q=>Calls prog 118 #[P_ (some ⟨R.T,0,none⟩),B_ b,B_ false] w Q)):=(show QeS_ _ _ _ _ _ from fun U b t row w h ha=>Qby_ { R with U:=U } hi N F hF hd hN (ec_u U HE) b (some t) row w h);have av:Hid (∀b st,Adv 1 1 st (V6_ R.sg (Qd_ R.sg N F) N b st).2):=(show ∀b st,_ from fun b st=>z9_ (fun m d st=>QB_ F m d st) b st);unfold QA_ at V |-
 unfold Vd_;dsimp only;generalize V6_ R.sg (Qd_ R.sg N F) N=one at HO av |-
 generalize nmT R.sg (Qf_ (some s))=nt at V |-
 have O:=((Qh_ (some s)).trans (Jy_ (sg:=R.sg) (Qf_ (some s)))).trans (Qq_ (sg:=R.sg) (nmS R.sg (Qf_ (some s))) ⟨#[123]⟩);generalize nmS R.sg (Qf_ (some s))=ab at V O |-
 obtain⟨Q,hQ⟩:=ex_ (Zv_ R.sg one N [] (Qn_ R.sg ab ⟨#[123]⟩));rw[hQ];have HQ:=h_ hQ;have G:Hid (Adv 1 0 (some s) (Qn_ R.sg ab ⟨#[123]⟩)):=O.weak oo oo;have a3:=fld3;clear hI O hQ;go_enter func162,ntmps162;go_wp2_with fail
 refine pst (Zo_ R hi 0 (some s) row w ay.o HL.o) aA ?_;intro w1 a1 az aB;go_wp2_with fail
 refine pst (V.o _ _ az.o) aB ?_;intro w2 row2 j o;go_wp2_with fail
 refine pst (ZQ_ R hi 0 ab row2 ⟨#[123]⟩ w2 j.o) o ?_;intro w3 aL k y;generalize Qn_ R.sg ab ⟨#[123]⟩=st2 at HQ G k;go_upto_region 5 with fail
 go_loopw [6] (fun v wr=>∃(M:Nat) (ks:LI) (st':RdSt) (row':ON) (A:OA) (c:Nat),v=S_ A ks.length c/\Hid (Zv_ R.sg one M ks st'=Q)/\Hid (Adv 1 0 (some s) st')/\Hid (Enough R.n M st')/\Hid (KidB ks st')/\Hid (Mine wr w.heap.size 3 1 A ks.length c (Qa_ ks))/\Hid (RdI (R.res A) 0 st' row' wr)/\Hid (Kr R.T row w row' wr)) (fun _ wr=>Z1_ R wr)
 case atStart=>exact⟨N,[],st2,aL,none,0,rfl,HQ,G,(show Enough _ _ _ from QP_ hN _),⟨by simp,fun s _=>by simp⟩,Mine.mk_nil _ _ _ _,k.o.res_new br (fun g hg=>by cases hg),y⟩
 case round=>
  clear HQ G ay az j k aA aB o y;obtain⟨M,ks,st',row',A,c,rfl,HQ,af,ai,aC,E,I,HK⟩:=hrel;have C:=h_ (fun(row:ON) (W:World) (hI:RdI R 0 st' row W) (hm:Mine W w.heap.size 3 1 A ks.length c (Qa_ ks))=>KK_ R hi 0 st' row ⟨#[125]⟩ 21 nt A ks.length c ks bl w.heap.size W hI hm aQ.o);unfold QA_ at C
  cases st' with
  |none=>
   obtain⟨a,b,AN,cN,l,hc,hb,S⟩:=I.o;obtain⟨c2,c3,c4,cf,cz⟩:=hc.cu _ hi;obtain rfl:b=true:=hb;have p:=HQ.o;rw[Xx_]at p;subst p;clear hc c2 c3 S HQ;go_wp2_with fail
   refine(C.o _ _ I.o.unres E.o).mono ?_;rintro e w4 ⟨rfl,n,Z,T⟩;clear c4 cf cz;go_wp2;go_ret;exact⟨rfl,n,Z,HK.o.trans T⟩
  |some t=>
   obtain⟨M,rfl⟩:∃M',M=M'+1:=⟨M - 1,by
    have h1:=ai.o t rfl;have h2:=(I.o.le rfl).1;have:(R.res A).n=R.n:=rfl;omega⟩
   obtain⟨a,b,AN,cN,l,hc,hb,S⟩:=I.o;obtain⟨c2,c3,c4,cf,cz⟩:=hc.cu _ hi;obtain⟨rfl,_,_⟩:=hb;have z:=h_ (is_u _ hi 0 (some t) row' ⟨#[125]⟩ wr I.o);have p:=HQ.o;unfold Zv_ at p;rw[in_ (show ¬(some t).isNone=true by simp)]at p;clear hc c2 c3 S HQ;rcases bft (isM R.sg (some t) ⟨#[125]⟩)with hM|hM
   ·rw[ip_ hM]at p;subst p;rw[hM]at z;clear hM;go_wp2_with fail
    refine z.o.mono ?_;rintro e w2 ⟨rfl,D⟩;have j:=h_ (I.o.next D);have B:=h_ (E.o.next D);have o:=h_ (HK.o.below D);clear c4 cf cz D;go_wp2_with fail
    refine(C.o _ _ j.o.unres B.o).mono ?_;rintro e w4 ⟨rfl,n,Z,T⟩;go_wp2;go_ret;exact⟨rfl,n,Z,o.o.trans T⟩
   ·rw[in_ (by rw[hM];decide)]at p;rw[hM]at z;have HX:=h_ (fun(row:ON) (W:World) h=>QdK_ (R:=R) (fun x=>R.U x\/A.map (·.block)=some x) hi 0 (some t) row W h);have aa:XI_ R.sg (some t) ks=((Qx_ R.sg (some t) 0).2.2.2&&decide (0 < ks.length)):=rfl;rw[aa]at p;generalize Qx_ R.sg (some t) 0=x at HX p aa;obtain⟨xk,xt,xp,xz⟩:=x;dsimp only at HX p aa;clear hM aa C;have a0:=aC.o.2 t rfl;have a5:=(I.o.le rfl).2;have a4:=aC.o.1;have X:Hid (∀bb:Bool,(xz&&decide (0 < ks.length))=bb->∃r:PR,Zv_ R.sg one M (ks++[r.1]) r.2=Q/\Adv 1 1 (some t) r.2/\∀(row:ON) (W:World),RdI { R with U:=fun x=>R.U x\/A.map (·.block)=some x } 0 (some t) row W->Calls prog 118 #[P_ (some ⟨R.T,0,none⟩),B_ bb,B_ false] W (fun e w'=>e=R_ (I_ j_ r.1)/\∃row',RdI { R with U:=fun x=>R.U x\/A.map (·.block)=some x } 0 r.2 row' w'/\Kr R.T row W row' w')):=(show ∀bb,_->_ from fun bb e=>⟨one bb (some t),by rw[<-e];exact p,av.o bb (some t),fun row W h=>HO.o _ bb t row W h af.o⟩);clear p
    cases xz with
    |false=>
     obtain⟨r,p,f,hC⟩:=X.o false rfl;obtain⟨kc,q⟩:=r;dsimp only at p f hC;have am:=h_ p;have HC:=h_ hC;have H:=h_ f;have ag:Hid (KidB (ks++[kc]) q):=(show KidB _ _ from⟨by rw[lA];simp;omega,fun t2 e=>by
      obtain⟨aX,e2,_,h3⟩:=f t2 e;obtain rfl:=oi_ e2;rw[lA];simp;omega⟩)
     have ah:Hid (Enough R.n M q):=ai.o.adv (i:=0) f;have ae:Hid (Adv 1 0 (some s) q):=(af.o.trans f).weak oo oo;have P:(ks++[kc]).length=ks.length+1:=sm_;clear p hC f X;go_wp2_with fail
     refine z.o.mono ?_;rintro e w2 ⟨rfl,D⟩;have j:=h_ (I.o.next D);have B:=h_ (E.o.next D);have o:=h_ (HK.o.below D);clear c4 cf cz D z;go_wp2_with fail
     refine(HX.o _ _ j.o).mono ?_;rintro e w3 ⟨rfl,Y⟩;have k:=h_ (j.o.next Y);have K:=h_ (B.o.next Y);have y:=h_ (o.o.below Y);clear Y HX j B o;go_wp2_with fail
     refine(HC.o _ _ k.o).mono ?_;rintro e w4 ⟨rfl,n,Z,T⟩;have E:=h_ (k.o.keepI T K.o);have aj:=h_ Z;have ak:=h_ (y.o.trans T);clear Z T k K y;go_wp2_with (at_builtin;refine KA_ (.tmp 34) (.tmp 36) aj ak E ax rfl rfl rfl rfl oo ?_;intro A5 c5 w5 J al L)
     replace E:=L;clear L;go_wp2;go_roundw
     case rel=>exact⟨M,ks++[kc],q,n,A5,c5,by rw[P],am,ae,ah,ag,by rw[P];exact E,J,al⟩
     case measure=>exact G2_ hi I.o J.o (H.o.weak (i':=1) (j':=0) oo oo)
    |true=>
     obtain⟨r,p,f,hC⟩:=X.o _ rfl;obtain⟨kc,q⟩:=r;dsimp only at p f hC;rw[Bool.true_and]at hC;have am:=h_ p;have HC:=h_ hC;have H:=h_ f;have ag:Hid (KidB (ks++[kc]) q):=(show KidB _ _ from⟨by rw[lA];simp;omega,fun t2 e=>by
      obtain⟨aX,e2,_,h3⟩:=f t2 e;obtain rfl:=oi_ e2;rw[lA];simp;omega⟩)
     have ah:Hid (Enough R.n M q):=ai.o.adv (i:=0) f;have ae:Hid (Adv 1 0 (some s) q):=(af.o.trans f).weak oo oo;have P:(ks++[kc]).length=ks.length+1:=sm_;clear p hC f X;go_wp2_with fail
     refine z.o.mono ?_;rintro e w2 ⟨rfl,D⟩;have j:=h_ (I.o.next D);have B:=h_ (E.o.next D);have o:=h_ (HK.o.below D);clear c4 cf cz D z;go_wp2_with fail
     refine(HX.o _ _ j.o).mono ?_;rintro e w3 ⟨rfl,Y⟩;have k:=h_ (j.o.next Y);have K:=h_ (B.o.next Y);have y:=h_ (o.o.below Y);clear Y HX j B o;go_wp2_with fail
     refine(HC.o _ _ k.o).mono ?_;rintro e w4 ⟨rfl,n,Z,T⟩;have E:=h_ (k.o.keepI T K.o);have aj:=h_ Z;have ak:=h_ (y.o.trans T);clear Z T k K y;go_wp2_with (at_builtin;refine KA_ (.tmp 34) (.tmp 36) aj ak E ax rfl rfl rfl rfl oo ?_;intro A5 c5 w5 J al L)
     replace E:=L;clear L;go_wp2;go_roundw
     case rel=>exact⟨M,ks++[kc],q,n,A5,c5,by rw[P],am,ae,ah,ag,by rw[P];exact E,J,al⟩
     case measure=>exact G2_ hi I.o J.o (H.o.weak (i':=1) (j':=0) oo oo)
theorem xi_ (R:RC) (hi:R.imp=true) (N F:Nat) (hF:14 * (R.n+2)<=F) (hd:F<=100000) (hN:R.n < N) (HE:EC R N F) (b:Bool) (st:RdSt) (row:ON) (w:World) (l:RdI R 0 st row w) (A:(Qx_ R.sg st 0).1≠5) (C:isW R.sg st ⟨#[118,97,114]⟩=false) (g:isW R.sg st ⟨#[99,108,97,115,115]⟩=true):
  Calls prog 118 #[P_ (some ⟨R.T,0,none⟩),B_ b,B_ true] w (QA_ R 0 row w (I_ j_ (Vd_ R.sg (Qd_ R.sg N F) N b (Qf_ st)).1) (Vd_ R.sg (Qd_ R.sg N F) N b (Qf_ st)).2):=by
 obtain⟨s,es,f⟩:=U9_ g;subst es;have B:s.at_ < R.n:=by rw[<-l.ok.len];exact f
 have j:=h_ (fun(row:ON) (W:World) h=>QaO_ R hi N F hF hd hN HE b s row W h B);unfold QA_ at j |-
 generalize Vd_ R.sg (Qd_ R.sg N F) N b (Qf_ (some s))=r at j |-
 obtain⟨k,st2⟩:=r;dsimp only at j |-
 have m:=h_ l;have p:=h_ (Kr.refl R.T row w);have z:=h_ (Kl_ R hi 0 (some s) row w l);have E:=q9_;have d:=h_ (fun(W:World) h=>Qs_ R hi 0 (some s) row ⟨#[118,97,114]⟩ W h);rw[C]at d;have e:=h_ (fun(W:World) h=>Qs_ R hi 0 (some s) row ⟨#[99,108,97,115,115]⟩ W h);rw[g]at e;generalize Qx_ R.sg (some s) 0=x at z A;obtain⟨kd,xt,xp,xz⟩:=x;dsimp only at z A;have D:(kd==5)=false:=by rw[bn_];exact A
 clear l f;go_enter func118,ntmps118;go_wp2_with fail
 refine rst (z.o) m p ?_;intro w1 a q;go_wp2_with fail
 refine rst (d.o _ a.o) a q ?_;intro w2 c t;go_wp2_with fail
 refine rst (e.o _ c.o) c t ?_;intro w3 n v;go_wp2_with fail
 refine pst (j.o _ _ n.o) v ?_;intro w4 i o y;go_wp2;go_ret;exact⟨rfl,i,o.o,y.o⟩
theorem Qbz_ (R:RC) (hi:R.imp=true) (N F:Nat) (e:14 * (R.n+2)<=F) (hd:F<=100000) (g:R.n < N) (d:EC R N F) (b:Bool) (st:RdSt) (row:ON) (w:World) (f:RdI R 0 st row w):
  Calls prog 118 #[P_ (some ⟨R.T,0,none⟩),B_ b,B_ true] w (QA_ R 0 row w (I_ j_ (Y9_ R.sg (Qd_ R.sg N F) N b st).1) (Y9_ R.sg (Qd_ R.sg N F) N b st).2):=by
 by_cases a:(Qx_ R.sg st 0).1=5
 ·rw[show Y9_ R.sg (Qd_ R.sg N F) N b st=Xm_ R.sg b st from ip_ a];exact Wk_ R hi N F e hd g d b true st row w f a
 ·rcases bft (isW R.sg st ⟨#[118,97,114]⟩)with c|c
  ·rw[show Y9_ R.sg (Qd_ R.sg N F) N b st=Jx_ R.sg (Qd_ R.sg N F) 0 b (Qf_ st)by unfold Y9_;rw[in_ a,ip_ c]];exact zG_ R hi N F e hd g d b true st row w f a c
  ·rcases bft (isW R.sg st ⟨#[99,108,97,115,115]⟩)with h1|h1
   ·rw[show Y9_ R.sg (Qd_ R.sg N F) N b st=Vd_ R.sg (Qd_ R.sg N F) N b (Qf_ st)by unfold Y9_;rw[in_ a,in_ (by rw[c];decide),ip_ h1]];exact xi_ R hi N F e hd g d b st row w f a c h1
   ·rw[show Y9_ R.sg (Qd_ R.sg N F) N b st=VU_ R.sg (Qd_ R.sg N F) N b st by unfold Y9_;rw[in_ a,in_ (by rw[c];decide),in_ (by rw[h1];decide)]];exact qF_ R hi N F e hd g d b true st row w f a c h1 rfl
theorem Qhc_:(prog.info? 160).map (fun i=>(i.zero,i.size,i.bytes))=some (some (A_ #[I_ j_ 0,I_ j_ 0]),2,16):=by kernel_rfl
theorem QeJ_ (a b:Int):∀u∈[I_ j_ a,I_ j_ b],u.oneCell'=true:=by
 intro u hu;simp at hu;rcases hu with rfl|rfl<;>rfl
theorem RC.ty_two (R:RC):R.ty≠160:=by unfold RC.ty;cases R.imp<;>decide
abbrev RC.mem (R:RC) (v:Value):RC:={ R with M:=v }
section
variable {R:RC} {a d:Nat} {b:Bool} {AN:OA} {cN:Nat} {l:List Nd} {st:RdSt} {row:ON} {w w1 w3:World}
theorem RdI.members (hi:R.imp=true) (h:RdI R d st row w) {B:Nat} {e:TypeId} {S n c n':Nat} {A:OA} {xs ys:List Value} {v':Value} (C:e≠R.ty) (J:e≠96) (K:e≠3) (hm:Mine w B e S A n c xs) (hB:R.w0.heap.size<=B) (G:Below w.heap.size w w1)
  (F:w3.ownsRow B e S v' n' ys) (s:w1.grownBy w3 (S_ A n c).ownBlock):
  ∃A' c',v'=S_ A' n' c'/\RdI (R.mem v') d st row (w3.setCell ⟨R.T,6,none⟩ v')/\Mine (w3.setCell ⟨R.T,6,none⟩ v') B e S A' n' c' ys/\(∃v6,w3.cell? ⟨R.T,6,none⟩=some v6)/\(∀i,w3.frozen? ⟨R.T,i,none⟩=false)/\R.T < w3.heap.size/\∃cs,Blk w3 R.T R.ty cs:=by
 obtain⟨A',c',rfl,m3⟩:=Mine.of F;rw[Q3_]at s;obtain⟨a,b,AN,cN,l,hc,h2⟩:=h;have O:=hm.next G;obtain⟨c1,c2,c3,c4,c5,c6,y⟩:=hc.next G;have r:∀g t cs,Blk w1 g t cs->t≠e->some g≠A.map (·.block):=fun g t cs hk ht e=>by
  obtain⟨T,N⟩:=Qw_ O e.symm;exact Kj_ hk N ht rfl
 have f:=c1.grown s (r _ _ _ c1 (Ne.symm C));have m:∀v,(R.cells a d b (S_ AN l.length cN)).setIfInBounds 6 v=(R.mem v).cells a d b (S_ AN l.length cN):=fun v=>by
  unfold RC.cells;rw[ip_ hi,ip_ (show(R.mem v).imp=true from hi)];simp
 have D:∀x∈l,KidsIn w3 R.w0.heap.size R.U x:=fun x H=>by
  refine⟨(c3.1 x H).1,?_⟩;have hy:=(c3.1 x H);have k:=hy.2.len;rcases hy.2.own with⟨o,z,I⟩|⟨g',o,p,P,q,rest,j,hs⟩
  ·rw[o,z,I];exact⟨by rw[k,z],.inl ⟨rfl,rfl⟩⟩
  ·rw[o];exact Mine.mk_own ⟨rest,j.grown s (r _ _ _ j (Ne.symm K)),hs⟩ k p P q
 have Q:Mine w3 R.w0.heap.size 96 4 AN l.length cN (l.flatMap Qv_):=by
  have k:=c2.len;rcases c2.own with⟨o,z,I⟩|⟨g',o,p,P,q,rest,j,hs⟩
  ·rw[o,z,I];exact⟨by rw[k,z],.inl ⟨rfl,rfl⟩⟩
  ·rw[o];exact Mine.mk_own ⟨rest,j.grown s (r _ _ _ j (Ne.symm J)),hs⟩ k p P q
 have E:Below R.w0.heap.size R.w0 w3:=c6.grown s c6.size (fun g L=>lt_ hB (Mine.blk hm L).1);refine⟨A',c',rfl,⟨a,b,AN,cN,l,⟨?_,Qt_ Q f (Ne.symm R.ty_node) _ _,⟨fun x H=>⟨(D x H).1,Qt_ (D x H).2 f (Ne.symm R.ty_int) _ _⟩,fun g M=>?_⟩,c4,c5,E.setCell y.low _,⟨y.len,y.most,y.rd,y.low⟩⟩,h2⟩,Qt_ m3 f C _ _,?_,f.frozen,f.lt,_,f⟩
 ·have:=f.set_ 6 (S_ A' n' c');rw[m]at this;exact this
 ·have:=c3.2 g M;have:=s.size;simp only[World.setCell,Array.size_modify];omega
 ·have:=f;unfold RC.cells at this;rw[ip_ hi]at this;exact⟨_,this.cell 6⟩
theorem RdC.c6 (hi:R.imp=true) (h:RdC R a d b AN cN l w):w.cell? ⟨R.T,6,none⟩=some R.M:=by
 have c:=h.1;unfold RC.cells at c;rw[ip_ hi]at c;exact c.cell 6
end
theorem Qgo_ {R:RC} {V V':Value} {U U':Nat->Prop} {d d':Nat} {s:PS} {row row':ON} {w w':World} (hi:R.imp=true) (h:RdI { R with M:=V,U:=U } d (some s) row w) {st':RdSt} (h':RdI { R with M:=V',U:=U' } d' st' row' w') {i j:Nat} (k:Adv (i+1) j (some s) st'):Z1_ R w' < Z1_ R w:=by
 have e1:=Yr_ (R:={ R with M:=V,U:=U }) hi h;have e3:∀W,Z1_ { R with M:=V',U:=U' } W=Z1_ R W:=fun _=>rfl
 have e0:∀W,Z1_ { R with M:=V,U:=U } W=Z1_ R W:=fun _=>rfl
 have hn:({ R with M:=V,U:=U }:RC).n=R.n:=rfl;rw[e0]at e1
 cases st' with
 |none=>have:=Wj_ (R:={ R with M:=V',U:=U' }) hi h';rw[e3]at this;omega
 |some t=>
  have e4:=Yr_ (R:={ R with M:=V',U:=U' }) hi h';obtain⟨s',e5,h1,_⟩:=k t rfl;obtain rfl:=oi_ e5;have e6:({ R with M:=V',U:=U' }:RC).n=R.n:=rfl;rw[e3]at e4;omega
theorem JU_ {w w1 w3:World} {B B':Nat} {e e':TypeId} {sz h n c n' c':Nat} {A A':OA} {xs i:List Value} (hm:Mine w B e sz A n c xs) (hk:Mine w B' e' h A' n' c' i) (he:e≠e') (b:Below w.heap.size w w1) (hg:w1.grownBy w3 (S_ A' n' c').ownBlock):Mine w3 B e sz A n c xs:=by
 rw[Q3_]at hg;have f:=hk.next b;have a:=hm.next b;have hl:=a.len;rcases a.own with⟨rfl,rfl,rfl⟩|⟨g,rfl,hB,hn,hc,rest,hb,hs⟩
 ·exact⟨hl,.inl ⟨rfl,rfl⟩⟩
 ·refine Mine.mk_own ⟨rest,hb.grown hg (fun e2=>?_),hs⟩ hl hB hn hc;obtain⟨j,d⟩:=Qw_ f e2.symm;exact Kj_ hb d he rfl
theorem Kr.setT {T:Nat} {row row':ON} {w w':World} (h:Kr T row w row' w') (i:Nat) (u:Value):Kr T row w row' (w'.setCell ⟨T,i,none⟩ u):=
 ⟨lt_ h.1 (by simp[World.setCell]),h.2.1,fun g hg ht hr=>(Below.heap_setCell w' ⟨T,i,none⟩ u g ht).trans (h.2.2 g hg ht hr)⟩
theorem QfR_ {sg:List SgP} {st:RdSt} (h:jN_ sg st=true):∃s,st=some s/\s.at_ < sg.length:=by
 cases st with
 |none=>cases h
 |some s=>exact⟨s,rfl,od_ h⟩
theorem QcN_ (R:RC) (hi:R.imp=true) (N F:Nat) (hF:14 * (R.n+2)<=F) (hd:F<=100000) (hN:R.n < N) (HE:EC R N F) (st:RdSt) (row:ON) (w:World) (K:RdI R 0 st row w) (bH:R.M=S_ none 0 0):
  Calls prog 102 #[P_ (some ⟨R.T,0,none⟩)] w fun e w'=>e=R_ (U_ #[])/\∃(v:Value) (row':ON),RdI (R.mem v) 0 (ji_ R.sg (Qd_ R.sg N F) N st) row' w'/\Kr R.T row w row' w':=by
 obtain⟨i0,aA,aC,aD,aE⟩:=info_parts QY_;have X:=h_ (ai_ aA (ai_ aC (ai_ aD aE)));clear aA aC aD aE;obtain⟨i2,aA,aC,aD,aE⟩:=info_parts Qhc_;have C:=h_ (ai_ aA (ai_ aC (ai_ aD aE)));clear aA aC aD aE;have a9:Hid (RdI (R.mem (S_ none 0 0)) 0 st row w):=(show RdI (R.mem (S_ none 0 0)) 0 st row w from by rw[RC.mem,<-bH];exact K);have bq:=h_ K.lo;have aG:=h_ K.lo.1;have bK:=K.ok.most;have bT:=K.ok.len;have HO:Hid (∀(V:Value) (U:Nat->Prop) (b:Bool) (t:PS) (row:ON) (w:World),RdI { R with M:=V,U:=U } 0 (some t) row w->Calls prog 118 #[P_ (some ⟨R.T,0,none⟩),B_ b,B_ true] w (QA_ { R with M:=V,U:=U } 0 row w (I_ j_ (Y9_ R.sg (Qd_ R.sg N F) N b (some t)).1) (Y9_ R.sg (Qd_ R.sg N F) N b (some t)).2)):=
  (show ∀V U b t row w,_->_ from fun V U b t row w h=>Qbz_ { R with M:=V,U:=U } hi N F hF hd hN ⟨fun U' d st row w K=>(GQ_ { R with M:=V,U:=U } hi N hN F).value U' d st row w K,fun U' d st row w K=>(GQ_ { R with M:=V,U:=U } hi N hN F).pick U' d st row w K,fun U' l d st row w K=>(GQ_ { R with M:=V,U:=U } hi N hN F).chain U' l d st row w K,fun U' d st row w K=>(GQ_ { R with M:=V,U:=U } hi N hN F).end_ U' d st row w K,fun U' d st row w K=>(GQ_ { R with M:=V,U:=U } hi N hN F).base U' d st row w K,fun U' b d st row w K=>(GQ_ { R with M:=V,U:=U } hi N hN F).stmt U' b d st row w K,fun U' d st row w K=>(GQ_ { R with M:=V,U:=U } hi N hN F).block U' d st row w K⟩ b (some t) row w h)
 have a8:Hid (∀b st,Adv 1 1 st (Y9_ R.sg (Qd_ R.sg N F) N b st).2):=(show ∀b st,_ from fun b st=>x2_ (fun m d st=>QB_ F m d st) b st);unfold ji_;obtain⟨Q,hQ⟩:=ex_ (XL_ R.sg (Qd_ R.sg N F) N N [] st);rw[hQ];have HQ:=h_ hQ;generalize Qd_ R.sg N F=E at HO a8 HQ;have bV:=fld3;clear K hQ HE;go_enter func102,ntmps102;go_wp2;go_loopw [2] (fun v wr=>∃(M:Nat) (ks:LI) (st':RdSt) (row':ON) (A:OA) (c:Nat) (z:OA) (B:Nat) (xm:List Value),v=S_ A ks.length c/\Hid (XL_ R.sg E N M ks st'=Q)/\Hid (Enough R.n M st')/\Hid (KidB ks st')/\Hid (Mine wr w.heap.size 3 1 A ks.length c (Qa_ ks))/\Hid (Mine wr w.heap.size 160 2 z ks.length B xm)/\Hid (RdI ((R.mem (S_ z ks.length B)).res A) 0 st' row' wr)/\Hid (Kr R.T row w row' wr)) (fun _ wr=>Z1_ R wr)
 case atStart=>exact⟨N,[],st,row,none,0,none,0,[],rfl,HQ,(show Enough _ _ _ from QP_ hN _),⟨by simp,fun s _=>by simp⟩,Mine.mk_nil _ _ _ _,Mine.mk_nil _ _ _ _,a9.o.res_new br (fun g hg=>by cases hg),Kr.refl _ _ _⟩
 case round=>
  clear HQ a9;obtain⟨M,ks,st',row',A,c,z,B,xm,rfl,HQ,aT,ba,O,Y,HI,HK⟩:=hrel;obtain⟨a,b,AN,cN,l,hc,hb,bi⟩:=HI.o;obtain⟨c0,c2,c3,c4,c5,cf,cz⟩:=RdC.ci (R:=(R.mem (S_ z ks.length B)).res A) hi hc;change wr.cell? ⟨R.T,0,none⟩=some (S_ R.A R.n R.c)at c0;change wr.cell? ⟨R.T,2,none⟩=_ at c2;change wr.cell? ⟨R.T,4,none⟩=_ at c4;change R.T < _ at cz;clear c3 c5 cf hc bi;rcases bft (jN_ R.sg st')with hR|hR
  ·obtain⟨t,es,bJ⟩:=QfR_ hR;subst es;have bL:t.at_=a:=hb.2.1;obtain rfl:b=false:=hb.1;obtain⟨M,rfl⟩:∃M',M=M'+1:=⟨M - 1,by
    have h1:=aT.o t rfl;omega⟩
   have L:=HQ.o;unfold XL_ at L;rw[ip_ hR]at L;have bU:(a:Int) < (R.n:Int):=oo;have HX:=h_ (fun(row:ON) (W:World) h=>QdK_ (R:=R.mem (S_ z ks.length B)) (fun x=>R.U x\/A.map (·.block)=some x) hi 0 (some t) row W h);have aM:XI_ R.sg (some t) ks=((Qx_ R.sg (some t) 0).2.2.2&&decide (0 < ks.length)):=rfl;rw[aM]at L;change Hid (∀(row:ON) (W:World),_->Calls prog 119 #[P_ (some ⟨R.T,0,none⟩)] W fun e w'=>e=R_ (A_ #[I_ j_ (Qx_ R.sg (some t) 0).1,T_ (Qx_ R.sg (some t) 0).2.1,I_ j_ (Qx_ R.sg (some t) 0).2.2.1,B_ (Qx_ R.sg (some t) 0).2.2.2])/\Below W.heap.size W w')at HX;generalize Qx_ R.sg (some t) 0=x at HX L aM;obtain⟨xk,xt,xp,xz⟩:=x;dsimp only at HX L aM;have bS:=ba.o.2 t rfl;have aN:=(HI.o.le rfl).2;have bY:=ba.o.1;have aJ:Hid (∀bb:Bool,(xz&&decide (0 < ks.length))=bb->∃r:PR,XL_ R.sg E N M (ks++[r.1]) r.2=Q/\Adv 1 1 (some t) r.2/\∀(row:ON) (W:World),RdI { R with M:=S_ z ks.length B,U:=fun x=>R.U x\/A.map (·.block)=some x } 0 (some t) row W->Calls prog 118 #[P_ (some ⟨R.T,0,none⟩),B_ bb,B_ true] W (fun e w'=>e=R_ (I_ j_ r.1)/\∃row',RdI { R with M:=S_ z ks.length B,U:=fun x=>R.U x\/A.map (·.block)=some x } 0 r.2 row' w'/\Kr R.T row W row' w')):=(show ∀bb,_->_ from fun bb e=>⟨Y9_ R.sg E N bb (some t),by rw[<-e];exact L,a8.o bb (some t),fun row W h=>HO.o _ _ bb t row W h⟩);clear L aM HQ hR bJ
   cases xz with
   |false=>
     obtain⟨r,L,j,hC⟩:=aJ.o false rfl;obtain⟨kc,J⟩:=r;dsimp only at L j hC;have aY:=h_ L;have HC:=h_ hC;have am:=h_ j;have aQ:Hid (KidB (ks++[kc]) J):=(show KidB _ _ from⟨by rw[lA];simp;omega,fun t2 e=>by
      obtain⟨bQ,e2,_,h3⟩:=j t2 e;obtain rfl:=oi_ e2;rw[lA];simp;omega⟩)
     have aR:Hid (Enough R.n M J):=aT.o.adv (i:=0) j;have T:(ks++[kc]).length=ks.length+1:=sm_;clear L hC j aJ;go_wp2;go_quiet (fail);have ac:=h_ (HI.o.next (below_drewN br nq));have av:=h_ (O.o.drewN nq);have Z:=h_ (Y.o.drewN nq);have aq:=h_ (HK.o.below (below_drewN br nq));go_wp2_with fail
     refine(HX.o _ _ ac.o).mono ?_;rintro e w3 ⟨rfl,g3⟩;have P:=h_ (ac.o.next g3);have ax:=h_ (av.o.next g3);have aa:=h_ (Z.o.next g3);have ar:=h_ (aq.o.below g3);clear g3 HX ac av aq Z c0 c2 c4 cz;go_wp2_with fail
     refine(HC.o _ _ P.o).mono ?_;rintro e w4 ⟨rfl,n,h4,k4⟩;have O:=h_ (P.o.keepI k4 ax.o);have Y:=h_ (P.o.keepM k4 aa.o (Ne.symm (RC.ty_two R)) dc_);have ao:Hid (RdI ((R.mem (S_ z ks.length B)).res A) 0 J n w4):=h4;have ae:=h_ (ar.o.trans k4);clear h4 k4 P ax ar aa;have bM:=ae.o.size;go_wp2_with (at_builtin;(refine Qi_ _ rfl (.tmp 36) (.tmp 38) _ rfl w.heap.size 3 i0 (I_ j_ 0) 1 8 underlying83 X.o.1 X.o.2.1 X.o.2.2.1 X.o.2.2.2 rfl dc_ (S_ A ks.length c) ks.length (Qa_ ks) rfl (Mine.alloc O.o _) ⟨w4.heap.size,0,none⟩ 1 1 [I_ j_ kc] rfl rfl (K8_ _ kc _) (K9_ _) mx_ oo so_ ?_);intro v' y H S ab;obtain⟨A5,a1,rfl,h5,m5⟩:=RdI.appended ao.o O.o aG.o bra H S ab)
     have af:=h_ ((ae.o.below bra).grown S (fun g hg=>by rw[Q3_]at hg;exact(Mine.blk O.o hg).1));have k:=h_ (JU_ Y.o O.o dc_ bra S);rw[<-Ke_]at m5;have ad:Hid (RdI ((R.mem (S_ z ks.length B)).res A5) 0 J n y):=h5;replace O:=h_ m5;clear H S ab h5 m5 Y ao ae;obtain⟨a5,b5,bo,bx,l5,ah,aB,ai⟩:=id ad.o;obtain⟨d0,d2,d3,d4,d5,df,dz⟩:=RdC.ci (R:=(R.mem (S_ z ks.length B)).res A5) hi ah;have d6:y.cell? ⟨R.T,6,none⟩=some (S_ z ks.length B):=RdC.c6 (R:=(R.mem (S_ z ks.length B)).res A5) hi ah;change y.cell? ⟨R.T,2,none⟩=_ at d2;change ∀i,y.frozen? ⟨R.T,i,none⟩=false at df;change R.T < _ at dz;have e2:∀o,(y.alloc o).cell? ⟨R.T,2,none⟩=some (I_ j_ a5):=fun o=>by rw[(QW_ (br.alloc (lr_ _) o)).1 _ _ dz];exact d2
     have e6:∀o,(y.alloc o).cell? ⟨R.T,6,none⟩=some (S_ z ks.length B):=fun o=>by rw[(QW_ (br.alloc (lr_ _) o)).1 _ _ dz];exact d6
     have aN:(y.alloc (C_ #[I_ j_ a,I_ j_ a5] 160)).heap[y.heap.size]? =some (C_ #[I_ j_ a,I_ j_ a5] 160 (0,0)):=heap_alloc_new y _;have aS:=h_ (show w.heap.size<=y.heap.size from af.o.size);have HP:=h_ (fun(n':Nat) (ys:List Value) (v':Value) (w3:World) h1 h2=>RdI.members (R:=(R.mem (S_ z ks.length B)).res A5) hi ad.o (RC.ty_two R).symm dc_ dc_ k.o aG.o (w1:=y.alloc (C_ #[I_ j_ a,I_ j_ a5] 160)) (w3:=w3) (n':=n') (ys:=ys) (v':=v') bra h1 h2);clear ah d0 d3 d4 d5 aB ai;go_upto_region 5 with fail
     go_region_law
      (refine step_append_lies _ rfl (.tmp 44) (.tmp 51) 115 rfl w.heap.size 160 i2 (A_ #[I_ j_ 0,I_ j_ 0]) 2 16 underlying115 C.o.1 C.o.2.1 C.o.2.2.1 C.o.2.2.2 rfl dc_ (S_ z ks.length B) ks.length xm ev_ (by first|exact(k.o.alloc _).drew|exact k.o.alloc _) ⟨y.heap.size,0,none⟩ 1 1 [I_ j_ a,I_ j_ a5] ev_ (by rfl) (World.news_of_block (cs:=#[I_ j_ a,I_ j_ a5]) (t:=160) (fr:=(0,0)) aN) (QeJ_ _ _) dc_ mx_ oo (by have:=aS.o;simp;omega) (y.heap.size+1) sm_ ?_
       intro q cap w6 I p a3 bh;have f:(y.alloc (C_ #[I_ j_ a,I_ j_ a5] 160)).grownBy w6 (S_ z ks.length B).ownBlock:=(by first|exact p|exact Q9_ p);obtain⟨A6,bv,ev,D,G,⟨v6,j6⟩,jf,jz,bz,jb⟩:=HP.o _ _ _ _ I f;have HW:=h_ (ai_ ev (ai_ D (ai_ G ((af.o.below bra).grown f (fun g hg=>by rw[Q3_]at hg;exact(Mine.blk k.o hg).1)))));have aX:=h_ (fun u=>Qt_ (JU_ O.o k.o dc_ bra f) jb (Ne.symm R.ty_int) 6 u);change w6.cell? ⟨R.T,6,none⟩=_ at j6;change ∀i,w6.frozen? ⟨R.T,i,none⟩=false at jf;change R.T < _ at jz;clear I p a3 f ev D G jb)
     all_goals
      obtain⟨ev,D,G,az⟩:=HW.o;injection ev with ev1 ev2 ev3;subst ev1;subst ev3;have ap:=h_ D;have aV:=h_ G;have aU:=h_ (az.setT 6 (S_ (some ⟨q,0,none⟩) (ks.length+1) cap));clear D G az HW ev2 O k ad af HP;go_wp2;go_roundw
      case rel=>exact⟨M,ks++[kc],J,n,A5,a1,some ⟨q,0,none⟩,cap,_,by rw[T],aY,aR,aQ,by rw[T];exact aX.o _,by rw[T];exact aV,by rw[T];exact ap,aU⟩
      case measure=>exact Qgo_ hi HI.o ap.o (am.o.weak (i':=1) (j':=0) oo oo)
   |true=>
     obtain⟨r,L,j,hC⟩:=aJ.o _ rfl;obtain⟨kc,J⟩:=r;dsimp only at L j hC;rw[Bool.true_and]at hC;have aY:=h_ L;have HC:=h_ hC;have am:=h_ j;have aQ:Hid (KidB (ks++[kc]) J):=(show KidB _ _ from⟨by rw[lA];simp;omega,fun t2 e=>by
      obtain⟨bQ,e2,_,h3⟩:=j t2 e;obtain rfl:=oi_ e2;rw[lA];simp;omega⟩)
     have aR:Hid (Enough R.n M J):=aT.o.adv (i:=0) j;have T:(ks++[kc]).length=ks.length+1:=sm_;clear L hC j aJ;go_wp2;go_quiet (fail);have ac:=h_ (HI.o.next (below_drewN br nq));have av:=h_ (O.o.drewN nq);have Z:=h_ (Y.o.drewN nq);have aq:=h_ (HK.o.below (below_drewN br nq));go_wp2_with fail
     refine(HX.o _ _ ac.o).mono ?_;rintro e w3 ⟨rfl,g3⟩;have P:=h_ (ac.o.next g3);have ax:=h_ (av.o.next g3);have aa:=h_ (Z.o.next g3);have ar:=h_ (aq.o.below g3);clear g3 HX ac av aq Z c0 c2 c4 cz;go_wp2_with fail
     refine(HC.o _ _ P.o).mono ?_;rintro e w4 ⟨rfl,n,h4,k4⟩;have O:=h_ (P.o.keepI k4 ax.o);have Y:=h_ (P.o.keepM k4 aa.o (Ne.symm (RC.ty_two R)) dc_);have ao:Hid (RdI ((R.mem (S_ z ks.length B)).res A) 0 J n w4):=h4;have ae:=h_ (ar.o.trans k4);clear h4 k4 P ax ar aa;have bM:=ae.o.size;go_wp2_with (at_builtin;(refine Qi_ _ rfl (.tmp 36) (.tmp 38) _ rfl w.heap.size 3 i0 (I_ j_ 0) 1 8 underlying83 X.o.1 X.o.2.1 X.o.2.2.1 X.o.2.2.2 rfl dc_ (S_ A ks.length c) ks.length (Qa_ ks) rfl (Mine.alloc O.o _) ⟨w4.heap.size,0,none⟩ 1 1 [I_ j_ kc] rfl rfl (K8_ _ kc _) (K9_ _) mx_ oo so_ ?_);intro v' y H S ab;obtain⟨A5,a1,rfl,h5,m5⟩:=RdI.appended ao.o O.o aG.o bra H S ab)
     have af:=h_ ((ae.o.below bra).grown S (fun g hg=>by rw[Q3_]at hg;exact(Mine.blk O.o hg).1));have k:=h_ (JU_ Y.o O.o dc_ bra S);rw[<-Ke_]at m5;have ad:Hid (RdI ((R.mem (S_ z ks.length B)).res A5) 0 J n y):=h5;replace O:=h_ m5;clear H S ab h5 m5 Y ao ae;obtain⟨a5,b5,bo,bx,l5,ah,aB,ai⟩:=id ad.o;obtain⟨d0,d2,d3,d4,d5,df,dz⟩:=RdC.ci (R:=(R.mem (S_ z ks.length B)).res A5) hi ah;have d6:y.cell? ⟨R.T,6,none⟩=some (S_ z ks.length B):=RdC.c6 (R:=(R.mem (S_ z ks.length B)).res A5) hi ah;change y.cell? ⟨R.T,2,none⟩=_ at d2;change ∀i,y.frozen? ⟨R.T,i,none⟩=false at df;change R.T < _ at dz;have e2:∀o,(y.alloc o).cell? ⟨R.T,2,none⟩=some (I_ j_ a5):=fun o=>by rw[(QW_ (br.alloc (lr_ _) o)).1 _ _ dz];exact d2
     have e6:∀o,(y.alloc o).cell? ⟨R.T,6,none⟩=some (S_ z ks.length B):=fun o=>by rw[(QW_ (br.alloc (lr_ _) o)).1 _ _ dz];exact d6
     have aN:(y.alloc (C_ #[I_ j_ a,I_ j_ a5] 160)).heap[y.heap.size]? =some (C_ #[I_ j_ a,I_ j_ a5] 160 (0,0)):=heap_alloc_new y _;have aS:=h_ (show w.heap.size<=y.heap.size from af.o.size);have HP:=h_ (fun(n':Nat) (ys:List Value) (v':Value) (w3:World) h1 h2=>RdI.members (R:=(R.mem (S_ z ks.length B)).res A5) hi ad.o (RC.ty_two R).symm dc_ dc_ k.o aG.o (w1:=y.alloc (C_ #[I_ j_ a,I_ j_ a5] 160)) (w3:=w3) (n':=n') (ys:=ys) (v':=v') bra h1 h2);clear ah d0 d3 d4 d5 aB ai;go_upto_region 5 with fail
     go_region_law
      (refine step_append_lies _ rfl (.tmp 44) (.tmp 51) 115 rfl w.heap.size 160 i2 (A_ #[I_ j_ 0,I_ j_ 0]) 2 16 underlying115 C.o.1 C.o.2.1 C.o.2.2.1 C.o.2.2.2 rfl dc_ (S_ z ks.length B) ks.length xm ev_ (by first|exact(k.o.alloc _).drew|exact k.o.alloc _) ⟨y.heap.size,0,none⟩ 1 1 [I_ j_ a,I_ j_ a5] ev_ (by rfl) (World.news_of_block (cs:=#[I_ j_ a,I_ j_ a5]) (t:=160) (fr:=(0,0)) aN) (QeJ_ _ _) dc_ mx_ oo (by have:=aS.o;simp;omega) (y.heap.size+1) sm_ ?_
       intro q cap w6 I p a3 bh;have f:(y.alloc (C_ #[I_ j_ a,I_ j_ a5] 160)).grownBy w6 (S_ z ks.length B).ownBlock:=(by first|exact p|exact Q9_ p);obtain⟨A6,bv,ev,D,G,⟨v6,j6⟩,jf,jz,bz,jb⟩:=HP.o _ _ _ _ I f;have HW:=h_ (ai_ ev (ai_ D (ai_ G ((af.o.below bra).grown f (fun g hg=>by rw[Q3_]at hg;exact(Mine.blk k.o hg).1)))));have aX:=h_ (fun u=>Qt_ (JU_ O.o k.o dc_ bra f) jb (Ne.symm R.ty_int) 6 u);change w6.cell? ⟨R.T,6,none⟩=_ at j6;change ∀i,w6.frozen? ⟨R.T,i,none⟩=false at jf;change R.T < _ at jz;clear I p a3 f ev D G jb)
     all_goals
      obtain⟨ev,D,G,az⟩:=HW.o;injection ev with ev1 ev2 ev3;subst ev1;subst ev3;have ap:=h_ D;have aV:=h_ G;have aU:=h_ (az.setT 6 (S_ (some ⟨q,0,none⟩) (ks.length+1) cap));clear D G az HW ev2 O k ad af HP;go_wp2;go_roundw
      case rel=>exact⟨M,ks++[kc],J,n,A5,a1,some ⟨q,0,none⟩,cap,_,by rw[T],aY,aR,aQ,by rw[T];exact aX.o _,by rw[T];exact aV,by rw[T];exact ap,aU⟩
      case measure=>exact Qgo_ hi HI.o ap.o (am.o.weak (i':=1) (j':=0) oo oo)
  ·have L:Q=(ks,st'):=by
    have L:=HQ.o
    cases M with
    |zero=>exact L.symm
    |succ M=>unfold XL_ at L;rw[hR,in_ dc_]at L;exact L.symm
   subst L;have an:=h_ (fun(W:World) (K:RdI (R.mem (S_ z ks.length B)) 0 st' row' W) (hm:Mine W w.heap.size 3 1 A ks.length c (Qa_ ks))=>addK (R.mem (S_ z ks.length B)) hi 0 st' row' 22 noT A ks.length c ks false w.heap.size W K hm bq.o);unfold QA_ at an
   cases st' with
   |none=>
    obtain rfl:b=true:=hb;clear HQ hR c0 c2;go_wp2;go_quiet (fail);go_wp2_with fail
    refine(an.o _ (HI.o.unres.next (below_drewN br _)) (O.o.drewN _)).mono ?_;rintro e w4 ⟨rfl,n,h4,k4⟩;go_wp2;go_end0;exact⟨rfl,_,n,h4,(HK.o.below (below_drewN br nq)).trans k4⟩
   |some t=>
    obtain⟨rfl,bL,_⟩:=hb;have bX:¬(a:Int) < (R.n:Int):=by
     have:=of_decide_eq_false hR;have h2:=(HI.o.le rfl).1;omega
    clear HQ hR;go_wp2;go_quiet (fail);go_wp2_with fail
    refine(an.o _ (HI.o.unres.next (below_drewN br _)) (O.o.drewN _)).mono ?_;rintro e w4 ⟨rfl,n,h4,k4⟩;go_wp2;go_end0;exact⟨rfl,_,n,h4,(HK.o.below (below_drewN br nq)).trans k4⟩
def QiP_ (p:PN):Prop:=p.text.size<=3000/\p.kids.length<=400
def K6_ (st:RdSt):Prop:=∀s,st=some s->s.nodes.length<=300/\∀p∈s.nodes,QiP_ p
def Yd_ (sg:List SgP):Prop:=∀d∈sg,d.2.1.size<=3000
section
variable {sg:List SgP} {st st':RdSt}
theorem XM_:K6_ none:=fun s e=>by cases e
theorem QH_ (h:K6_ st):K6_ (Qf_ st):=by
 cases st with
 |none=>exact h
 |some s=>intro t e;obtain rfl:=oi_ e;exact h s rfl
theorem QQ_ (h:K6_ st) (m:BA):K6_ (Qn_ sg st m):=by
 unfold Qn_;split
 ·exact QH_ h
 ·exact XM_
theorem qk_ (h:K6_ st):K6_ (nmS sg st):=by
 unfold nmS;split
 ·exact QH_ h
 ·exact XM_
theorem UX_ (h:K6_ st) (d:Nat):K6_ (KI_ d st):=by
 unfold KI_;split
 ·exact XM_
 ·exact h
theorem Q8_ (h:K6_ st) {x:PN} (ht:x.text.size<=3000) (hk:∀s,st=some s->s.nodes.length<=300->x.kids.length<=400):K6_ (KP_ st x).2:=by
 intro t e
 cases st with
 |none=>cases e
 |some s=>
  obtain⟨h1,h2⟩:=h s rfl;unfold KP_ at e;simp only at e;split at e
  ·cases e
  ·obtain rfl:=oi_ e;refine⟨by simp;omega,fun p a=>?_⟩;rcases List.mem_append.1 a with a|a
   ·exact h2 p a
   ·obtain rfl:=ms1_.1 a;exact⟨ht,hk s rfl h1⟩
theorem qT_ (hs:Yd_ sg) (st:RdSt) (i:Nat):(Qx_ sg st i).2.1.size<=3000:=by
 unfold Qx_
 cases st with
 |none=>exact lz_ _
 |some s=>
  simp only
  cases h:sg[s.at_+i]? with
  |none=>exact lz_ _
  |some d=>exact hs d (lm_ h)
theorem Wo_ (hs:Yd_ sg) (st:RdSt):(nmT sg st).size<=3000:=by
 unfold nmT;split
 ·exact qT_ hs st 0
 ·exact lz_ _
theorem UW_ (hs:Yd_ sg) (h:K6_ st) (k:Int):K6_ (YG_ sg k st).2:=QH_ (Q8_ h (qT_ hs st 0) (fun s e _=>by simp))
theorem Xr_ (hs:Yd_ sg) (h:K6_ st):K6_ (Qj_ sg st).2:=by
 unfold Qj_;split
 ·exact UW_ hs h 1
 ·exact XM_
theorem UY_ (hs:Yd_ sg) (h:K6_ st) (b:Bool):K6_ (Xm_ sg b st).2:=QH_ (Q8_ h (qT_ hs st 0) (fun s e _=>by simp))
theorem JG_ (hs:Yd_ sg) {one:RdSt->PR} (h1:∀st,K6_ st->K6_ (one st).2) (m:BA):∀(n:Nat) (ks:LI) (st:RdSt),K6_ st->K6_ (QG_ sg one m n ks st).2:=by
 intro n
 induction n with
 |zero=>intro ks st h;exact h
 |succ n ih=>
  intro ks st h;unfold QG_;split
  ·exact h
  ·split
   ·exact h
   ·split
    ·exact ih _ _ (QH_ (h1 st h))
    ·exact h1 st h
theorem UH_ {one:RdSt->PR} (ha:∀st,Adv 1 1 st (one st).2) (m:BA) (n:Nat) (st:RdSt) {st':RdSt} {i j:Nat} (k:Adv i j (QG_ sg one m n [] st).2 st'):∀s,st'=some s->s.nodes.length<=300->(QG_ sg one m n [] st).1.length<=300:=fun s e hl=>by
 obtain⟨s1,e1,_,h2⟩:=k s e;obtain⟨s0,_,_,h3⟩:=(Yz_ ha m n [] st).2 s1 e1;simp at h3;omega
theorem kw_ (hs:Yd_ sg) {one:RdSt->PR} (ha:∀st,Adv 1 1 st (one st).2) (h1:∀st,K6_ st->K6_ (one st).2) (N:Nat) (k:Int) (st:RdSt) (h:K6_ st):K6_ (Yg_ sg one N k st).2:=by
 unfold Yg_;refine Q8_ (QQ_ (JG_ hs h1 _ _ _ _ (QQ_ h _)) _) (lz_ _) (fun s e hl=>?_);have:=UH_ ha ⟨#[41]⟩ N (Qn_ sg st ⟨#[40]⟩) (Qq_ (sg:=sg) _ ⟨#[41]⟩) s e hl;simp;omega
theorem QcP_ (hs:Yd_ sg) {one:RdSt->PR} (ha:∀st,Adv 1 1 st (one st).2) (h1:∀st,K6_ st->K6_ (one st).2) (N:Nat):∀(n:Nat) (ks:LI) (st:RdSt),K6_ st->K6_ (Y2_ sg one N n ks st).2:=by
 intro n
 induction n with
 |zero=>intro ks st h;exact h
 |succ n ih=>
  intro ks st h;unfold Y2_;split
  ·exact ih _ _ (kw_ hs ha h1 N _ _ (Xr_ hs (QH_ h)))
  ·exact h
theorem Qfh_ {one:RdSt->PR} (h1:∀st,K6_ st->K6_ (one st).2) (m:BA):∀(n:Nat) (ks:LI) (st:RdSt),K6_ st->K6_ (GD_ sg one m n ks st).2:=by
 intro n
 induction n with
 |zero=>intro ks st h;exact h
 |succ n ih=>
  intro ks st h;unfold GD_;split
  ·exact ih _ _ (h1 _ (QH_ h))
  ·exact h
theorem Qbq_ (st:RdSt):∀l:List BA,(∀m∈l,m.size<=3000)->(Zz_ sg st l).size<=3000:=by
 intro l
 induction l with
 |nil=>intro _;exact lz_ _
 |cons a l ih=>
  intro h;unfold Zz_;split
  ·exact h a sm_
  ·exact ih (fun m hm=>h m (by simp[hm]))
theorem Qbt_ (st:RdSt) (l:Nat):(KY_ sg st l).size<=3000:=by
 refine Qbq_ st _ (fun m a=>?_);have:∀m∈[(⟨#[124,124]⟩:BA),⟨#[38,38]⟩,⟨#[61,61]⟩,⟨#[60]⟩,⟨#[43]⟩,⟨#[45]⟩,⟨#[42]⟩],m.size<=3000:=by decide
 apply this;unfold Zg_ at a;split at a
 ·simp at a |-; simp[a]
 ·split at a
  ·simp at a |-; simp[a]
  ·split at a
   ·simp at a |-; simp[a]
   ·split at a
    ·simp at a |-; simp[a]
    ·split at a
     ·simp at a |-; rcases a with h|h<;>simp[h]
     ·simp at a |-; simp[a]
theorem QaT_ {one:RdSt->PR} (ha:∀st,Adv 1 1 st (one st).2) (h1:∀st,K6_ st->K6_ (one st).2) (l N:Nat):∀(n:Nat) (k:Int) (st:RdSt),K6_ st->K6_ (Zw_ sg one l N n k st).2:=by
 intro n
 induction n with
 |zero=>intro k st h;exact h
 |succ n ih=>
  intro k st h;unfold Zw_;split
  ·exact h
  ·refine ih _ _ (Q8_ (Qfh_ h1 _ _ _ _ h) (Qbt_ st l) (fun s e hl=>?_));obtain⟨s0,_,_,h3⟩:=(x1_ (sg:=sg) ha (KY_ sg st l) N [k] st).2 s e;simp at h3 |-
   omega
theorem Qff_ (hs:Yd_ sg) {one:RdSt->PR} (ha:∀st,Adv 1 1 st (one st).2) (h1:∀st,K6_ st->K6_ (one st).2) (N:Nat):∀(n:Nat) (k:Int) (st:RdSt),K6_ st->K6_ (W0_ sg one N n k st).2:=by
 intro n
 induction n with
 |zero=>intro k st h;exact h
 |succ n ih=>
  intro k st h;unfold W0_;split
  ·exact h
  ·split
   ·exact ih _ _ (kw_ hs ha h1 N k st h)
   ·split
    ·split
     ·exact ih _ _ (QH_ (Q8_ (QH_ h) (qT_ hs _ 0) (fun s e _=>by simp)))
     ·exact XM_
    ·exact h
theorem kv_ {one:Bool->RdSt->PR} (h1:∀b st,K6_ st->K6_ (one b st).2):∀(n:Nat) (ks:LI) (st:RdSt),K6_ st->K6_ (Zv_ sg one n ks st).2:=by
 intro n
 induction n with
 |zero=>intro ks st h;exact h
 |succ n ih=>
  intro ks st h;unfold Zv_;split
  ·exact h
  ·split
   ·exact h
   ·exact ih _ _ (h1 _ st h)
theorem vA_ {one:Bool->RdSt->PR} (ha:∀b st,Adv 1 1 st (one b st).2) (n:Nat) (st:RdSt) {st':RdSt} {i j:Nat} (k:Adv i j (Zv_ sg one n [] st).2 st'):∀s,st'=some s->s.nodes.length<=300->(Zv_ sg one n [] st).1.length<=300:=fun s e hl=>by
 obtain⟨s1,e1,_,h2⟩:=k s e;obtain⟨s0,_,_,h3⟩:=(z7_ (sg:=sg) ha n [] st).2 s1 e1;simp at h3;omega
variable {E:Md->Nat->RdSt->PR} {N:Nat} (hs:Yd_ sg) (hA:∀m d st,Adv 1 1 st (E m d st).2) (hE:∀m d st,K6_ st->K6_ (E m d st).2)
include hE
theorem UV_ (d:Nat) (h:K6_ st):K6_ (JJ_ sg E d st).2:=QQ_ (hE _ _ _ (QQ_ h _)) _
include hs
theorem ql_ (d:Nat) (b:Bool) (h:K6_ st):K6_ (Jx_ sg E d b st).2:=by
 unfold Jx_;split
 ·exact Q8_ (QQ_ (hE _ _ _ (QH_ (qk_ h))) _) (Wo_ hs st) (fun s e _=>by simp)
 ·exact Q8_ (QQ_ (qk_ h) _) (Wo_ hs st) (fun s e _=>by simp)
theorem QcT_ (d:Nat) (b:Bool) (h:K6_ st):K6_ (ZJ_ sg E d b st).2:=by
 unfold ZJ_;split
 ·exact UY_ hs h b
 ·split
  ·exact ql_ hs hE d b (QH_ h)
  ·split
   ·unfold Yp_;split
    ·exact Q8_ (QQ_ (QH_ h) _) (lz_ _) (fun s e _=>by simp)
    ·exact Q8_ (QQ_ (hE _ _ _ (QH_ h)) _) (lz_ _) (fun s e _=>by simp)
   ·split
    ·unfold ifS;simp only;split
     ·exact Q8_ (hE _ _ _ (QH_ (hE _ _ _ (UV_ hE d (QH_ h))))) (lz_ _) (fun s e _=>by simp)
     ·exact Q8_ (hE _ _ _ (UV_ hE d (QH_ h))) (lz_ _) (fun s e _=>by simp)
    ·split
     ·exact Q8_ (hE _ _ _ (UV_ hE d (QH_ h))) (lz_ _) (fun s e _=>by simp)
     ·split
      ·exact Q8_ (QQ_ (hE _ _ _ (QH_ (QH_ h))) _) (Wo_ hs st) (fun s e _=>by simp)
      ·exact Q8_ (QQ_ (hE _ _ _ h) _) (lz_ _) (fun s e _=>by simp)
include hA
theorem QgT_ (d:Nat) (h:K6_ st):K6_ (fnS sg E N d st).2:=by
 unfold fnS;refine Q8_ (hE _ _ _ (QQ_ (QQ_ (JG_ hs (fun st h=>Xr_ hs h) _ _ _ _ (QQ_ h _)) _) _)) (lz_ _) (fun s e hl=>?_);have:=UH_ (sg:=sg) (QT_ (sg:=sg)) ⟨#[41]⟩ N (Qn_ sg st ⟨#[40]⟩) (((Qq_ (sg:=sg) _ ⟨#[41]⟩).trans (Qq_ (sg:=sg) _ ⟨#[61,62]⟩)).trans (hA .pick d _)) s e hl;simp;omega
theorem QcO_ (d:Nat) (h:K6_ st):K6_ (YB_ sg E N d st).2:=by
 unfold YB_;split
 ·exact Xr_ hs h
 ·split
  ·exact UW_ hs h 2
  ·split
   ·exact UW_ hs h 3
   ·split
    ·unfold Qdq_;refine Q8_ (QQ_ (JG_ hs (hE .value d) _ _ _ _ (QH_ h)) _) (lz_ _) (fun s e hl=>?_);have:=UH_ (sg:=sg) (hA .value d) ⟨#[93]⟩ N (Qf_ st) (Qq_ (sg:=sg) _ ⟨#[93]⟩) s e hl;show(QG_ sg (E .value d) ⟨#[93]⟩ N [] (Qf_ st)).1.length<=400;omega
    ·split
     ·split
      ·exact QgT_ hs hA hE d h
      ·exact Q8_ (QQ_ (hE _ _ _ (QH_ h)) _) (lz_ _) (fun s e _=>by simp)
     ·exact XM_
theorem QcS_ (m:Md) (d:Nat) (h:K6_ st):K6_ (Qb8_ sg E N m d st).2:=by
 cases m with
 |value=>
  show K6_ (Xi_ sg E N d st).2;unfold Xi_;split
  ·refine Q8_ (QcP_ hs (hA .value d) (hE .value d) N _ _ _ (hE _ _ _ h)) (lz_ _) (fun s e hl=>?_);obtain⟨s0,_,_,h3⟩:=(vp_ (sg:=sg) (hA .value d) N N [(E .pick d st).1] (E .pick d st).2).2 s e;simp at h3 |-
   omega
  ·exact hE _ _ _ h
 |pick=>
  show K6_ (Vq_ sg E d st).2;unfold Vq_;simp only;split
  ·exact Q8_ (hE _ _ _ (QQ_ (hE _ _ _ (QH_ (hE _ _ _ (UX_ h d)))) _)) (lz_ _) (fun s e _=>by simp)
  ·exact hE _ _ _ (UX_ h d)
 |chain l=>
  show K6_ (Xc_ sg E N l d st).2;unfold Xc_;split
  ·exact hE _ _ _ h
  ·exact QaT_ (hA _ d) (hE _ d) l N _ _ _ (hE _ _ _ h)
 |end_=>exact Qff_ hs (hA .value d) (hE .value d) N _ _ _ (hE _ _ _ h)
 |base=>exact QcO_ hs hA hE d h
 |stmt b=>exact QcT_ hs hE d b h
 |block=>
  show K6_ (Ye_ sg E N d st).2;unfold Ye_;refine Q8_ (QQ_ (kv_ (fun b st h=>hE (.stmt b) (d+1) st h) _ _ _ (QQ_ (UX_ h d) _)) _) (lz_ _) (fun s e hl=>?_);have:=vA_ (sg:=sg) (fun b=>hA (.stmt b) (d+1)) N (Qn_ sg (KI_ d st) ⟨#[123]⟩) (Qq_ (sg:=sg) _ ⟨#[125]⟩) s e hl;show(Zv_ sg (fun b=>E (.stmt b) (d+1)) N [] (Qn_ sg (KI_ d st) ⟨#[123]⟩)).1.length<=400;omega
theorem kx_ (b:Bool) (h:K6_ st):K6_ (VU_ sg E N b st).2:=by
 unfold VU_;refine Q8_ (hE _ _ _ (QQ_ (JG_ hs (fun st h=>Xr_ hs h) _ _ _ _ (QQ_ (qk_ h) _)) _)) (Wo_ hs st) (fun s e hl=>?_);have:=UH_ (sg:=sg) (QT_ (sg:=sg)) ⟨#[41]⟩ N (Qn_ sg (nmS sg st) ⟨#[40]⟩) ((Qq_ (sg:=sg) _ ⟨#[41]⟩).trans (hA .block 0 _)) s e hl;simp;omega
theorem Qfg_ (b:Bool) (h:K6_ st):K6_ (V6_ sg E N b st).2:=by
 unfold V6_;split
 ·exact UY_ hs h b
 ·split
  ·exact ql_ hs hE 0 b (QH_ h)
  ·exact kx_ hs hA hE b h
theorem Qfi_ (b:Bool) (h:K6_ st):K6_ (Y9_ sg E N b st).2:=by
 unfold Y9_;split
 ·exact UY_ hs h b
 ·split
  ·exact ql_ hs hE 0 b (QH_ h)
  ·split
   ·unfold Vd_;refine Q8_ (QQ_ (kv_ (fun b st h=>Qfg_ hs hA hE b h) _ _ _ (QQ_ (qk_ (QH_ h)) _)) _) (Wo_ hs _) (fun s e hl=>?_);have:=vA_ (sg:=sg) (z9_ hA) N (Qn_ sg (nmS sg (Qf_ st)) ⟨#[123]⟩) (Qq_ (sg:=sg) _ ⟨#[125]⟩) s e hl;show(Zv_ sg (V6_ sg E N) N [] (Qn_ sg (nmS sg (Qf_ st)) ⟨#[123]⟩)).1.length<=400;omega
   ·exact kx_ hs hA hE b h
theorem QcR_:∀(n:Nat) (ks:LI) (st:RdSt),K6_ st->K6_ (XL_ sg E N n ks st).2:=by
 intro n
 induction n with
 |zero=>intro ks st h;exact h
 |succ n ih=>
  intro ks st h;unfold XL_;split
  ·exact ih _ _ (Qfi_ hs hA hE _ h)
  ·exact h
omit hs hE in
theorem QeY_:∀(n:Nat) (ks:LI) (st:RdSt),ks.length<=(XL_ sg E N n ks st).1.length/\Adv 0 ((XL_ sg E N n ks st).1.length - ks.length) st (XL_ sg E N n ks st).2:=by
 intro n
 induction n with
 |zero=>intro ks st;exact⟨lr_ _,by simpa[XL_]using Adv.refl st⟩
 |succ n ih=>
  intro ks st;unfold XL_;split
  ·obtain⟨g1,g2⟩:=ih (ks++[(Y9_ sg E N (XI_ sg st ks) st).1]) (Y9_ sg E N (XI_ sg st ks) st).2;simp only[lA,List.length_singleton]at g1 g2;exact⟨oo,((x2_ hA _ st).trans g2).weak oo oo⟩
  ·exact⟨lr_ _,by simpa using Adv.refl st⟩
theorem QaU_ (h:K6_ st):K6_ (ji_ sg E N st):=by
 unfold ji_;refine Q8_ (QcR_ hs hA hE N [] st h) (lz_ _) (fun s e hl=>?_);obtain⟨s0,_,_,h3⟩:=(QeY_ (sg:=sg) hA N [] st).2 s e;simp at h3;show(XL_ sg E N N [] st).1.length<=400;omega
end
theorem QcQ_ {sg:List SgP} (hs:Yd_ sg) {N:Nat}:∀(f:Nat) (m:Md) (d:Nat) (st:RdSt),K6_ st->K6_ (Qd_ sg N f m d st).2:=by
 intro f
 induction f with
 |zero=>intro m d st _;exact XM_
 |succ f ih=>intro m d st h;exact QcS_ hs (fun m d st=>QB_ f m d st) ih m d h
theorem QaV_ {sg:List SgP} (hs:Yd_ sg):K6_ (Xg_ sg):=
 QaU_ hs (fun m d st=>QB_ _ m d st) (fun m d st h=>QcQ_ hs _ m d st h) (fun s e=>by obtain rfl:=oi_ e;exact⟨by simp,fun p hp=>by cases hp⟩)
end Go.Proofs.YtbiijipkgfpgoaaGreatDoor

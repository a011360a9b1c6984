/-
  Put together by program.
-/
import Derived.Test.YtbiijipkgfpgoaaGreatDoorMmE
set_option maxRecDepth 100000
set_option linter.all false
set_option maxHeartbeats 25600000
open Go.Proofs.Tryz
open Go.Value renaming int→I_,slice→S_,string→T_,bool→B_,pointer→P_,agg→A_,tuple→U_
open Go.IntKind renaming i64→j_
open Go.Obj renaming cells→C_
open Go.Ending renaming returned→R_
open List renaming length→η
open Go renaming World→Ω,Calls→Δ,Value→Υ
open Go.Proofs.Tryz renaming prog→π
open Go.RowKit renaming Hid→Ψ
open Bool renaming true→τ,false→φ,and_eq_true→τa,false_and→φa,true_and→τb,and_true→τc,and_false→φb
open Option renaming none→ν,some→σ
namespace Go.Proofs.YtbiijipkgfpgoaaGreatDoor
open Go.RowKit
variable (a:RC)(c:List SgP)(e:RdSt)(g:BA)(b:Bool)(h:RdSt)(l:Nat)(n:Bool)(o:RdSt)(p:Nat)(q:Bool)(r:RdSt){m:BA}{k:Int}{s:List SgP}{d f i j:Nat}{t:OA}{u v:ON}{x:RC}{y:RdSt}{w z:Ω}
def Qes_ (hi:a.imp=τ) (N f:Nat) (hN:a.n<N) (HE:EC a N f) (d:Nat) (b:Bool) (st:RdSt) (row:ON) (w:Ω) (j:RdI a d st row w) (hn:Need a.n st 12 (f+1)) (hd:d+f<=100000) (g:(Qx_ a.sg st 0).1=5):
  Δ π 208 #[P_ (σ ⟨a.T,0,ν⟩),B_ b] w (QA_ a d row w (I_ j_ (Xm_ a.sg b st).1) (Xm_ a.sg b st).2):=by
 have R:∀s,st=σ s->s.at_<a.n:=λs e=>by
  rcases Nat.lt_or_ge s.at_ (η a.sg) with hl|hl
  ·rw[<-j.ok.len];exact hl
  exact absurd g (by rw[e,ZO_ (i:=0) hl];decide)
 have c:=h_ (λ(row:ON) (W:Ω) h=>v8_ a hi d st row b W h R);unfold QA_ at c |-
 generalize Xm_ a.sg b st=r at c |-
 obtain⟨k,st2⟩:=r;dsimp only at c |-
 have l:=h_ j;have o:=h_<|Kr.refl a.T row w;have t:=h_<|Kl_ a hi d st row w j;have v:=q9_;have y:=ky_;generalize Qx_ a.sg st 0=x at t g;obtain⟨kd,xt,xp,xz⟩:=x;dsimp only at t g;subst g;go_in;go_wp2_with fail
 refine rst (t.o) l o ?_;intro w1 m p;go_wp2_with fail;refine pst (c.o _ _ m.o) p ?_;intro w2 row2 n q;go_wp2;go_ret;exact⟨rfl,row2,n.o,q.o⟩
def Qf6_ (hi:a.imp=τ) (N f:Nat) (hN:a.n<N) (HE:EC a N f) (d:Nat) (b:Bool) (st:RdSt) (row:ON) (w:Ω) (l:RdI a d st row w) (hn:Need a.n st 12 (f+1)) (hd:d+f<=100000) (z:(Qx_ a.sg st 0).1≠5) (g:isW a.sg st ⟨#[118,97,114]⟩=τ):
  Δ π 208 #[P_ (σ ⟨a.T,0,ν⟩),B_ b] w (QA_ a d row w (I_ j_ (Jx_ a.sg (Qd_ a.sg N f) d b (Qf_ st)).1) (Jx_ a.sg (Qd_ a.sg N f) d b (Qf_ st)).2):=by
 obtain⟨s,es,e⟩:=U9_ g;subst es;have A:s.at_<a.n:=by rw[<-l.ok.len];exact e
 have j:=h_ (λ(row:ON) (W:Ω) h=>Gd_ a hi N f HE d b s row W h A hn hd);unfold QA_ at j |-
 generalize Jx_ a.sg (Qd_ a.sg N f) d b (Qf_ (σ s))=r at j |-
 obtain⟨k,st2⟩:=r;dsimp only at j |-
 have m:=h_ l;have p:=h_<|Kr.refl a.T row w;have y:=h_<|Kl_ a hi d (σ s) row w l;have C:=q9_;have D:=ky_;have c:=h_ (λ(W:Ω) h=>Qs_ a hi d (σ s) row ⟨#[118,97,114]⟩ W h);rw[g]at c;generalize Qx_ a.sg (σ s) 0=x at y z;obtain⟨kd,xt,xp,xz⟩:=x;dsimp only at y z;have B:(kd==5)=φ:=by rw[bn_];exact z
 go_in;go_wp2_with fail;refine rst (y.o) m p ?_;intro w1 R q;go_wp2_with fail;refine rst (c.o _ R.o) R q ?_;intro w2 n t;go_wp2_with fail;refine pst (j.o _ _ n.o) t ?_;intro w3 i o v;go_wp2;go_ret;exact⟨rfl,i,o.o,v.o⟩
def Qf3_ (hi:a.imp=τ) (N f:Nat) (hN:a.n<N) (HE:EC a N f) (d:Nat) (b:Bool) (st:RdSt) (row:ON) (w:Ω) (n:RdI a d st row w) (hn:Need a.n st 12 (f+1)) (hd:d+f<=100000) (C:(Qx_ a.sg st 0).1≠5) (E:isW a.sg st ⟨#[118,97,114]⟩=φ) (j:isW a.sg st ⟨#[114,101,116,117,114,110]⟩=τ):
  Δ π 208 #[P_ (σ ⟨a.T,0,ν⟩),B_ b] w (QA_ a d row w (I_ j_ (Yp_ a.sg (Qd_ a.sg N f) d b (Qf_ st)).1) (Yp_ a.sg (Qd_ a.sg N f) d b (Qf_ st)).2):=by
 obtain⟨s,es,i⟩:=U9_ j;subst es;have D:s.at_<a.n:=by rw[<-n.ok.len];exact i
 have m:=h_ (λ(row:ON) (W:Ω) h=>Qbl_ a hi N f HE d b s row W h D hn hd);unfold QA_ at m |-
 generalize Yp_ a.sg (Qd_ a.sg N f) d b (Qf_ (σ s))=r at m |-
 obtain⟨k,st2⟩:=r;dsimp only at m |-
 have o:=h_ n;have t:=h_<|Kr.refl a.T row w;have B:=h_<|Kl_ a hi d (σ s) row w n;have G:=q9_;have H:=ky_;have e:=h_ (λ(W:Ω) h=>Qs_ a hi d (σ s) row ⟨#[118,97,114]⟩ W h);rw[E]at e;have g:=h_ (λ(W:Ω) h=>Qs_ a hi d (σ s) row ⟨#[114,101,116,117,114,110]⟩ W h);rw[j]at g;generalize Qx_ a.sg (σ s) 0=x at B C;obtain⟨kd,xt,xp,xz⟩:=x;dsimp only at B C;have F:(kd==5)=φ:=by rw[bn_];exact C
 go_in;go_wp2_with fail;refine rst (B.o) o t ?_;intro w1 R v;go_wp2_with fail;refine rst (e.o _ R.o) R v ?_;intro w2 c y;go_wp2_with fail;refine rst (g.o _ c.o) c y ?_;intro w3 p z;go_wp2_with fail;refine pst (m.o _ _ p.o) z ?_;intro w4 l q A;go_wp2;go_ret;exact⟨rfl,l,q.o,A.o⟩
def QhO_ (hi:a.imp=τ) (N f:Nat) (hN:a.n<N) (HE:EC a N f) (d:Nat) (b:Bool) (st:RdSt) (row:ON) (w:Ω) (p:RdI a d st row w) (hn:Need a.n st 12 (f+1)) (hd:d+f<=100000) (F:(Qx_ a.sg st 0).1≠5) (H:isW a.sg st ⟨#[118,97,114]⟩=φ) (I:isW a.sg st ⟨#[114,101,116,117,114,110]⟩=φ) (m:isW a.sg st ⟨#[105,102]⟩=τ):
  Δ π 208 #[P_ (σ ⟨a.T,0,ν⟩),B_ b] w (QA_ a d row w (I_ j_ (ifS a.sg (Qd_ a.sg N f) d b (Qf_ st)).1) (ifS a.sg (Qd_ a.sg N f) d b (Qf_ st)).2):=by
 obtain⟨s,es,l⟩:=U9_ m;subst es;have G:s.at_<a.n:=by rw[<-p.ok.len];exact l
 have o:=h_ (λ(row:ON) (W:Ω) h=>x9_ a hi N f HE d b s row W h G hn hd);unfold QA_ at o |-
 generalize ifS a.sg (Qd_ a.sg N f) d b (Qf_ (σ s))=r at o |-
 obtain⟨k,st2⟩:=r;dsimp only at o |-
 have q:=h_ p;have y:=h_<|Kr.refl a.T row w;have E:=h_<|Kl_ a hi d (σ s) row w p;have K:=q9_;have L:=ky_;have g:=h_ (λ(W:Ω) h=>Qs_ a hi d (σ s) row ⟨#[118,97,114]⟩ W h);rw[H]at g;have i:=h_ (λ(W:Ω) h=>Qs_ a hi d (σ s) row ⟨#[114,101,116,117,114,110]⟩ W h);rw[I]at i;have j:=h_ (λ(W:Ω) h=>Qs_ a hi d (σ s) row ⟨#[105,102]⟩ W h);rw[m]at j;generalize Qx_ a.sg (σ s) 0=x at E F;obtain⟨kd,xt,xp,xz⟩:=x;dsimp only at E F;have J:(kd==5)=φ:=by rw[bn_];exact F
 go_in;go_wp2_with fail;refine rst (E.o) q y ?_;intro w1 R z;go_wp2_with fail;refine rst (g.o _ R.o) R z ?_;intro w2 c A;go_wp2_with fail;refine rst (i.o _ c.o) c A ?_;intro w3 e B;go_wp2_with fail;refine rst (j.o _ e.o) e B ?_;intro w4 t C;go_wp2_with fail;refine pst (o.o _ _ t.o) C ?_;intro w5 n v D;go_wp2;go_ret;exact⟨rfl,n,v.o,D.o⟩
def Qca_ (hi:a.imp=τ) (N f:Nat) (hN:a.n<N) (HE:EC a N f) (d:Nat) (b:Bool) (st:RdSt) (row:ON) (w:Ω) (j:RdI a d st row w) (hn:Need a.n st 12 (f+1)) (hd:d+f<=100000) (h5:(Qx_ a.sg st 0).1≠5) (an:isW a.sg st ⟨#[118,97,114]⟩=φ) (ao:isW a.sg st ⟨#[114,101,116,117,114,110]⟩=φ) (ap:isW a.sg st ⟨#[105,102]⟩=φ) (H:isW a.sg st ⟨#[119,104,105,108,101]⟩=τ):
  Δ π 208 #[P_ (σ ⟨a.T,0,ν⟩),B_ b] w (QA_ a d row w (I_ j_ (z6_ a.sg (Qd_ a.sg N f) d b (Qf_ st)).1) (z6_ a.sg (Qd_ a.sg N f) d b (Qf_ st)).2):=by
 obtain⟨s,es,G⟩:=U9_ H;subst es;have g:s.at_<a.n:=by rw[<-j.ok.len];exact G
 obtain⟨i0,ay⟩:=iq_ QY_;have ai:=h_ j.lo;have Q:=h_ j.lo.1;have HL:=h_ (λt (e:(σ s)=σ t)=>show t.at_<a.n by obtain rfl:=oi_ e;exact g);unfold QA_ z6_;dsimp only;have c:=Qh_<|some s;have O:=h_ (λ(row:ON) (W:Ω) h=>VZ_ a hi N f HE d (Qf_ (σ s)) row W h (hn.next g (c.trans (Qq_ _ _)) oo) hd);have R:=c.trans<|Yy_ (sg:=a.sg) (E:=Qd_ a.sg N f) (λm d st=>QB_ f m d st) d<|Qf_<|some s;generalize JJ_ a.sg (Qd_ a.sg N f) d (Qf_ (σ s))=rc at O R |-
 obtain⟨kc,M⟩:=rc;dsimp only at O R |-
 have y:=h_ (λ(U:Nat->Prop) (row:ON) (W:Ω) h=>HE.block U d M row W h (hn.next g R oo) hd);unfold QA_ at y;generalize Qd_ a.sg N f .block d M=rt at y |-
 obtain⟨kt,st2⟩:=rt;dsimp only at y |-
 have S:=h_ j;have Z:=h_<|Kr.refl a.T row w;have HX:=h_<|Kl_ a hi d (σ s) row w j;have aA:=q9_;have aB:=ky_;have z:=h_ (λ(W:Ω) h=>Qs_ a hi d (σ s) row ⟨#[118,97,114]⟩ W h);rw[an]at z;have B:=h_ (λ(W:Ω) h=>Qs_ a hi d (σ s) row ⟨#[114,101,116,117,114,110]⟩ W h);rw[ao]at B;have C:=h_ (λ(W:Ω) h=>Qs_ a hi d (σ s) row ⟨#[105,102]⟩ W h);rw[ap]at C;have D:=h_ (λ(W:Ω) h=>Qs_ a hi d (σ s) row ⟨#[119,104,105,108,101]⟩ W h);rw[H]at D;generalize Qx_ a.sg (σ s) 0=x at HX h5;obtain⟨kd,xt,xp,xz⟩:=x;dsimp only at HX h5;have az:(kd==5)=φ:=by rw[bn_];exact h5
 go_in;go_wp2_with fail;refine rst (HX.o) S Z ?_;intro w1 k aa;go_wp2_with fail;refine rst (z.o _ k.o) k aa ?_;intro w2 l ab;go_wp2_with fail;refine rst (B.o _ l.o) l ab ?_;intro w3 n ac;go_wp2_with fail;refine rst (C.o _ n.o) n ac ?_;intro w4 o ad;go_wp2_with fail;refine rst (D.o _ o.o) o ad ?_;intro w5 T ae;go_wp2_with fail;refine pst (Zo_ a hi d (σ s) row w5 T.o HL.o) ae ?_;intro w6 av V q;go_wp2_with fail;refine(O.o _ _ V.o).mono ?_;rintro e w7 ⟨A,rfl,m7,ax,h7,k7⟩;have af:=QS_ q k7;have p:=h_ h7;have r:=h_<|m7.more (B':=w.heap.size) q.o.size;go_wp2_with fail
 refine mb_ (y.o _ _ _ p.o) ?_;rintro w8 ⟨L,h8,k8⟩;replace r:=h_ (p.o.keepI k8 r.o);have X:=h_ h8;have ag:=h_<|af.o.trans k8;go_wp2_with (at_builtin;refine KA_ (.tmp 46) (.tmp 48) X ag r Q rfl rfl rfl rfl oo ?_;intro A9 c9 w9 Y ah v)
 replace r:=v;have hA:=addK a hi d st2 L 17 noT A9 2 c9 [kc,kt] b w.heap.size w9 Y.o.unres r.o ai.o;unfold QA_ at hA;have P:=h_ hA;go_wp2_with fail;refine mb_ P.o ?_;rintro aC ⟨i,ak,aq⟩;go_wp2;go_ret;exact⟨rfl,i,ak,ah.o.trans aq⟩
def Qf4_ (hi:a.imp=τ) (N f:Nat) (hN:a.n<N) (HE:EC a N f) (d:Nat) (b:Bool) (st:RdSt) (row:ON) (w:Ω) (Q:RdI a d st row w) (hn:Need a.n st 12 (f+1)) (hd:d+f<=100000) (h5:(Qx_ a.sg st 0).1≠5) (aj:isW a.sg st ⟨#[118,97,114]⟩=φ) (ak:isW a.sg st ⟨#[114,101,116,117,114,110]⟩=φ) (al:isW a.sg st ⟨#[105,102]⟩=φ) (am:isW a.sg st ⟨#[119,104,105,108,101]⟩=φ) (hs:setB a.sg st=τ):
  Δ π 208 #[P_ (σ ⟨a.T,0,ν⟩),B_ b] w (QA_ a d row w (I_ j_ (setS a.sg (Qd_ a.sg N f) d b st).1) (setS a.sg (Qd_ a.sg N f) d b st).2):=by
 unfold setB at hs;simp only[τa]at hs;obtain⟨g,m,R⟩:=hs;obtain⟨s,es,O⟩:=Z7_ g;subst es;have ai:s.at_<a.n:=by rw[<-Q.ok.len];exact O
 have hM:isM a.sg (Qf_ (σ s)) ⟨#[61]⟩=τ:=by
  have e1:Qx_ a.sg (Qf_ (σ s)) 0=Qx_ a.sg (σ s) 1:=rfl;have e2:(⟨#[61]⟩:BA).toList=[61]:=by rw[ByteArray.toList_eq]
  unfold isM;rw[e1,R,e2,m];rfl
 have l:=h_ (λ(row:ON) (W:Ω) h=>ZQ_ a hi d (Qf_ (σ s)) row ⟨#[61]⟩ W h);rw[Zr_ hM]at l;have c:=h_ (λ(row:ON) (W:Ω) h=>JW_ a hi d (σ s) row W h);have I:=h_ (λ(row:ON) (W:Ω) h=>KM_ a hi d (σ s) row 0 W h oo);rw[g]at I;rw[show nmS a.sg (σ s)=Qf_ (σ s)from ip_ g]at c;have e:=h_ (λ(row:ON) (W:Ω) h=>YH_ a hi d (σ s) row 1 W h oo);have P:=h_ (λ(row:ON) (W:Ω) h=>HE.value a.U d (Qf_ (Qf_ (σ s))) row W h (hn.next ai ((Qh_ _).trans (Qh_ _)) oo) hd);unfold QA_ at P l c |-
 unfold setS;dsimp only;generalize Qd_ a.sg N f .value d (Qf_ (Qf_ (σ s)))=r at P |-
 obtain⟨k,st2⟩:=r;dsimp only at P |-
 generalize nmT a.sg (σ s)=nt at c |-
 have S:=h_ Q;have V:=h_<|Kr.refl a.T row w;have HX:=h_<|Kl_ a hi d (σ s) row w Q;have aq:=q9_;have ar:=ky_;have J:=h_ (λ(W:Ω) h=>Qs_ a hi d (σ s) row ⟨#[118,97,114]⟩ W h);rw[aj]at J;have K:=h_ (λ(W:Ω) h=>Qs_ a hi d (σ s) row ⟨#[114,101,116,117,114,110]⟩ W h);rw[ak]at K;have L:=h_ (λ(W:Ω) h=>Qs_ a hi d (σ s) row ⟨#[105,102]⟩ W h);rw[al]at L;have M:=h_ (λ(W:Ω) h=>Qs_ a hi d (σ s) row ⟨#[119,104,105,108,101]⟩ W h);rw[am]at M;generalize Qx_ a.sg (σ s) 0=x at HX h5;obtain⟨kd,xt,xp,xz⟩:=x;dsimp only at HX h5;have ap:(kd==5)=φ:=by rw[bn_];exact h5
 generalize Qx_ a.sg (σ s) 1=y at e m R;obtain⟨yk,yt,yp,yz⟩:=y;dsimp only at e m R;obtain rfl:yk=4:=eq_of_beq R;go_in;go_wp2_with fail;refine rst (HX.o) S V ?_;intro w1 q X;go_wp2_with fail;refine rst (J.o _ q.o) q X ?_;intro w2 z Y;go_wp2_with fail;refine rst (K.o _ z.o) z Y ?_;intro w3 A Z;go_wp2_with fail;refine rst (L.o _ A.o) A Z ?_;intro w4 B aa;go_wp2_with fail;refine rst (M.o _ B.o) B aa ?_;intro w5 C ab;go_wp2_with fail;refine rst (I.o _ _ C.o) C ab ?_;intro w6 D ac;go_wp2_with fail;refine rst (e.o _ _ D.o) D ac ?_;intro w7 E ad;go_wp2_with fail;refine rst (e.o _ _ E.o) E ad ?_;intro w8 T ae;go_wp2_with fail;refine pst (c.o _ _ T.o) ae ?_;intro w9 ao U af;go_wp2_with fail;refine pst (l.o _ _ U.o) af ?_;intro av an t F;go_wp2_with fail;refine pst (P.o _ _ t.o) F ?_;intro p n i G;have j:=h_ i.o.lo;go_wp2_with fail;refine pst (KK_ a hi d st2 n ⟨#[59]⟩ 13 nt (σ ⟨p.heap.size,0,ν⟩) 1 1 [k] b p.heap.size _ (i.o.alloc _) (GW_ p k) j.o) G ?_;intro ax o v H;go_wp2;go_ret;exact⟨rfl,o,v.o,H.o⟩
def Qep_ (hi:a.imp=τ) (N f:Nat) (hN:a.n<N) (HE:EC a N f) (d:Nat) (b:Bool) (st:RdSt) (row:ON) (w:Ω) (O:RdI a d st row w) (hn:Need a.n st 12 (f+1)) (hd:d+f<=100000) (M:(Qx_ a.sg st 0).1≠5) (P:isW a.sg st ⟨#[118,97,114]⟩=φ) (Q:isW a.sg st ⟨#[114,101,116,117,114,110]⟩=φ) (S:isW a.sg st ⟨#[105,102]⟩=φ) (T:isW a.sg st ⟨#[119,104,105,108,101]⟩=φ) (hs:Kp_ a.sg st 0=φ):
  Δ π 208 #[P_ (σ ⟨a.T,0,ν⟩),B_ b] w (QA_ a d row w (I_ j_ (doS a.sg (Qd_ a.sg N f) d b st).1) (doS a.sg (Qd_ a.sg N f) d b st).2):=by
 have v:=h_ (λ(row:ON) (W:Ω) h=>HE.value a.U d st row W h (hn.same oo (Adv.refl st)) hd);have m:=h_ (λ(row:ON) (W:Ω) h=>KM_ a hi d st row 0 W h oo);have K:=h_ (λ(row:ON) (W:Ω) h=>YH_ a hi d st row 1 W h oo);unfold QA_ at v |-
 unfold doS;dsimp only;generalize Qd_ a.sg N f .value d st=r at v |-
 obtain⟨k,st2⟩:=r;dsimp only at v |-
 have y:=h_ O;have B:=h_<|Kr.refl a.T row w;have L:=h_<|Kl_ a hi d st row w O;have X:=q9_;have Y:=ky_;have n:=h_ (λ(W:Ω) h=>Qs_ a hi d st row ⟨#[118,97,114]⟩ W h);rw[P]at n;have o:=h_ (λ(W:Ω) h=>Qs_ a hi d st row ⟨#[114,101,116,117,114,110]⟩ W h);rw[Q]at o;have p:=h_ (λ(W:Ω) h=>Qs_ a hi d st row ⟨#[105,102]⟩ W h);rw[S]at p;have q:=h_ (λ(W:Ω) h=>Qs_ a hi d st row ⟨#[119,104,105,108,101]⟩ W h);rw[T]at q;generalize Qx_ a.sg st 0=x at L M;obtain⟨kd,xt,xp,xz⟩:=x;dsimp only at L M;have V:(kd==5)=φ:=by rw[bn_];exact M
 rw[hs]at m;go_in;go_wp2_with fail;refine rst (L.o) y B ?_;intro w1 R C;go_wp2_with fail;refine rst (n.o _ R.o) R C ?_;intro w2 c D;go_wp2_with fail;refine rst (o.o _ c.o) c D ?_;intro w3 e E;go_wp2_with fail;refine rst (p.o _ e.o) e E ?_;intro w4 g F;go_wp2_with fail;refine rst (q.o _ g.o) g F ?_;intro w5 i G;go_wp2_with fail;refine rst (m.o _ _ i.o) i G ?_;intro w6 z H;go_wp2_with fail;refine pst (v.o _ _ z.o) H ?_;intro U s j I;have l:=h_ j.o.lo;go_wp2_with fail;refine pst (KK_ a hi d st2 s ⟨#[59]⟩ 14 noT (σ ⟨U.heap.size,0,ν⟩) 1 1 [k] b U.heap.size _ (j.o.alloc _) (GW_ U k) l.o) I ?_;intro w8 t A J;go_wp2;go_ret;exact⟨rfl,t,A.o,J.o⟩
def Qeq_ (hi:a.imp=τ) (N f:Nat) (hN:a.n<N) (HE:EC a N f) (d:Nat) (b:Bool) (st:RdSt) (row:ON) (w:Ω) (S:RdI a d st row w) (hn:Need a.n st 12 (f+1)) (hd:d+f<=100000) (Q:(Qx_ a.sg st 0).1≠5) (U:isW a.sg st ⟨#[118,97,114]⟩=φ) (V:isW a.sg st ⟨#[114,101,116,117,114,110]⟩=φ) (X:isW a.sg st ⟨#[105,102]⟩=φ) (Y:isW a.sg st ⟨#[119,104,105,108,101]⟩=φ) (T:Kp_ a.sg st 0=τ) (hs:((Qx_ a.sg st 1).2.1.toList==[61])=φ):
  Δ π 208 #[P_ (σ ⟨a.T,0,ν⟩),B_ b] w (QA_ a d row w (I_ j_ (doS a.sg (Qd_ a.sg N f) d b st).1) (doS a.sg (Qd_ a.sg N f) d b st).2):=by
 have A:=h_ (λ(row:ON) (W:Ω) h=>HE.value a.U d st row W h (hn.same oo (Adv.refl st)) hd);have o:=h_ (λ(row:ON) (W:Ω) h=>KM_ a hi d st row 0 W h oo);have R:=h_ (λ(row:ON) (W:Ω) h=>YH_ a hi d st row 1 W h oo);unfold QA_ at A |-
 unfold doS;dsimp only;generalize Qd_ a.sg N f .value d st=r at A |-
 obtain⟨k,st2⟩:=r;dsimp only at A |-
 have B:=h_ S;have E:=h_<|Kr.refl a.T row w;have P:=h_<|Kl_ a hi d st row w S;have ab:=q9_;have ac:=ky_;have p:=h_ (λ(W:Ω) h=>Qs_ a hi d st row ⟨#[118,97,114]⟩ W h);rw[U]at p;have q:=h_ (λ(W:Ω) h=>Qs_ a hi d st row ⟨#[114,101,116,117,114,110]⟩ W h);rw[V]at q;have s:=h_ (λ(W:Ω) h=>Qs_ a hi d st row ⟨#[105,102]⟩ W h);rw[X]at s;have t:=h_ (λ(W:Ω) h=>Qs_ a hi d st row ⟨#[119,104,105,108,101]⟩ W h);rw[Y]at t;generalize Qx_ a.sg st 0=x at P Q;obtain⟨kd,xt,xp,xz⟩:=x;dsimp only at P Q;have aa:(kd==5)=φ:=by rw[bn_];exact Q
 generalize Qx_ a.sg st 1=y at R hs;obtain⟨yk,yt,yp,yz⟩:=y;dsimp only at R hs;rw[T]at o;go_in;go_wp2_with fail;refine rst (P.o) B E ?_;intro w1 c F;go_wp2_with fail;refine rst (p.o _ c.o) c F ?_;intro w2 e G;go_wp2_with fail;refine rst (q.o _ e.o) e G ?_;intro w3 g H;go_wp2_with fail;refine rst (s.o _ g.o) g H ?_;intro w4 i I;go_wp2_with fail;refine rst (t.o _ i.o) i I ?_;intro w5 j J;go_wp2_with fail;refine rst (o.o _ _ j.o) j J ?_;intro w6 l K;go_wp2_with fail;refine rst (R.o _ _ l.o) l K ?_;intro w7 C L;go_wp2_with fail;refine pst (A.o _ _ C.o) L ?_;intro Z v m M;have n:=h_ m.o.lo;go_wp2_with fail;refine pst (KK_ a hi d st2 v ⟨#[59]⟩ 14 noT (σ ⟨Z.heap.size,0,ν⟩) 1 1 [k] b Z.heap.size _ (m.o.alloc _) (GW_ Z k) n.o) M ?_;intro w9 z D O;go_wp2;go_ret;exact⟨rfl,z,D.o,O.o⟩
def Qer_ (hi:a.imp=τ) (N f:Nat) (hN:a.n<N) (HE:EC a N f) (d:Nat) (b:Bool) (st:RdSt) (row:ON) (w:Ω) (V:RdI a d st row w) (hn:Need a.n st 12 (f+1)) (hd:d+f<=100000) (U:(Qx_ a.sg st 0).1≠5) (Y:isW a.sg st ⟨#[118,97,114]⟩=φ) (Z:isW a.sg st ⟨#[114,101,116,117,114,110]⟩=φ) (aa:isW a.sg st ⟨#[105,102]⟩=φ) (ab:isW a.sg st ⟨#[119,104,105,108,101]⟩=φ) (X:Kp_ a.sg st 0=τ) (C:((Qx_ a.sg st 1).2.1.toList==[61])=τ) (hs:((Qx_ a.sg st 1).1==4)=φ):
  Δ π 208 #[P_ (σ ⟨a.T,0,ν⟩),B_ b] w (QA_ a d row w (I_ j_ (doS a.sg (Qd_ a.sg N f) d b st).1) (doS a.sg (Qd_ a.sg N f) d b st).2):=by
 have E:=h_ (λ(row:ON) (W:Ω) h=>HE.value a.U d st row W h (hn.same oo (Adv.refl st)) hd);have t:=h_ (λ(row:ON) (W:Ω) h=>KM_ a hi d st row 0 W h oo);have R:=h_ (λ(row:ON) (W:Ω) h=>YH_ a hi d st row 1 W h oo);unfold QA_ at E |-
 unfold doS;dsimp only;generalize Qd_ a.sg N f .value d st=r at E |-
 obtain⟨k,st2⟩:=r;dsimp only at E |-
 have F:=h_ V;have H:=h_<|Kr.refl a.T row w;have T:=h_<|Kl_ a hi d st row w V;have ae:=q9_;have af:=ky_;have v:=h_ (λ(W:Ω) h=>Qs_ a hi d st row ⟨#[118,97,114]⟩ W h);rw[Y]at v;have z:=h_ (λ(W:Ω) h=>Qs_ a hi d st row ⟨#[114,101,116,117,114,110]⟩ W h);rw[Z]at z;have A:=h_ (λ(W:Ω) h=>Qs_ a hi d st row ⟨#[105,102]⟩ W h);rw[aa]at A;have B:=h_ (λ(W:Ω) h=>Qs_ a hi d st row ⟨#[119,104,105,108,101]⟩ W h);rw[ab]at B;generalize Qx_ a.sg st 0=x at T U;obtain⟨kd,xt,xp,xz⟩:=x;dsimp only at T U;have ad:(kd==5)=φ:=by rw[bn_];exact U
 generalize Qx_ a.sg st 1=y at R hs C;obtain⟨yk,yt,yp,yz⟩:=y;dsimp only at R hs C;rw[X]at t;go_in;go_wp2_with fail;refine rst (T.o) F H ?_;intro w1 e I;go_wp2_with fail;refine rst (v.o _ e.o) e I ?_;intro w2 i J;go_wp2_with fail;refine rst (z.o _ i.o) i J ?_;intro w3 j K;go_wp2_with fail;refine rst (A.o _ j.o) j K ?_;intro w4 l L;go_wp2_with fail;refine rst (B.o _ l.o) l L ?_;intro w5 m M;go_wp2_with fail;refine rst (t.o _ _ m.o) m M ?_;intro w6 n O;go_wp2_with fail;refine rst (R.o _ _ n.o) n O ?_;intro w7 o P;go_wp2_with fail;refine rst (R.o _ _ o.o) o P ?_;intro w8 G Q;go_wp2_with fail;refine pst (E.o _ _ G.o) Q ?_;intro w9 D p S;have s:=h_ p.o.lo;go_wp2_with fail;refine pst (KK_ a hi d st2 D ⟨#[59]⟩ 14 noT (σ ⟨w9.heap.size,0,ν⟩) 1 1 [k] b w9.heap.size _ (p.o.alloc _) (GW_ w9 k) s.o) S ?_;intro ag c g q;go_wp2;go_ret;exact⟨rfl,c,g.o,q.o⟩
def Qet_ (hi:a.imp=τ) (N f:Nat) (j:a.n<N) (g:EC a N f) (d:Nat) (b:Bool) (st:RdSt) (row:ON) (w:Ω) (i:RdI a d st row w) (k:Need a.n st 12 (f+1)) (hd:d+f<=100000):
  Δ π 208 #[P_ (σ ⟨a.T,0,ν⟩),B_ b] w (QA_ a d row w (I_ j_ (ZJ_ a.sg (Qd_ a.sg N f) d b st).1) (ZJ_ a.sg (Qd_ a.sg N f) d b st).2):=by
 by_cases R:(Qx_ a.sg st 0).1=5
 ·rw[show ZJ_ a.sg (Qd_ a.sg N f) d b st=Xm_ a.sg b st from ip_ R];exact Qes_ a hi N f j g d b st row w i k hd R
 rcases bft (isW a.sg st ⟨#[118,97,114]⟩)with c|c
 ·rw[show ZJ_ a.sg (Qd_ a.sg N f) d b st=Jx_ a.sg (Qd_ a.sg N f) d b (Qf_ st)by unfold ZJ_;rw[in_ R,ip_ c]];exact Qf6_ a hi N f j g d b st row w i k hd R c
 rcases bft (isW a.sg st ⟨#[114,101,116,117,114,110]⟩)with h1|h1
 ·rw[show ZJ_ a.sg (Qd_ a.sg N f) d b st=Yp_ a.sg (Qd_ a.sg N f) d b (Qf_ st)by unfold ZJ_;rw[in_ R,in_ (by rw[c];decide),ip_ h1]];exact Qf3_ a hi N f j g d b st row w i k hd R c h1
 rcases bft (isW a.sg st ⟨#[105,102]⟩)with e|e
 ·rw[show ZJ_ a.sg (Qd_ a.sg N f) d b st=ifS a.sg (Qd_ a.sg N f) d b (Qf_ st)by unfold ZJ_;rw[in_ R,in_ (by rw[c];decide),in_ (by rw[h1];decide),ip_ e]];exact QhO_ a hi N f j g d b st row w i k hd R c h1 e
 rcases bft (isW a.sg st ⟨#[119,104,105,108,101]⟩)with h|h
 ·rw[show ZJ_ a.sg (Qd_ a.sg N f) d b st=z6_ a.sg (Qd_ a.sg N f) d b (Qf_ st)by unfold ZJ_;rw[in_ R,in_ (by rw[c];decide),in_ (by rw[h1];decide),in_ (by rw[e];decide),ip_ h]];exact Qca_ a hi N f j g d b st row w i k hd R c h1 e h
 rcases bft (setB a.sg st)with l|l
 ·rw[show ZJ_ a.sg (Qd_ a.sg N f) d b st=setS a.sg (Qd_ a.sg N f) d b st by unfold ZJ_;rw[in_ R,in_ (by rw[c];decide),in_ (by rw[h1];decide),in_ (by rw[e];decide),in_ (by rw[h];decide),ip_ l]];exact Qf4_ a hi N f j g d b st row w i k hd R c h1 e h l
 rw[show ZJ_ a.sg (Qd_ a.sg N f) d b st=doS a.sg (Qd_ a.sg N f) d b st by unfold ZJ_;rw[in_ R,in_ (by rw[c];decide),in_ (by rw[h1];decide),in_ (by rw[e];decide),in_ (by rw[h];decide),in_ (by rw[l];decide)]];unfold setB at l;rcases bft (Kp_ a.sg st 0)with m|m
 ·rw[m,τb]at l;rcases bft ((Qx_ a.sg st 1).2.1.toList==[61])with n|n
  ·rw[n,τb]at l;exact Qer_ a hi N f j g d b st row w i k hd R c h1 e h m n l
  exact Qeq_ a hi N f j g d b st row w i k hd R c h1 e h m n
 exact Qep_ a hi N f j g d b st row w i k hd R c h1 e h m
def ec_u (U:Nat->Prop) (h:EC x d f):EC { x with U:=U } d f:=
 ⟨λU' R st row w a=>h.value U' R st row w a,λU' R st row w a=>h.pick U' R st row w a,λU' l R st row w a=>h.chain U' l R st row w a,λU' R st row w a=>h.end_ U' R st row w a,λU' R st row w a=>h.base U' R st row w a,λU' b R st row w a=>h.stmt U' b R st row w a,λU' R st row w a=>h.block U' R st row w a⟩
def GQ_ (hi:a.imp=τ) (N:Nat) (g:a.n<N):∀f,EC a N f:=by
 intro f
 induction f with
 |zero=>
  exact⟨λU d st row w c R=>absurd R.1 oo,λU d st row w c R=>absurd R.1 oo,λU l d st row w c hl R=>absurd R.1 oo,λU d st row w c R=>absurd R.1 oo,λU d st row w c R=>absurd R.1 oo,λU b d st row w c R=>absurd R.1 oo,λU d st row w c R=>absurd R.1 oo⟩
 |succ f e=>
  exact⟨λU d st row w c R hd=>Qcc_ { a with U:=U } hi N f g (ec_u U e) d st row w c R hd,
   λU d st row w c R hd=>QdQ_ { a with U:=U } hi N f (ec_u U e) d st row w c R hd,
   λU l d st row w c hl R hd=>QaL_ { a with U:=U } hi N f g (ec_u U e) l d hl st row w c R hd,
   λU d st row w c R hd=>Qfc_ { a with U:=U } hi N f g (ec_u U e) d st row w c R hd,
   λU d st row w c R hd=>Qct_ { a with U:=U } hi N f g (ec_u U e) d st row w c R hd,
   λU b d st row w c R hd=>Qet_ { a with U:=U } hi N f g (ec_u U e) d b st row w c R oo,
   λU d st row w c R hd=>QaI_ { a with U:=U } hi N f g (ec_u U e) d st row w c R hd⟩
def qG_ {n r F:Nat} (hF:14*(n+2)<=F) (hr:r<=13):Need n e r F:=⟨oo,λs _=>by
 have:n-s.at_<=n:=oo;omega⟩
def Wk_ (hi:a.imp=τ) (N F:Nat) (hF:14*(a.n+2)<=F) (hd:F<=100000) (hN:a.n<N) (HE:EC a N F) (b cl:Bool) (st:RdSt) (row:ON) (w:Ω) (f:RdI a 0 st row w) (d:(Qx_ a.sg st 0).1=5):
  Δ π 118 #[P_ (σ ⟨a.T,0,ν⟩),B_ b,B_ cl] w (QA_ a 0 row w (I_ j_ (Xm_ a.sg b st).1) (Xm_ a.sg b st).2):=by
 have R:∀s,st=σ s->s.at_<a.n:=λs e=>by
  rcases Nat.lt_or_ge s.at_ (η a.sg) with hl|hl
  ·rw[<-f.ok.len];exact hl
  exact absurd d (by rw[e,ZO_ (i:=0) hl];decide)
 have c:=h_ (λ(row:ON) (W:Ω) h=>v8_ a hi 0 st row b W h R);unfold QA_ at c |-
 generalize Xm_ a.sg b st=r at c |-
 obtain⟨k,st2⟩:=r;dsimp only at c |-
 have g:=h_ f;have m:=h_<|Kr.refl a.T row w;have p:=h_<|Kl_ a hi 0 st row w f;have q:=q9_;generalize Qx_ a.sg st 0=x at p d;obtain⟨kd,xt,xp,xz⟩:=x;dsimp only at p d;subst d;go_in;go_wp2_with fail
 refine rst (p.o) g m ?_;intro w1 j n;go_wp2_with fail;refine pst (c.o _ _ j.o) n ?_;intro w2 row2 l o;go_wp2;go_ret;exact⟨rfl,row2,l.o,o.o⟩
def zG_ (hi:a.imp=τ) (N F:Nat) (hF:14*(a.n+2)<=F) (hd:F<=100000) (hN:a.n<N) (HE:EC a N F) (b cl:Bool) (st:RdSt) (row:ON) (w:Ω) (i:RdI a 0 st row w) (v:(Qx_ a.sg st 0).1≠5) (e:isW a.sg st ⟨#[118,97,114]⟩=τ):
  Δ π 118 #[P_ (σ ⟨a.T,0,ν⟩),B_ b,B_ cl] w (QA_ a 0 row w (I_ j_ (Jx_ a.sg (Qd_ a.sg N F) 0 b (Qf_ st)).1) (Jx_ a.sg (Qd_ a.sg N F) 0 b (Qf_ st)).2):=by
 obtain⟨s,es,d⟩:=U9_ e;subst es;have y:s.at_<a.n:=by rw[<-i.ok.len];exact d
 have g:=h_ (λ(row:ON) (W:Ω) h=>Gd_ a hi N F HE 0 b s row W h y (qG_ (r:=12) (F:=F+1) (σ s) oo oo) oo);unfold QA_ at g |-
 generalize Jx_ a.sg (Qd_ a.sg N F) 0 b (Qf_ (σ s))=r at g |-
 obtain⟨k,st2⟩:=r;dsimp only at g |-
 have j:=h_ i;have n:=h_<|Kr.refl a.T row w;have t:=h_<|Kl_ a hi 0 (σ s) row w i;have A:=q9_;have c:=h_ (λ(W:Ω) h=>Qs_ a hi 0 (σ s) row ⟨#[118,97,114]⟩ W h);rw[e]at c;generalize Qx_ a.sg (σ s) 0=x at t v;obtain⟨kd,xt,xp,xz⟩:=x;dsimp only at t v;have z:(kd==5)=φ:=by rw[bn_];exact v
 go_in;go_wp2_with fail;refine rst (t.o) j n ?_;intro w1 R o;go_wp2_with fail;refine rst (c.o _ R.o) R o ?_;intro w2 l p;go_wp2_with fail;refine pst (g.o _ _ l.o) p ?_;intro w3 f m q;go_wp2;go_ret;exact⟨rfl,f,m.o,q.o⟩
def qE_ (hi:a.imp=τ) (N F:Nat) (hF:14*(a.n+2)<=F) (hd:F<=100000) (hN:a.n<N) (HE:EC a N F) (b cl:Bool) (st:RdSt) (row:ON) (w:Ω) (t:RdI a 0 st row w) (h5:(Qx_ a.sg st 0).1≠5) (ag:isW a.sg st ⟨#[118,97,114]⟩=φ) (af:cl=φ):
  Δ π 118 #[P_ (σ ⟨a.T,0,ν⟩),B_ b,B_ cl] w (QA_ a 0 row w (I_ j_ (VU_ a.sg (Qd_ a.sg N F) N b st).1) (VU_ a.sg (Qd_ a.sg N F) N b st).2):=by
 obtain⟨i0,am⟩:=iq_ QY_;have ac:=h_ t.lo;have J:=h_ t.lo.1;have R:=h_ (λ(row:ON) (W:Ω) h=>JW_ a hi 0 st row W h);unfold QA_ at R |-
 unfold VU_;dsimp only;generalize nmT a.sg st=nt at R |-
 generalize nmS a.sg st=f at R |-
 have H:=h_ (λ(row:ON) (W:Ω) h=>We_ a.U hi 0 (Qn_ a.sg f ⟨#[40]⟩) row ⟨#[41]⟩ N W h hN);generalize QG_ a.sg (Qj_ a.sg) ⟨#[41]⟩ N [] (Qn_ a.sg f ⟨#[40]⟩)=q at H |-
 obtain⟨ks,g⟩:=q;dsimp only at H |-
 have o:=h_ (λ(U:Nat->Prop) (row:ON) (W:Ω) h=>HE.block U 0 (Qn_ a.sg g ⟨#[41]⟩) row W h (qG_ _ hF oo) oo);unfold QA_ at o;generalize Qd_ a.sg N F .block 0 (Qn_ a.sg g ⟨#[41]⟩)=r at o |-
 obtain⟨k,aj⟩:=r;dsimp only at o |-
 have K:=h_ t;have S:=h_<|Kr.refl a.T row w;have HX:=h_<|Kl_ a hi 0 st row w t;have ao:=q9_;have p:=h_ (λ(W:Ω) h=>Qs_ a hi 0 st row ⟨#[118,97,114]⟩ W h);rw[ag]at p;generalize Qx_ a.sg st 0=x at HX h5;obtain⟨kd,xt,xp,xz⟩:=x;dsimp only at HX h5;have an:(kd==5)=φ:=by rw[bn_];exact h5
 subst af;go_in;go_wp2_with fail;refine rst (HX.o) K S ?_;intro w1 i T;go_wp2_with fail;refine rst (p.o _ i.o) i T ?_;intro w2 L V;go_wp2_with fail;refine pst (R.o _ _ L.o) V ?_;intro w3 C M X;go_wp2_with fail;refine pst (ZQ_ a hi 0 f C ⟨#[40]⟩ w3 M.o) X ?_;intro w4 ak O m;go_wp2_with fail;refine(H.o _ _ O.o).mono ?_;rintro e w5 ⟨A,c,rfl,m2,ap,D,h2,k2⟩;have Y:=QS_ m k2;have j:=h_ h2;have d:=h_<|m2.more (B':=w.heap.size) m.o.size;go_wp2_with fail
 refine mb_ (Qat_ _ hi 0 g D ⟨#[41]⟩ w5 j.o) ?_;rintro w6 ⟨al,h3,k3⟩;replace d:=h_ (j.o.keepI k3 d.o);have l:=h_ h3;have Z:=h_<|Y.o.trans k3;go_wp2_with fail
 refine mb_ (o.o _ _ _ l.o) ?_;rintro w7 ⟨E,s,k5⟩;replace d:=h_ (l.o.keepI k5 d.o);have P:=h_ s;have aa:=h_<|Z.o.trans k5;go_wp2_with (at_builtin;refine KA_ (.tmp 47) (.tmp 49) P aa d J rfl rfl rfl rfl oo ?_;intro A8 c8 w8 Q ab n)
 replace d:=n;have hA:=addK a hi 0 aj E 20 nt A8 (η ks+1) c8 (ks++[k]) b w.heap.size w8 Q.o.unres d.o ac.o;unfold QA_ at hA;have I:=h_ hA;go_wp2_with fail;refine mb_ I.o ?_;rintro w9 ⟨G,h8,k8⟩;go_wp2;go_ret;exact⟨rfl,G,h8,ab.o.trans k8⟩
def qF_ (hi:a.imp=τ) (N F:Nat) (hF:14*(a.n+2)<=F) (hd:F<=100000) (hN:a.n<N) (HE:EC a N F) (b cl:Bool) (st:RdSt) (row:ON) (w:Ω) (z:RdI a 0 st row w) (h5:(Qx_ a.sg st 0).1≠5) (aj:isW a.sg st ⟨#[118,97,114]⟩=φ) (ak:isW a.sg st ⟨#[99,108,97,115,115]⟩=φ) (ai:cl=τ):
  Δ π 118 #[P_ (σ ⟨a.T,0,ν⟩),B_ b,B_ cl] w (QA_ a 0 row w (I_ j_ (VU_ a.sg (Qd_ a.sg N F) N b st).1) (VU_ a.sg (Qd_ a.sg N F) N b st).2):=by
 obtain⟨i0,aq⟩:=iq_ QY_;have af:=h_ z.lo;have L:=h_ z.lo.1;have R:=h_ (λ(row:ON) (W:Ω) h=>JW_ a hi 0 st row W h);unfold QA_ at R |-
 unfold VU_;dsimp only;generalize nmT a.sg st=nt at R |-
 generalize nmS a.sg st=g at R |-
 have J:=h_ (λ(row:ON) (W:Ω) h=>We_ a.U hi 0 (Qn_ a.sg g ⟨#[40]⟩) row ⟨#[41]⟩ N W h hN);generalize QG_ a.sg (Qj_ a.sg) ⟨#[41]⟩ N [] (Qn_ a.sg g ⟨#[40]⟩)=q at J |-
 obtain⟨ks,i⟩:=q;dsimp only at J |-
 have s:=h_ (λ(U:Nat->Prop) (row:ON) (W:Ω) h=>HE.block U 0 (Qn_ a.sg i ⟨#[41]⟩) row W h (qG_ _ hF oo) oo);unfold QA_ at s;generalize Qd_ a.sg N F .block 0 (Qn_ a.sg i ⟨#[41]⟩)=r at s |-
 obtain⟨k,an⟩:=r;dsimp only at s |-
 have M:=h_ z;have V:=h_<|Kr.refl a.T row w;have HX:=h_<|Kl_ a hi 0 st row w z;have av:=q9_;have t:=h_ (λ(W:Ω) h=>Qs_ a hi 0 st row ⟨#[118,97,114]⟩ W h);rw[aj]at t;have v:=h_ (λ(W:Ω) h=>Qs_ a hi 0 st row ⟨#[99,108,97,115,115]⟩ W h);rw[ak]at v;generalize Qx_ a.sg st 0=x at HX h5;obtain⟨kd,xt,xp,xz⟩:=x;dsimp only at HX h5;have ar:(kd==5)=φ:=by rw[bn_];exact h5
 subst ai;go_in;go_wp2_with fail;refine rst (HX.o) M V ?_;intro w1 j X;go_wp2_with fail;refine rst (t.o _ j.o) j X ?_;intro w2 l Y;go_wp2_with fail;refine rst (v.o _ l.o) l Y ?_;intro w3 O Z;go_wp2_with fail;refine pst (R.o _ _ O.o) Z ?_;intro w4 G P aa;go_wp2_with fail;refine pst (ZQ_ a hi 0 g G ⟨#[40]⟩ w4 P.o) aa ?_;intro w5 ao Q o;go_wp2_with fail;refine(J.o _ _ Q.o).mono ?_;rintro e w6 ⟨A,c,rfl,m2,ax,H,h2,k2⟩;have ab:=QS_ o k2;have m:=h_ h2;have d:=h_<|m2.more (B':=w.heap.size) o.o.size;go_wp2_with fail
 refine mb_ (Qat_ _ hi 0 i H ⟨#[41]⟩ w6 m.o) ?_;rintro w7 ⟨ap,h3,k3⟩;replace d:=h_ (m.o.keepI k3 d.o);have n:=h_ h3;have ac:=h_<|ab.o.trans k3;go_wp2_with fail
 refine mb_ (s.o _ _ _ n.o) ?_;rintro w8 ⟨I,y,k5⟩;replace d:=h_ (n.o.keepI k5 d.o);have S:=h_ y;have ad:=h_<|ac.o.trans k5;go_wp2_with (at_builtin;refine KA_ (.tmp 47) (.tmp 49) S ad d L rfl rfl rfl rfl oo ?_;intro A9 c9 w9 T ae p)
 replace d:=p;have hA:=addK a hi 0 an I 20 nt A9 (η ks+1) c9 (ks++[k]) b w.heap.size w9 T.o.unres d.o af.o;unfold QA_ at hA;have K:=h_ hA;go_wp2_with fail;refine mb_ K.o ?_;rintro ay ⟨f,h8,k8⟩;go_wp2;go_ret;exact⟨rfl,f,h8,ae.o.trans k8⟩
def Qby_ (hi:a.imp=τ) (N F:Nat) (e:14*(a.n+2)<=F) (hd:F<=100000) (g:a.n<N) (d:EC a N F) (b:Bool) (st:RdSt) (row:ON) (w:Ω) (f:RdI a 0 st row w):
  Δ π 118 #[P_ (σ ⟨a.T,0,ν⟩),B_ b,B_ φ] w (QA_ a 0 row w (I_ j_ (V6_ a.sg (Qd_ a.sg N F) N b st).1) (V6_ a.sg (Qd_ a.sg N F) N b st).2):=by
 by_cases R:(Qx_ a.sg st 0).1=5
 ·rw[show V6_ a.sg (Qd_ a.sg N F) N b st=Xm_ a.sg b st from ip_ R];exact Wk_ a hi N F e hd g d b φ st row w f R
 rcases bft (isW a.sg st ⟨#[118,97,114]⟩)with c|c
 ·rw[show V6_ a.sg (Qd_ a.sg N F) N b st=Jx_ a.sg (Qd_ a.sg N F) 0 b (Qf_ st)by unfold V6_;rw[in_ R,ip_ c]];exact zG_ a hi N F e hd g d b φ st row w f R c
 rw[show V6_ a.sg (Qd_ a.sg N F) N b st=VU_ a.sg (Qd_ a.sg N F) N b st by unfold V6_;rw[in_ R,in_ (by rw[c];decide)]];exact qE_ a hi N F e hd g d b φ st row w f R c rfl
def QaO_ (R:RC) (hi:R.imp=τ) (N F:Nat) (hF:14*(R.n+2)<=F) (hd:F<=100000) (hN:R.n<N) (HE:EC R N F) (bl:Bool) (s:PS) (row:ON) (w:Ω) (hI:RdI R 0 (σ s) row w) (aV:s.at_<R.n):
  Δ π 162 #[P_ (σ ⟨R.T,0,ν⟩),B_ bl] w (QA_ R 0 row w (I_ j_ (Vd_ R.sg (Qd_ R.sg N F) N bl (Qf_ (σ s))).1) (Vd_ R.sg (Qd_ R.sg N F) N bl (Qf_ (σ s))).2):=by
 obtain⟨i0,a2⟩:=iq_ QY_;have ay:=h_ hI;have aA:=h_<|Kr.refl R.T row w;have aQ:=h_ hI.lo;have ax:=h_ hI.lo.1;have HL:=h_ (λt (e:(σ s)=σ t)=>show t.at_<R.n by obtain rfl:=oi_ e;exact aV);have V:=h_ (λ(row:ON) (W:Ω) h=>JW_ R hi 0 (Qf_ (σ s)) row W h);have HO:Ψ (QeS_ R 0 (σ s) (V6_ R.sg (Qd_ R.sg N F) N) (λw b Q=>Δ π 118 #[P_ (σ ⟨R.T,0,ν⟩),B_ b,B_ φ] w Q)):=(show QeS_ _ _ _ _ _ from λU b t row w h ha=>Qby_ { R with U:=U } hi N F hF hd hN (ec_u U HE) b (σ t) row w h);have av:Ψ (∀b st,Adv 1 1 st (V6_ R.sg (Qd_ R.sg N F) N b st).2):=(show ∀b st,_ from λb st=>z9_ (λm d st=>QB_ F m d st) b st);unfold QA_ at V |-
 unfold Vd_;dsimp only;generalize V6_ R.sg (Qd_ R.sg N F) N=one at HO av |-
 generalize nmT R.sg (Qf_ (σ s))=nt at V |-
 have O:=((Qh_ (σ s)).trans (Jy_ (sg:=R.sg) (Qf_ (σ s)))).trans (Qq_ (sg:=R.sg) (nmS R.sg (Qf_ (σ s))) ⟨#[123]⟩);generalize nmS R.sg (Qf_ (σ s))=ab at V O |-
 obtain⟨Q,hQ⟩:=ex_ (Zv_ R.sg one N [] (Qn_ R.sg ab ⟨#[123]⟩));rw[hQ];have HQ:=h_ hQ;have G:Ψ (Adv 1 0 (σ s) (Qn_ R.sg ab ⟨#[123]⟩)):=O.weak oo oo;have a3:=fld3;go_in;go_wp2_with fail;refine pst (Zo_ R hi 0 (σ s) row w ay.o HL.o) aA ?_;intro w1 a1 az aB;go_wp2_with fail;refine pst (V.o _ _ az.o) aB ?_;intro w2 row2 j o;go_wp2_with fail;refine pst (ZQ_ R hi 0 ab row2 ⟨#[123]⟩ w2 j.o) o ?_;intro w3 aL k y;generalize Qn_ R.sg ab ⟨#[123]⟩=st2 at HQ G k;go_upto_region 5 with fail
 go_loopw [6] (λv wr=>∃(M:Nat) (ks:LI) (st':RdSt) (row':ON) (A:OA) (c:Nat),v=S_ A (η ks) c/\Ψ (Zv_ R.sg one M ks st'=Q)/\Ψ (Adv 1 0 (σ s) st')/\Ψ (Enough R.n M st')/\Ψ (KidB ks st')/\Ψ (Mine wr w.heap.size 3 1 A (η ks) c (Qa_ ks))/\Ψ (RdI (R.res A) 0 st' row' wr)/\Ψ (Kr R.T row w row' wr)) (λ_ wr=>Z1_ R wr)
 ·exact⟨N,[],st2,aL,ν,0,rfl,HQ,G,(show Enough _ _ _ from QP_ hN _),⟨by simp,λs _=>by simp⟩,Mine.mk_nil _ _ _ _,k.o.res_new br (λg hg=>by cases hg),y⟩
 obtain⟨M,ks,st',row',A,c,rfl,HQ,af,ai,aC,E,I,HK⟩:=hrel;have C:=h_ (λ(row:ON) (W:Ω) (hI:RdI R 0 st' row W) (hm:Mine W w.heap.size 3 1 A (η ks) c (Qa_ ks))=>KK_ R hi 0 st' row ⟨#[125]⟩ 21 nt A (η ks) c ks bl w.heap.size W hI hm aQ.o);unfold QA_ at C
 cases st' with
 |none=>
  obtain⟨a,b,AN,cN,l,hc,hb,S⟩:=I.o;obtain⟨c2,c3,c4,cf,cz⟩:=hc.cu _ hi;obtain rfl:b=τ:=hb;have p:=HQ.o;rw[Xx_]at p;subst p;go_wp2_with fail;refine mb_ (C.o _ _ I.o.unres E.o) ?_;rintro w4 ⟨n,Z,T⟩;go_wp2;go_ret;exact⟨rfl,n,Z,HK.o.trans T⟩
 |some t=>
  obtain⟨M,rfl⟩:∃M',M=M'+1:=⟨M-1,by
   have h1:=ai.o t rfl;have h2:=(I.o.le rfl).1;have:(R.res A).n=R.n:=rfl;omega⟩
  obtain⟨a,b,AN,cN,l,hc,hb,S⟩:=I.o;obtain⟨c2,c3,c4,cf,cz⟩:=hc.cu _ hi;obtain⟨rfl,_,_⟩:=hb;have z:=h_<|is_u _ hi 0 (σ t) row' ⟨#[125]⟩ wr I.o;have p:=HQ.o;unfold Zv_ at p;rw[in_ (show ¬(σ t).isNone=τ by simp)]at p;rcases bft (isM R.sg (σ t) ⟨#[125]⟩)with hM|hM
  ·rw[ip_ hM]at p;subst p;rw[hM]at z;go_wp2_with fail;refine mb_ z.o ?_;intro w2 D;have j:=h_<|I.o.next D;have B:=h_<|E.o.next D;have o:=h_<|HK.o.below D;go_wp2_with fail
   refine mb_ (C.o _ _ j.o.unres B.o) ?_;rintro w4 ⟨n,Z,T⟩;go_wp2;go_ret;exact⟨rfl,n,Z,o.o.trans T⟩
  rw[in_ (by rw[hM];decide)]at p;rw[hM]at z;have HX:=h_ (λ(row:ON) (W:Ω) h=>QdK_ (R:=R) (λx=>R.U x\/A.map (·.block)=σ x) hi 0 (σ t) row W h);have aa:XI_ R.sg (σ t) ks=((Qx_ R.sg (σ t) 0).2.2.2&&decide (0<η ks)):=rfl;rw[aa]at p;generalize Qx_ R.sg (σ t) 0=x at HX p aa;obtain⟨xk,xt,xp,xz⟩:=x;dsimp only at HX p aa;have a0:=aC.o.2 t rfl;have a5:=(I.o.le rfl).2;have a4:=aC.o.1;have X:Ψ (∀bb:Bool,(xz&&decide (0<η ks))=bb->∃r:PR,Zv_ R.sg one M (ks++[r.1]) r.2=Q/\Adv 1 1 (σ t) r.2/\∀(row:ON) (W:Ω),RdI { R with U:=λx=>R.U x\/A.map (·.block)=σ x } 0 (σ t) row W->Δ π 118 #[P_ (σ ⟨R.T,0,ν⟩),B_ bb,B_ φ] W (λe w'=>e=R_ (I_ j_ r.1)/\∃row',RdI { R with U:=λx=>R.U x\/A.map (·.block)=σ x } 0 r.2 row' w'/\Kr R.T row W row' w')):=(show ∀bb,_->_ from λbb e=>⟨one bb (σ t),by rw[<-e];exact p,av.o bb (σ t),λrow W h=>HO.o _ bb t row W h af.o⟩)
  cases xz with
  |false=>
   obtain⟨r,p,f,hC⟩:=X.o φ rfl;obtain⟨kc,q⟩:=r;dsimp only at p f hC;have am:=h_ p;have HC:=h_ hC;have H:=h_ f;have ag:Ψ (KidB (ks++[kc]) q):=(show KidB _ _ from⟨by rw[lA];simp;omega,λt2 e=>by
    obtain⟨aX,e2,_,h3⟩:=f t2 e;obtain rfl:=oi_ e2;rw[lA];simp;omega⟩)
   have ah:Ψ (Enough R.n M q):=ai.o.adv (i:=0) f;have ae:Ψ (Adv 1 0 (σ s) q):=(af.o.trans f).weak oo oo;have P:(ks++[kc]).length=η ks+1:=sm_;go_wp2_with fail;refine mb_ z.o ?_;intro w2 D;have j:=h_<|I.o.next D;have B:=h_<|E.o.next D;have o:=h_<|HK.o.below D;go_wp2_with fail
   refine mb_ (HX.o _ _ j.o) ?_;intro w3 Y;have k:=h_<|j.o.next Y;have K:=h_<|B.o.next Y;have y:=h_<|o.o.below Y;go_wp2_with fail
   refine mb_ (HC.o _ _ k.o) ?_;rintro w4 ⟨n,Z,T⟩;have E:=h_<|k.o.keepI T K.o;have aj:=h_ Z;have ak:=h_<|y.o.trans T;go_wp2_with (at_builtin;refine KA_ (.tmp 34) (.tmp 36) aj ak E ax rfl rfl rfl rfl oo ?_;intro A5 c5 w5 J al L)
   replace E:=L;go_wp2;go_roundw
   ·exact⟨M,ks++[kc],q,n,A5,c5,by rw[P],am,ae,ah,ag,by rw[P];exact E,J,al⟩
   exact G2_ hi I.o J.o<|H.o.weak (i':=1) (j':=0) oo oo
  |true=>
   obtain⟨r,p,f,hC⟩:=X.o _ rfl;obtain⟨kc,q⟩:=r;dsimp only at p f hC;rw[τb]at hC;have am:=h_ p;have HC:=h_ hC;have H:=h_ f;have ag:Ψ (KidB (ks++[kc]) q):=(show KidB _ _ from⟨by rw[lA];simp;omega,λt2 e=>by
    obtain⟨aX,e2,_,h3⟩:=f t2 e;obtain rfl:=oi_ e2;rw[lA];simp;omega⟩)
   have ah:Ψ (Enough R.n M q):=ai.o.adv (i:=0) f;have ae:Ψ (Adv 1 0 (σ s) q):=(af.o.trans f).weak oo oo;have P:(ks++[kc]).length=η ks+1:=sm_;go_wp2_with fail;refine mb_ z.o ?_;intro w2 D;have j:=h_<|I.o.next D;have B:=h_<|E.o.next D;have o:=h_<|HK.o.below D;go_wp2_with fail
   refine mb_ (HX.o _ _ j.o) ?_;intro w3 Y;have k:=h_<|j.o.next Y;have K:=h_<|B.o.next Y;have y:=h_<|o.o.below Y;go_wp2_with fail
   refine mb_ (HC.o _ _ k.o) ?_;rintro w4 ⟨n,Z,T⟩;have E:=h_<|k.o.keepI T K.o;have aj:=h_ Z;have ak:=h_<|y.o.trans T;go_wp2_with (at_builtin;refine KA_ (.tmp 34) (.tmp 36) aj ak E ax rfl rfl rfl rfl oo ?_;intro A5 c5 w5 J al L)
   replace E:=L;go_wp2;go_roundw
   ·exact⟨M,ks++[kc],q,n,A5,c5,by rw[P],am,ae,ah,ag,by rw[P];exact E,J,al⟩
   exact G2_ hi I.o J.o<|H.o.weak (i':=1) (j':=0) oo oo
def xi_ (hi:a.imp=τ) (N F:Nat) (hF:14*(a.n+2)<=F) (hd:F<=100000) (hN:a.n<N) (HE:EC a N F) (b:Bool) (st:RdSt) (row:ON) (w:Ω) (l:RdI a 0 st row w) (A:(Qx_ a.sg st 0).1≠5) (C:isW a.sg st ⟨#[118,97,114]⟩=φ) (g:isW a.sg st ⟨#[99,108,97,115,115]⟩=τ):
  Δ π 118 #[P_ (σ ⟨a.T,0,ν⟩),B_ b,B_ τ] w (QA_ a 0 row w (I_ j_ (Vd_ a.sg (Qd_ a.sg N F) N b (Qf_ st)).1) (Vd_ a.sg (Qd_ a.sg N F) N b (Qf_ st)).2):=by
 obtain⟨s,es,f⟩:=U9_ g;subst es;have B:s.at_<a.n:=by rw[<-l.ok.len];exact f
 have j:=h_ (λ(row:ON) (W:Ω) h=>QaO_ a hi N F hF hd hN HE b s row W h B);unfold QA_ at j |-
 generalize Vd_ a.sg (Qd_ a.sg N F) N b (Qf_ (σ s))=r at j |-
 obtain⟨k,st2⟩:=r;dsimp only at j |-
 have m:=h_ l;have p:=h_<|Kr.refl a.T row w;have z:=h_<|Kl_ a hi 0 (σ s) row w l;have E:=q9_;have d:=h_ (λ(W:Ω) h=>Qs_ a hi 0 (σ s) row ⟨#[118,97,114]⟩ W h);rw[C]at d;have e:=h_ (λ(W:Ω) h=>Qs_ a hi 0 (σ s) row ⟨#[99,108,97,115,115]⟩ W h);rw[g]at e;generalize Qx_ a.sg (σ s) 0=x at z A;obtain⟨kd,xt,xp,xz⟩:=x;dsimp only at z A;have D:(kd==5)=φ:=by rw[bn_];exact A
 go_in;go_wp2_with fail;refine rst (z.o) m p ?_;intro w1 R q;go_wp2_with fail;refine rst (d.o _ R.o) R q ?_;intro w2 c t;go_wp2_with fail;refine rst (e.o _ c.o) c t ?_;intro w3 n v;go_wp2_with fail;refine pst (j.o _ _ n.o) v ?_;intro w4 i o y;go_wp2;go_ret;exact⟨rfl,i,o.o,y.o⟩
def Qbz_ (hi:a.imp=τ) (N F:Nat) (e:14*(a.n+2)<=F) (hd:F<=100000) (g:a.n<N) (d:EC a N F) (b:Bool) (st:RdSt) (row:ON) (w:Ω) (f:RdI a 0 st row w):
  Δ π 118 #[P_ (σ ⟨a.T,0,ν⟩),B_ b,B_ τ] w (QA_ a 0 row w (I_ j_ (Y9_ a.sg (Qd_ a.sg N F) N b st).1) (Y9_ a.sg (Qd_ a.sg N F) N b st).2):=by
 by_cases R:(Qx_ a.sg st 0).1=5
 ·rw[show Y9_ a.sg (Qd_ a.sg N F) N b st=Xm_ a.sg b st from ip_ R];exact Wk_ a hi N F e hd g d b τ st row w f R
 rcases bft (isW a.sg st ⟨#[118,97,114]⟩)with c|c
 ·rw[show Y9_ a.sg (Qd_ a.sg N F) N b st=Jx_ a.sg (Qd_ a.sg N F) 0 b (Qf_ st)by unfold Y9_;rw[in_ R,ip_ c]];exact zG_ a hi N F e hd g d b τ st row w f R c
 rcases bft (isW a.sg st ⟨#[99,108,97,115,115]⟩)with h1|h1
 ·rw[show Y9_ a.sg (Qd_ a.sg N F) N b st=Vd_ a.sg (Qd_ a.sg N F) N b (Qf_ st)by unfold Y9_;rw[in_ R,in_ (by rw[c];decide),ip_ h1]];exact xi_ a hi N F e hd g d b st row w f R c h1
 rw[show Y9_ a.sg (Qd_ a.sg N F) N b st=VU_ a.sg (Qd_ a.sg N F) N b st by unfold Y9_;rw[in_ R,in_ (by rw[c];decide),in_ (by rw[h1];decide)]];exact qF_ a hi N F e hd g d b τ st row w f R c h1 rfl
def Qhc_:(prog.info? 160).map (λi=>(i.zero,i.size,i.bytes))=σ (σ (A_ #[I_ j_ 0,I_ j_ 0]),2,16):=by kernel_rfl
def QeJ_ (a b:Int):∀u∈[I_ j_ a,I_ j_ b],u.oneCell'=τ:=by
 intro u hu;simp at hu;rcases hu with rfl|rfl<;>rfl
def RC.ty_two:a.ty≠160:=by unfold RC.ty;cases a.imp<;>decide
abbrev RC.mem (R:RC) (v:Υ):RC:={ R with M:=v }
section
variable {R:RC} {a d:Nat} {b:Bool} {AN:OA} {cN:Nat} {l:List Nd} {st:RdSt} {row:ON} {w w1 w3:Ω}
def RdI.members (hi:R.imp=τ) (h:RdI R d st row w) {B:Nat} {e:TypeId} {S n c n':Nat} {A:OA} {xs ys:List Υ} {v':Υ} (C:e≠R.ty) (J:e≠96) (K:e≠3) (hm:Mine w B e S A n c xs) (hB:R.w0.heap.size<=B) (G:Λ w w1)
  (F:w3.ownsRow B e S v' n' ys) (s:w1.grownBy w3 (S_ A n c).ownBlock):
  ∃A' c',v'=S_ A' n' c'/\RdI (R.mem v') d st row (w3.setCell ⟨R.T,6,ν⟩ v')/\Mine (w3.setCell ⟨R.T,6,ν⟩ v') B e S A' n' c' ys/\(∃v6,w3.cell? ⟨R.T,6,ν⟩=σ v6)/\(∀i,w3.frozen? ⟨R.T,i,ν⟩=φ)/\R.T<w3.heap.size/\∃cs,Blk w3 R.T R.ty cs:=by
 obtain⟨A',c',rfl,m3⟩:=Mine.of F;rw[Q3_]at s;obtain⟨a,b,AN,cN,l,hc,h2⟩:=h;have O:=hm.next G;obtain⟨c1,c2,c3,c4,c5,c6,y⟩:=hc.next G;have r:∀g t cs,Blk w1 g t cs->t≠e->σ g≠A.map (·.block):=λg t cs hk ht e=>by
  obtain⟨T,N⟩:=Qw_ O e.symm;exact Kj_ hk N ht rfl
 have f:=c1.grown s (r _ _ _ c1 (Ne.symm C));have m:∀v,(R.cells a d b (S_ AN (η l) cN)).setIfInBounds 6 v=(R.mem v).cells a d b (S_ AN (η l) cN):=λv=>by
  unfold RC.cells;rw[ip_ hi,ip_ (show(R.mem v).imp=τ from hi)];simp
 have D:∀x∈l,KidsIn w3 R.w0.heap.size R.U x:=λx H=>by
  refine⟨(c3.1 x H).1,?_⟩;have hy:=(c3.1 x H);have k:=hy.2.len;rcases hy.2.own with⟨o,z,I⟩|⟨g',o,p,P,q,rest,j,hs⟩
  ·rw[o,z,I];exact⟨by rw[k,z],.inl ⟨rfl,rfl⟩⟩
  rw[o];exact Mine.mk_own ⟨rest,j.grown s (r _ _ _ j (Ne.symm K)),hs⟩ k p P q
 have Q:Mine w3 R.w0.heap.size 96 4 AN (η l) cN (l.flatMap Qv_):=by
  have k:=c2.len;rcases c2.own with⟨o,z,I⟩|⟨g',o,p,P,q,rest,j,hs⟩
  ·rw[o,z,I];exact⟨by rw[k,z],.inl ⟨rfl,rfl⟩⟩
  rw[o];exact Mine.mk_own ⟨rest,j.grown s (r _ _ _ j (Ne.symm J)),hs⟩ k p P q
 have E:Below R.w0.heap.size R.w0 w3:=c6.grown s c6.size (λg L=>lt_ hB (Mine.blk hm L).1);refine⟨A',c',rfl,⟨a,b,AN,cN,l,⟨?_,Qt_ Q f (Ne.symm R.ty_node) _ _,⟨λx H=>⟨(D x H).1,Qt_ (D x H).2 f (Ne.symm R.ty_int) _ _⟩,λg M=>?_⟩,c4,c5,E.setCell y.low _,⟨y.len,y.most,y.rd,y.low⟩⟩,h2⟩,Qt_ m3 f C _ _,?_,f.frozen,f.lt,_,f⟩
 ·have:=f.set_ 6 (S_ A' n' c');rw[m]at this;exact this
 ·have:=c3.2 g M;have:=s.size;simp only[World.setCell,Array.size_modify];omega
 have:=f;unfold RC.cells at this;rw[ip_ hi]at this;exact⟨_,this.cell 6⟩
def RdC.c6 (hi:R.imp=τ) (h:RdC R a d b AN cN l w):w.cell? ⟨R.T,6,ν⟩=σ R.M:=by
 have c:=h.1;unfold RC.cells at c;rw[ip_ hi]at c;exact c.cell 6
end
def Qgo_ {R:RC} {V V':Υ} {U U':Nat->Prop} {s:PS}   (hi:R.imp=τ) (h:RdI { R with M:=V,U:=U } d (σ s) u w)  (h':RdI { R with M:=V',U:=U' } f y v z)  (k:Adv (i+1) j (σ s) y):Z1_ R z<Z1_ R w:=by
 have e1:=Yr_ (R:={ R with M:=V,U:=U }) hi h;have e3:∀W,Z1_ { R with M:=V',U:=U' } W=Z1_ R W:=λ_=>rfl
 have e0:∀W,Z1_ { R with M:=V,U:=U } W=Z1_ R W:=λ_=>rfl
 have hn:({ R with M:=V,U:=U }:RC).n=R.n:=rfl;rw[e0]at e1
 cases y with
 |none=>have:=Wj_ (R:={ R with M:=V',U:=U' }) hi h';rw[e3]at this;omega
 |some t=>
  have e4:=Yr_ (R:={ R with M:=V',U:=U' }) hi h';obtain⟨s',e5,h1,_⟩:=k t rfl;obtain rfl:=oi_ e5;have e6:({ R with M:=V',U:=U' }:RC).n=R.n:=rfl;rw[e3]at e4;omega
def JU_ {w w1 w3:Ω} {B B':Nat} {e e':TypeId} {sz h n c n' c':Nat} {A A':OA} {xs xs':List Υ} (hm:Mine w B e sz A n c xs) (hk:Mine w B' e' h A' n' c' xs') (he:e≠e') (b:Λ w w1) (hg:w1.grownBy w3 (S_ A' n' c').ownBlock):Mine w3 B e sz A n c xs:=by
 rw[Q3_]at hg;have f:=hk.next b;have a:=hm.next b;have hl:=a.len;rcases a.own with⟨rfl,rfl,rfl⟩|⟨g,rfl,hB,hn,hc,rest,hb,hs⟩
 ·exact⟨hl,.inl ⟨rfl,rfl⟩⟩
 refine Mine.mk_own ⟨rest,hb.grown hg (λe2=>?_),hs⟩ hl hB hn hc;obtain⟨i,d⟩:=Qw_ f e2.symm;exact Kj_ hb d he rfl
def Kr.setT (h:Kr d u w v z) (i:Nat) (T:Υ):Kr d u w v (z.setCell ⟨d,i,ν⟩ T):=
 ⟨lt_ h.1 (by simp[World.setCell]),h.2.1,λg hg ht hr=>(Below.heap_setCell z ⟨d,i,ν⟩ T g ht).trans (h.2.2 g hg ht hr)⟩
def QfR_ (h:jN_ s y=τ):∃sg,y=σ sg/\sg.at_<η s:=by
 cases y with
 |none=>cases h
 |some sg=>exact⟨sg,rfl,od_ h⟩
def QcN_ (R:RC) (hi:R.imp=τ) (N F:Nat) (hF:14*(R.n+2)<=F) (hd:F<=100000) (hN:R.n<N) (HE:EC R N F) (st:RdSt) (row:ON) (w:Ω) (K:RdI R 0 st row w) (bH:R.M=S_ ν 0 0):
  Δ π 102 #[P_ (σ ⟨R.T,0,ν⟩)] w λe w'=>e=R_ (U_ #[])/\∃(v:Υ) (row':ON),RdI (R.mem v) 0 (ji_ R.sg (Qd_ R.sg N F) N st) row' w'/\Kr R.T row w row' w':=by
 obtain⟨i0,X⟩:=iq_ QY_;obtain⟨i2,C⟩:=iq_ Qhc_;have a9:Ψ (RdI (R.mem (S_ ν 0 0)) 0 st row w):=(show RdI (R.mem (S_ ν 0 0)) 0 st row w from by rw[RC.mem,<-bH];exact K);have bq:=h_ K.lo;have aG:=h_ K.lo.1;have bK:=K.ok.most;have bT:=K.ok.len;have HO:Ψ (∀(V:Υ) (U:Nat->Prop) (b:Bool) (t:PS) (row:ON) (w:Ω),RdI { R with M:=V,U:=U } 0 (σ t) row w->Δ π 118 #[P_ (σ ⟨R.T,0,ν⟩),B_ b,B_ τ] w (QA_ { R with M:=V,U:=U } 0 row w (I_ j_ (Y9_ R.sg (Qd_ R.sg N F) N b (σ t)).1) (Y9_ R.sg (Qd_ R.sg N F) N b (σ t)).2)):=
  (show ∀V U b t row w,_->_ from λV U b t row w h=>Qbz_ { R with M:=V,U:=U } hi N F hF hd hN ⟨λU' d st row w K=>(GQ_ { R with M:=V,U:=U } hi N hN F).value U' d st row w K,λU' d st row w K=>(GQ_ { R with M:=V,U:=U } hi N hN F).pick U' d st row w K,λU' l d st row w K=>(GQ_ { R with M:=V,U:=U } hi N hN F).chain U' l d st row w K,λU' d st row w K=>(GQ_ { R with M:=V,U:=U } hi N hN F).end_ U' d st row w K,λU' d st row w K=>(GQ_ { R with M:=V,U:=U } hi N hN F).base U' d st row w K,λU' b d st row w K=>(GQ_ { R with M:=V,U:=U } hi N hN F).stmt U' b d st row w K,λU' d st row w K=>(GQ_ { R with M:=V,U:=U } hi N hN F).block U' d st row w K⟩ b (σ t) row w h)
 have a8:Ψ (∀b st,Adv 1 1 st (Y9_ R.sg (Qd_ R.sg N F) N b st).2):=(show ∀b st,_ from λb st=>x2_ (λm d st=>QB_ F m d st) b st);unfold ji_;obtain⟨Q,hQ⟩:=ex_ (XL_ R.sg (Qd_ R.sg N F) N N [] st);rw[hQ];have HQ:=h_ hQ;generalize Qd_ R.sg N F=E at HO a8 HQ;have bV:=fld3;go_in;go_wp2;go_loopw [2] (λv wr=>∃(M:Nat) (ks:LI) (st':RdSt) (row':ON) (A:OA) (c:Nat) (z:OA) (B:Nat) (xm:List Υ),v=S_ A (η ks) c/\Ψ (XL_ R.sg E N M ks st'=Q)/\Ψ (Enough R.n M st')/\Ψ (KidB ks st')/\Ψ (Mine wr w.heap.size 3 1 A (η ks) c (Qa_ ks))/\Ψ (Mine wr w.heap.size 160 2 z (η ks) B xm)/\Ψ (RdI ((R.mem (S_ z (η ks) B)).res A) 0 st' row' wr)/\Ψ (Kr R.T row w row' wr)) (λ_ wr=>Z1_ R wr)
 ·exact⟨N,[],st,row,ν,0,ν,0,[],rfl,HQ,(show Enough _ _ _ from QP_ hN _),⟨by simp,λs _=>by simp⟩,Mine.mk_nil _ _ _ _,Mine.mk_nil _ _ _ _,a9.o.res_new br (λg hg=>by cases hg),Kr.refl _ _ _⟩
 obtain⟨M,ks,st',row',A,c,z,B,xm,rfl,HQ,aT,ba,O,Y,HI,HK⟩:=hrel;obtain⟨a,b,AN,cN,l,hc,hb,bi⟩:=HI.o;obtain⟨c0,c2,c3,c4,c5,cf,cz⟩:=RdC.ci (R:=(R.mem (S_ z (η ks) B)).res A) hi hc;change wr.cell? ⟨R.T,0,ν⟩=σ (S_ R.A R.n R.c)at c0;change wr.cell? ⟨R.T,2,ν⟩=_ at c2;change wr.cell? ⟨R.T,4,ν⟩=_ at c4;change R.T<_ at cz;rcases bft (jN_ R.sg st')with hR|hR
 ·obtain⟨t,es,bJ⟩:=QfR_ hR;subst es;have bL:t.at_=a:=hb.2.1;obtain rfl:b=φ:=hb.1;obtain⟨M,rfl⟩:∃M',M=M'+1:=⟨M-1,by
   have h1:=aT.o t rfl;omega⟩
  have L:=HQ.o;unfold XL_ at L;rw[ip_ hR]at L;have bU:(a:Int)<(R.n:Int):=oo;have HX:=h_ (λ(row:ON) (W:Ω) h=>QdK_ (R:=R.mem (S_ z (η ks) B)) (λx=>R.U x\/A.map (·.block)=σ x) hi 0 (σ t) row W h);have aM:XI_ R.sg (σ t) ks=((Qx_ R.sg (σ t) 0).2.2.2&&decide (0<η ks)):=rfl;rw[aM]at L;change Ψ (∀(row:ON) (W:Ω),_->Δ π 119 #[P_ (σ ⟨R.T,0,ν⟩)] W λe w'=>e=R_ (A_ #[I_ j_ (Qx_ R.sg (σ t) 0).1,T_ (Qx_ R.sg (σ t) 0).2.1,I_ j_ (Qx_ R.sg (σ t) 0).2.2.1,B_ (Qx_ R.sg (σ t) 0).2.2.2])/\Λ W w')at HX;generalize Qx_ R.sg (σ t) 0=x at HX L aM;obtain⟨xk,xt,xp,xz⟩:=x;dsimp only at HX L aM;have bS:=ba.o.2 t rfl;have aN:=(HI.o.le rfl).2;have bY:=ba.o.1;have aJ:Ψ (∀bb:Bool,(xz&&decide (0<η ks))=bb->∃r:PR,XL_ R.sg E N M (ks++[r.1]) r.2=Q/\Adv 1 1 (σ t) r.2/\∀(row:ON) (W:Ω),RdI { R with M:=S_ z (η ks) B,U:=λx=>R.U x\/A.map (·.block)=σ x } 0 (σ t) row W->Δ π 118 #[P_ (σ ⟨R.T,0,ν⟩),B_ bb,B_ τ] W (λe w'=>e=R_ (I_ j_ r.1)/\∃row',RdI { R with M:=S_ z (η ks) B,U:=λx=>R.U x\/A.map (·.block)=σ x } 0 r.2 row' w'/\Kr R.T row W row' w')):=(show ∀bb,_->_ from λbb e=>⟨Y9_ R.sg E N bb (σ t),by rw[<-e];exact L,a8.o bb (σ t),λrow W h=>HO.o _ _ bb t row W h⟩)
  cases xz with
  |false=>
    obtain⟨r,L,j,hC⟩:=aJ.o φ rfl;obtain⟨kc,J⟩:=r;dsimp only at L j hC;have aY:=h_ L;have HC:=h_ hC;have am:=h_ j;have aQ:Ψ (KidB (ks++[kc]) J):=(show KidB _ _ from⟨by rw[lA];simp;omega,λt2 e=>by
     obtain⟨bQ,e2,_,h3⟩:=j t2 e;obtain rfl:=oi_ e2;rw[lA];simp;omega⟩)
    have aR:Ψ (Enough R.n M J):=aT.o.adv (i:=0) j;have T:(ks++[kc]).length=η ks+1:=sm_;go_wp2;go_quiet (fail);have ac:=h_<|HI.o.next<|below_drewN br nq;have av:=h_<|O.o.drewN nq;have Z:=h_<|Y.o.drewN nq;have aq:=h_<|HK.o.below<|below_drewN br nq;go_wp2_with fail
    refine mb_ (HX.o _ _ ac.o) ?_;intro w3 g3;have P:=h_<|ac.o.next g3;have ax:=h_<|av.o.next g3;have aa:=h_<|Z.o.next g3;have ar:=h_<|aq.o.below g3;go_wp2_with fail
    refine mb_ (HC.o _ _ P.o) ?_;rintro w4 ⟨n,h4,k4⟩;have O:=h_<|P.o.keepI k4 ax.o;have Y:=h_<|P.o.keepM k4 aa.o (Ne.symm (RC.ty_two R)) dc_;have ao:Ψ (RdI ((R.mem (S_ z (η ks) B)).res A) 0 J n w4):=h4;have ae:=h_<|ar.o.trans k4;have bM:=ae.o.size;go_wp2_with (at_builtin;(refine Qi_ _ rfl (.tmp 36) (.tmp 38) _ rfl w.heap.size 3 i0 (I_ j_ 0) 1 8 underlying83 X.o.1 X.o.2.1 X.o.2.2.1 X.o.2.2.2 rfl dc_ (S_ A (η ks) c) (η ks) (Qa_ ks) rfl (Mine.alloc O.o _) ⟨w4.heap.size,0,ν⟩ 1 1 [I_ j_ kc] rfl rfl (K8_ _ kc _) (K9_ _) mx_ oo so_ ?_);intro v' y H S ab;obtain⟨A5,a1,rfl,h5,m5⟩:=RdI.appended ao.o O.o aG.o bra H S ab)
    have af:=h_<|(ae.o.below bra).grown S (λg hg=>by rw[Q3_]at hg;exact(Mine.blk O.o hg).1);have k:=h_<|JU_ Y.o O.o dc_ bra S;rw[<-Ke_]at m5;have ad:Ψ (RdI ((R.mem (S_ z (η ks) B)).res A5) 0 J n y):=h5;replace O:=h_ m5;obtain⟨a5,b5,bo,bx,l5,ah,aB,ai⟩:=id ad.o;obtain⟨d0,d2,d3,d4,d5,df,dz⟩:=RdC.ci (R:=(R.mem (S_ z (η ks) B)).res A5) hi ah;have d6:y.cell? ⟨R.T,6,ν⟩=σ (S_ z (η ks) B):=RdC.c6 (R:=(R.mem (S_ z (η ks) B)).res A5) hi ah;change y.cell? ⟨R.T,2,ν⟩=_ at d2;change ∀i,y.frozen? ⟨R.T,i,ν⟩=φ at df;change R.T<_ at dz;have e2:∀o,(y.alloc o).cell? ⟨R.T,2,ν⟩=σ (I_ j_ a5):=λo=>by rw[(QW_ (br.alloc (lr_ _) o)).1 _ _ dz];exact d2
    have e6:∀o,(y.alloc o).cell? ⟨R.T,6,ν⟩=σ (S_ z (η ks) B):=λo=>by rw[(QW_ (br.alloc (lr_ _) o)).1 _ _ dz];exact d6
    have aN:(y.alloc (C_ #[I_ j_ a,I_ j_ a5] 160)).heap[y.heap.size]? =σ (C_ #[I_ j_ a,I_ j_ a5] 160 (0,0)):=heap_alloc_new y _;have aS:=h_ (show w.heap.size<=y.heap.size from af.o.size);have HP:=h_ (λ(n':Nat) (ys:List Υ) (v':Υ) (w3:Ω) h1 h2=>RdI.members (R:=(R.mem (S_ z (η ks) B)).res A5) hi ad.o (RC.ty_two R).symm dc_ dc_ k.o aG.o (w1:=y.alloc (C_ #[I_ j_ a,I_ j_ a5] 160)) (w3:=w3) (n':=n') (ys:=ys) (v':=v') bra h1 h2);go_upto_region 5 with fail
    go_region_law
     (refine step_append_lies _ rfl (.tmp 44) (.tmp 51) 115 rfl w.heap.size 160 i2 (A_ #[I_ j_ 0,I_ j_ 0]) 2 16 underlying115 C.o.1 C.o.2.1 C.o.2.2.1 C.o.2.2.2 rfl dc_ (S_ z (η ks) B) (η ks) xm ev_ (by first|exact(k.o.alloc _).drew|exact k.o.alloc _) ⟨y.heap.size,0,ν⟩ 1 1 [I_ j_ a,I_ j_ a5] ev_ (by rfl) (World.news_of_block (cs:=#[I_ j_ a,I_ j_ a5]) (t:=160) (fr:=(0,0)) aN) (QeJ_ _ _) dc_ mx_ oo (by have:=aS.o;simp;omega) (y.heap.size+1) sm_ ?_
      intro q cap w6 I p a3 bh;have f:(y.alloc (C_ #[I_ j_ a,I_ j_ a5] 160)).grownBy w6 (S_ z (η ks) B).ownBlock:=(by first|exact p|exact Q9_ p);obtain⟨A6,bv,ev,D,G,⟨v6,j6⟩,jf,jz,bz,jb⟩:=HP.o _ _ _ _ I f;have HW:=h_ (ai_ ev (ai_ D (ai_ G ((af.o.below bra).grown f (λg hg=>by rw[Q3_]at hg;exact(Mine.blk k.o hg).1)))));have aX:=h_ (λu=>Qt_ (JU_ O.o k.o dc_ bra f) jb (Ne.symm R.ty_int) 6 u);change w6.cell? ⟨R.T,6,ν⟩=_ at j6;change ∀i,w6.frozen? ⟨R.T,i,ν⟩=φ at jf;change R.T<_ at jz)
    all_goals
     obtain⟨ev,D,G,az⟩:=HW.o;injection ev with ev1 ev2 ev3;subst ev1;subst ev3;have ap:=h_ D;have aV:=h_ G;have aU:=h_<|az.setT 6<|S_ (σ ⟨q,0,ν⟩) (η ks+1) cap;go_wp2;go_roundw
     ·exact⟨M,ks++[kc],J,n,A5,a1,σ ⟨q,0,ν⟩,cap,_,by rw[T],aY,aR,aQ,by rw[T];exact aX.o _,by rw[T];exact aV,by rw[T];exact ap,aU⟩
     exact Qgo_ hi HI.o ap.o<|am.o.weak (i':=1) (j':=0) oo oo
  |true=>
    obtain⟨r,L,j,hC⟩:=aJ.o _ rfl;obtain⟨kc,J⟩:=r;dsimp only at L j hC;rw[τb]at hC;have aY:=h_ L;have HC:=h_ hC;have am:=h_ j;have aQ:Ψ (KidB (ks++[kc]) J):=(show KidB _ _ from⟨by rw[lA];simp;omega,λt2 e=>by
     obtain⟨bQ,e2,_,h3⟩:=j t2 e;obtain rfl:=oi_ e2;rw[lA];simp;omega⟩)
    have aR:Ψ (Enough R.n M J):=aT.o.adv (i:=0) j;have T:(ks++[kc]).length=η ks+1:=sm_;go_wp2;go_quiet (fail);have ac:=h_<|HI.o.next<|below_drewN br nq;have av:=h_<|O.o.drewN nq;have Z:=h_<|Y.o.drewN nq;have aq:=h_<|HK.o.below<|below_drewN br nq;go_wp2_with fail
    refine mb_ (HX.o _ _ ac.o) ?_;intro w3 g3;have P:=h_<|ac.o.next g3;have ax:=h_<|av.o.next g3;have aa:=h_<|Z.o.next g3;have ar:=h_<|aq.o.below g3;go_wp2_with fail
    refine mb_ (HC.o _ _ P.o) ?_;rintro w4 ⟨n,h4,k4⟩;have O:=h_<|P.o.keepI k4 ax.o;have Y:=h_<|P.o.keepM k4 aa.o (Ne.symm (RC.ty_two R)) dc_;have ao:Ψ (RdI ((R.mem (S_ z (η ks) B)).res A) 0 J n w4):=h4;have ae:=h_<|ar.o.trans k4;have bM:=ae.o.size;go_wp2_with (at_builtin;(refine Qi_ _ rfl (.tmp 36) (.tmp 38) _ rfl w.heap.size 3 i0 (I_ j_ 0) 1 8 underlying83 X.o.1 X.o.2.1 X.o.2.2.1 X.o.2.2.2 rfl dc_ (S_ A (η ks) c) (η ks) (Qa_ ks) rfl (Mine.alloc O.o _) ⟨w4.heap.size,0,ν⟩ 1 1 [I_ j_ kc] rfl rfl (K8_ _ kc _) (K9_ _) mx_ oo so_ ?_);intro v' y H S ab;obtain⟨A5,a1,rfl,h5,m5⟩:=RdI.appended ao.o O.o aG.o bra H S ab)
    have af:=h_<|(ae.o.below bra).grown S (λg hg=>by rw[Q3_]at hg;exact(Mine.blk O.o hg).1);have k:=h_<|JU_ Y.o O.o dc_ bra S;rw[<-Ke_]at m5;have ad:Ψ (RdI ((R.mem (S_ z (η ks) B)).res A5) 0 J n y):=h5;replace O:=h_ m5;obtain⟨a5,b5,bo,bx,l5,ah,aB,ai⟩:=id ad.o;obtain⟨d0,d2,d3,d4,d5,df,dz⟩:=RdC.ci (R:=(R.mem (S_ z (η ks) B)).res A5) hi ah;have d6:y.cell? ⟨R.T,6,ν⟩=σ (S_ z (η ks) B):=RdC.c6 (R:=(R.mem (S_ z (η ks) B)).res A5) hi ah;change y.cell? ⟨R.T,2,ν⟩=_ at d2;change ∀i,y.frozen? ⟨R.T,i,ν⟩=φ at df;change R.T<_ at dz;have e2:∀o,(y.alloc o).cell? ⟨R.T,2,ν⟩=σ (I_ j_ a5):=λo=>by rw[(QW_ (br.alloc (lr_ _) o)).1 _ _ dz];exact d2
    have e6:∀o,(y.alloc o).cell? ⟨R.T,6,ν⟩=σ (S_ z (η ks) B):=λo=>by rw[(QW_ (br.alloc (lr_ _) o)).1 _ _ dz];exact d6
    have aN:(y.alloc (C_ #[I_ j_ a,I_ j_ a5] 160)).heap[y.heap.size]? =σ (C_ #[I_ j_ a,I_ j_ a5] 160 (0,0)):=heap_alloc_new y _;have aS:=h_ (show w.heap.size<=y.heap.size from af.o.size);have HP:=h_ (λ(n':Nat) (ys:List Υ) (v':Υ) (w3:Ω) h1 h2=>RdI.members (R:=(R.mem (S_ z (η ks) B)).res A5) hi ad.o (RC.ty_two R).symm dc_ dc_ k.o aG.o (w1:=y.alloc (C_ #[I_ j_ a,I_ j_ a5] 160)) (w3:=w3) (n':=n') (ys:=ys) (v':=v') bra h1 h2);go_upto_region 5 with fail
    go_region_law
     (refine step_append_lies _ rfl (.tmp 44) (.tmp 51) 115 rfl w.heap.size 160 i2 (A_ #[I_ j_ 0,I_ j_ 0]) 2 16 underlying115 C.o.1 C.o.2.1 C.o.2.2.1 C.o.2.2.2 rfl dc_ (S_ z (η ks) B) (η ks) xm ev_ (by first|exact(k.o.alloc _).drew|exact k.o.alloc _) ⟨y.heap.size,0,ν⟩ 1 1 [I_ j_ a,I_ j_ a5] ev_ (by rfl) (World.news_of_block (cs:=#[I_ j_ a,I_ j_ a5]) (t:=160) (fr:=(0,0)) aN) (QeJ_ _ _) dc_ mx_ oo (by have:=aS.o;simp;omega) (y.heap.size+1) sm_ ?_
      intro q cap w6 I p a3 bh;have f:(y.alloc (C_ #[I_ j_ a,I_ j_ a5] 160)).grownBy w6 (S_ z (η ks) B).ownBlock:=(by first|exact p|exact Q9_ p);obtain⟨A6,bv,ev,D,G,⟨v6,j6⟩,jf,jz,bz,jb⟩:=HP.o _ _ _ _ I f;have HW:=h_ (ai_ ev (ai_ D (ai_ G ((af.o.below bra).grown f (λg hg=>by rw[Q3_]at hg;exact(Mine.blk k.o hg).1)))));have aX:=h_ (λu=>Qt_ (JU_ O.o k.o dc_ bra f) jb (Ne.symm R.ty_int) 6 u);change w6.cell? ⟨R.T,6,ν⟩=_ at j6;change ∀i,w6.frozen? ⟨R.T,i,ν⟩=φ at jf;change R.T<_ at jz)
    all_goals
     obtain⟨ev,D,G,az⟩:=HW.o;injection ev with ev1 ev2 ev3;subst ev1;subst ev3;have ap:=h_ D;have aV:=h_ G;have aU:=h_<|az.setT 6<|S_ (σ ⟨q,0,ν⟩) (η ks+1) cap;go_wp2;go_roundw
     ·exact⟨M,ks++[kc],J,n,A5,a1,σ ⟨q,0,ν⟩,cap,_,by rw[T],aY,aR,aQ,by rw[T];exact aX.o _,by rw[T];exact aV,by rw[T];exact ap,aU⟩
     exact Qgo_ hi HI.o ap.o<|am.o.weak (i':=1) (j':=0) oo oo
 have L:Q=(ks,st'):=by
  have L:=HQ.o
  cases M with
  |zero=>exact L.symm
  |succ M=>unfold XL_ at L;rw[hR,in_ dc_]at L;exact L.symm
 subst L;have an:=h_ (λ(W:Ω) (K:RdI (R.mem (S_ z (η ks) B)) 0 st' row' W) (hm:Mine W w.heap.size 3 1 A (η ks) c (Qa_ ks))=>addK (R.mem (S_ z (η ks) B)) hi 0 st' row' 22 noT A (η ks) c ks φ w.heap.size W K hm bq.o);unfold QA_ at an
 cases st' with
 |none=>
  obtain rfl:b=τ:=hb;go_wp2;go_quiet (fail);go_wp2_with fail;refine mb_ (an.o _ (HI.o.unres.next (below_drewN br _)) (O.o.drewN _)) ?_;rintro w4 ⟨n,h4,k4⟩;go_wp2;go_end0;exact⟨rfl,_,n,h4,(HK.o.below (below_drewN br nq)).trans k4⟩
 |some t=>
  obtain⟨rfl,bL,_⟩:=hb;have bX:¬(a:Int)<(R.n:Int):=by
   have:=of_decide_eq_false hR;have h2:=(HI.o.le rfl).1;omega
  go_wp2;go_quiet (fail);go_wp2_with fail;refine mb_ (an.o _ (HI.o.unres.next (below_drewN br _)) (O.o.drewN _)) ?_;rintro w4 ⟨n,h4,k4⟩;go_wp2;go_end0;exact⟨rfl,_,n,h4,(HK.o.below (below_drewN br nq)).trans k4⟩
def QiP_ (p:PN):Prop:=p.text.size<=3000/\η p.kids<=400
def K6_ (st:RdSt):Prop:=∀s,st=σ s->η s.nodes<=300/\∀p∈s.nodes,QiP_ p
def Yd_ (sg:List SgP):Prop:=∀d∈sg,d.2.1.size<=3000
section
variable {sg:List SgP} {st st':RdSt}
def XM_:K6_ ν:=λs e=>by cases e
def QH_ (h:K6_ st):K6_ (Qf_ st):=by
 cases st with
 |none=>exact h
 |some s=>intro t e;obtain rfl:=oi_ e;exact h s rfl
def QQ_ (h:K6_ st) (m:BA):K6_ (Qn_ sg st m):=by
 unfold Qn_;split
 ·exact QH_ h
 exact XM_
def qk_ (h:K6_ st):K6_ (nmS sg st):=by
 unfold nmS;split
 ·exact QH_ h
 exact XM_
def UX_ (h:K6_ st) (d:Nat):K6_ (KI_ d st):=by
 unfold KI_;split
 ·exact XM_
 exact h
def Q8_ (h:K6_ st) {x:PN} (ht:x.text.size<=3000) (hk:∀s,st=σ s->η s.nodes<=300->η x.kids<=400):K6_ (KP_ st x).2:=by
 intro t e
 cases st with
 |none=>cases e
 |some s=>
  obtain⟨h1,h2⟩:=h s rfl;unfold KP_ at e;simp only at e;split at e
  ·cases e
  obtain rfl:=oi_ e;refine⟨by simp;omega,λp a=>?_⟩;rcases List.mem_append.1 a with a|a
  ·exact h2 p a
  obtain rfl:=ms1_.1 a;exact⟨ht,hk s rfl h1⟩
def qT_ (hs:Yd_ sg) (st:RdSt) (i:Nat):(Qx_ sg st i).2.1.size<=3000:=by
 unfold Qx_
 cases st with
 |none=>exact lz_ _
 |some s=>
  simp only
  cases h:sg[s.at_+i]? with
  |none=>exact lz_ _
  |some d=>exact hs d<|lm_ h
def Wo_ (hs:Yd_ sg) (st:RdSt):(nmT sg st).size<=3000:=by
 unfold nmT;split
 ·exact qT_ hs st 0
 exact lz_ _
def UW_ (hs:Yd_ sg) (h:K6_ st) (k:Int):K6_ (YG_ sg k st).2:=QH_ (Q8_ h (qT_ hs st 0) (λs e _=>by simp))
def Xr_ (hs:Yd_ sg) (h:K6_ st):K6_ (Qj_ sg st).2:=by
 unfold Qj_;split
 ·exact UW_ hs h 1
 exact XM_
def UY_ (hs:Yd_ sg) (h:K6_ st) (b:Bool):K6_ (Xm_ sg b st).2:=QH_ (Q8_ h (qT_ hs st 0) (λs e _=>by simp))
def JG_ (hs:Yd_ sg) {one:RdSt->PR} (h1:∀st,K6_ st->K6_ (one st).2) (m:BA):∀(n:Nat) (ks:LI) (st:RdSt),K6_ st->K6_ (QG_ sg one m n ks st).2:=by
 intro n
 induction n with
 |zero=>intro ks st h;exact h
 |succ n ih=>
  intro ks st h;unfold QG_;split
  ·exact h
  split
  ·exact h
  split
  ·exact ih _ _<|QH_<|h1 st h
  exact h1 st h
def UH_ {one:RdSt->PR} (ha:∀st,Adv 1 1 st (one st).2) (m:BA) (n:Nat) (st:RdSt) {st':RdSt} (k:Adv d f (QG_ sg one m n [] st).2 st'):∀s,st'=σ s->η s.nodes<=300->(QG_ sg one m n [] st).1.length<=300:=λs e hl=>by
 obtain⟨s1,e1,_,h2⟩:=k s e;obtain⟨s0,_,_,h3⟩:=(Yz_ ha m n [] st).2 s1 e1;simp at h3;omega
def kw_ (hs:Yd_ sg) {one:RdSt->PR} (ha:∀st,Adv 1 1 st (one st).2) (h1:∀st,K6_ st->K6_ (one st).2) (N:Nat) (k:Int) (st:RdSt) (h:K6_ st):K6_ (Yg_ sg one N k st).2:=by
 unfold Yg_;refine Q8_ (QQ_ (JG_ hs h1 _ _ _ _ (QQ_ h _)) _) (lz_ _) (λs e hl=>?_);have:=UH_ ha ⟨#[41]⟩ N (Qn_ sg st ⟨#[40]⟩) (Qq_ (sg:=sg) _ ⟨#[41]⟩) s e hl;simp;omega
def QcP_ (hs:Yd_ sg) {one:RdSt->PR} (ha:∀st,Adv 1 1 st (one st).2) (h1:∀st,K6_ st->K6_ (one st).2) (N:Nat):∀(n:Nat) (ks:LI) (st:RdSt),K6_ st->K6_ (Y2_ sg one N n ks st).2:=by
 intro n
 induction n with
 |zero=>intro ks st h;exact h
 |succ n ih=>
  intro ks st h;unfold Y2_;split
  ·exact ih _ _<|kw_ hs ha h1 N _ _<|Xr_ hs<|QH_ h
  exact h
def Qfh_ {one:RdSt->PR} (h1:∀st,K6_ st->K6_ (one st).2) (m:BA):∀(n:Nat) (ks:LI) (st:RdSt),K6_ st->K6_ (GD_ sg one m n ks st).2:=by
 intro n
 induction n with
 |zero=>intro ks st h;exact h
 |succ n ih=>
  intro ks st h;unfold GD_;split
  ·exact ih _ _<|h1 _<|QH_ h
  exact h
def Qbq_ (st:RdSt):∀l:List BA,(∀m∈l,m.size<=3000)->(Zz_ sg st l).size<=3000:=by
 intro l
 induction l with
 |nil=>intro _;exact lz_ _
 |cons a l ih=>
  intro h;unfold Zz_;split
  ·exact h a sm_
  exact ih (λm hm=>h m (by simp[hm]))
def Qbt_ (st:RdSt) (l:Nat):(KY_ sg st l).size<=3000:=by
 refine Qbq_ st _ (λm a=>?_);have:∀m∈[(⟨#[124,124]⟩:BA),⟨#[38,38]⟩,⟨#[61,61]⟩,⟨#[60]⟩,⟨#[43]⟩,⟨#[45]⟩,⟨#[42]⟩],m.size<=3000:=by decide
 apply this;unfold Zg_ at a;split at a
 ·simp at a |-; simp[a]
 split at a
 ·simp at a |-; simp[a]
 split at a
 ·simp at a |-; simp[a]
 split at a
 ·simp at a |-; simp[a]
 split at a
 ·simp at a |-; rcases a with h|h<;>simp[h]
 simp at a |-; simp[a]
def QaT_ {one:RdSt->PR} (ha:∀st,Adv 1 1 st (one st).2) (h1:∀st,K6_ st->K6_ (one st).2) (l N:Nat):∀(n:Nat) (k:Int) (st:RdSt),K6_ st->K6_ (Zw_ sg one l N n k st).2:=by
 intro n
 induction n with
 |zero=>intro k st h;exact h
 |succ n ih=>
  intro k st h;unfold Zw_;split
  ·exact h
  refine ih _ _ (Q8_ (Qfh_ h1 _ _ _ _ h) (Qbt_ st l) (λs e hl=>?_));obtain⟨s0,_,_,h3⟩:=(x1_ (sg:=sg) ha (KY_ sg st l) N [k] st).2 s e;simp at h3 |-
  omega
def Qff_ (hs:Yd_ sg) {one:RdSt->PR} (ha:∀st,Adv 1 1 st (one st).2) (h1:∀st,K6_ st->K6_ (one st).2) (N:Nat):∀(n:Nat) (k:Int) (st:RdSt),K6_ st->K6_ (W0_ sg one N n k st).2:=by
 intro n
 induction n with
 |zero=>intro k st h;exact h
 |succ n ih=>
  intro k st h;unfold W0_;split
  ·exact h
  split
  ·exact ih _ _<|kw_ hs ha h1 N k st h
  split
  ·split
   ·exact ih _ _<|QH_<|Q8_ (QH_ h) (qT_ hs _ 0) (λs e _=>by simp)
   exact XM_
  exact h
def kv_ {one:Bool->RdSt->PR} (h1:∀b st,K6_ st->K6_ (one b st).2):∀(n:Nat) (ks:LI) (st:RdSt),K6_ st->K6_ (Zv_ sg one n ks st).2:=by
 intro n
 induction n with
 |zero=>intro ks st h;exact h
 |succ n ih=>
  intro ks st h;unfold Zv_;split
  ·exact h
  split
  ·exact h
  exact ih _ _<|h1 _ st h
def vA_ {one:Bool->RdSt->PR} (ha:∀b st,Adv 1 1 st (one b st).2) (n:Nat) (st:RdSt) {st':RdSt} (k:Adv d f (Zv_ sg one n [] st).2 st'):∀s,st'=σ s->η s.nodes<=300->(Zv_ sg one n [] st).1.length<=300:=λs e hl=>by
 obtain⟨s1,e1,_,h2⟩:=k s e;obtain⟨s0,_,_,h3⟩:=(z7_ (sg:=sg) ha n [] st).2 s1 e1;simp at h3;omega
variable {E:Md->Nat->RdSt->PR} {N:Nat} (hs:Yd_ sg) (hA:∀m d st,Adv 1 1 st (E m d st).2) (hE:∀m d st,K6_ st->K6_ (E m d st).2)
include hE
def UV_ (d:Nat) (h:K6_ st):K6_ (JJ_ sg E d st).2:=QQ_ (hE _ _ _ (QQ_ h _)) _
include hs
def ql_ (d:Nat) (b:Bool) (h:K6_ st):K6_ (Jx_ sg E d b st).2:=by
 unfold Jx_;split
 ·exact Q8_ (QQ_ (hE _ _ _ (QH_ (qk_ h))) _) (Wo_ hs st) (λs e _=>by simp)
 exact Q8_ (QQ_ (qk_ h) _) (Wo_ hs st) (λs e _=>by simp)
def QcT_ (d:Nat) (b:Bool) (h:K6_ st):K6_ (ZJ_ sg E d b st).2:=by
 unfold ZJ_;split
 ·exact UY_ hs h b
 split
 ·exact ql_ hs hE d b<|QH_ h
 split
 ·unfold Yp_;split
  ·exact Q8_ (QQ_ (QH_ h) _) (lz_ _) (λs e _=>by simp)
  exact Q8_ (QQ_ (hE _ _ _ (QH_ h)) _) (lz_ _) (λs e _=>by simp)
 split
 ·unfold ifS;simp only;split
  ·exact Q8_ (hE _ _ _ (QH_ (hE _ _ _ (UV_ hE d (QH_ h))))) (lz_ _) (λs e _=>by simp)
  exact Q8_ (hE _ _ _ (UV_ hE d (QH_ h))) (lz_ _) (λs e _=>by simp)
 split
 ·exact Q8_ (hE _ _ _ (UV_ hE d (QH_ h))) (lz_ _) (λs e _=>by simp)
 split
 ·exact Q8_ (QQ_ (hE _ _ _ (QH_ (QH_ h))) _) (Wo_ hs st) (λs e _=>by simp)
 exact Q8_ (QQ_ (hE _ _ _ h) _) (lz_ _) (λs e _=>by simp)
include hA
def QgT_ (d:Nat) (h:K6_ st):K6_ (fnS sg E N d st).2:=by
 unfold fnS;refine Q8_ (hE _ _ _ (QQ_ (QQ_ (JG_ hs (λst h=>Xr_ hs h) _ _ _ _ (QQ_ h _)) _) _)) (lz_ _) (λs e hl=>?_);have:=UH_ (sg:=sg) (QT_ (sg:=sg)) ⟨#[41]⟩ N (Qn_ sg st ⟨#[40]⟩) (((Qq_ (sg:=sg) _ ⟨#[41]⟩).trans (Qq_ (sg:=sg) _ ⟨#[61,62]⟩)).trans (hA .pick d _)) s e hl;simp;omega
def QcO_ (d:Nat) (h:K6_ st):K6_ (YB_ sg E N d st).2:=by
 unfold YB_;split
 ·exact Xr_ hs h
 split
 ·exact UW_ hs h 2
 split
 ·exact UW_ hs h 3
 split
 ·unfold Qdq_;refine Q8_ (QQ_ (JG_ hs (hE .value d) _ _ _ _ (QH_ h)) _) (lz_ _) (λs e hl=>?_);have:=UH_ (sg:=sg) (hA .value d) ⟨#[93]⟩ N (Qf_ st) (Qq_ (sg:=sg) _ ⟨#[93]⟩) s e hl;show(QG_ sg (E .value d) ⟨#[93]⟩ N [] (Qf_ st)).1.length<=400;omega
 split
 ·split
  ·exact QgT_ hs hA hE d h
  exact Q8_ (QQ_ (hE _ _ _ (QH_ h)) _) (lz_ _) (λs e _=>by simp)
 exact XM_
def QcS_ (m:Md) (d:Nat) (h:K6_ st):K6_ (Qb8_ sg E N m d st).2:=by
 cases m with
 |value=>
  show K6_ (Xi_ sg E N d st).2;unfold Xi_;split
  ·refine Q8_ (QcP_ hs (hA .value d) (hE .value d) N _ _ _ (hE _ _ _ h)) (lz_ _) (λs e hl=>?_);obtain⟨s0,_,_,h3⟩:=(vp_ (sg:=sg) (hA .value d) N N [(E .pick d st).1] (E .pick d st).2).2 s e;simp at h3 |-
   omega
  exact hE _ _ _ h
 |pick=>
  show K6_ (Vq_ sg E d st).2;unfold Vq_;simp only;split
  ·exact Q8_ (hE _ _ _ (QQ_ (hE _ _ _ (QH_ (hE _ _ _ (UX_ h d)))) _)) (lz_ _) (λs e _=>by simp)
  exact hE _ _ _<|UX_ h d
 |chain l=>
  show K6_ (Xc_ sg E N l d st).2;unfold Xc_;split
  ·exact hE _ _ _ h
  exact QaT_ (hA _ d) (hE _ d) l N _ _ _<|hE _ _ _ h
 |end_=>exact Qff_ hs (hA .value d) (hE .value d) N _ _ _<|hE _ _ _ h
 |base=>exact QcO_ hs hA hE d h
 |stmt b=>exact QcT_ hs hE d b h
 |block=>
  show K6_ (Ye_ sg E N d st).2;unfold Ye_;refine Q8_ (QQ_ (kv_ (λb st h=>hE (.stmt b) (d+1) st h) _ _ _ (QQ_ (UX_ h d) _)) _) (lz_ _) (λs e hl=>?_);have:=vA_ (sg:=sg) (λb=>hA (.stmt b) (d+1)) N (Qn_ sg (KI_ d st) ⟨#[123]⟩) (Qq_ (sg:=sg) _ ⟨#[125]⟩) s e hl;show(Zv_ sg (λb=>E (.stmt b) (d+1)) N [] (Qn_ sg (KI_ d st) ⟨#[123]⟩)).1.length<=400;omega
def kx_ (b:Bool) (h:K6_ st):K6_ (VU_ sg E N b st).2:=by
 unfold VU_;refine Q8_ (hE _ _ _ (QQ_ (JG_ hs (λst h=>Xr_ hs h) _ _ _ _ (QQ_ (qk_ h) _)) _)) (Wo_ hs st) (λs e hl=>?_);have:=UH_ (sg:=sg) (QT_ (sg:=sg)) ⟨#[41]⟩ N (Qn_ sg (nmS sg st) ⟨#[40]⟩) ((Qq_ (sg:=sg) _ ⟨#[41]⟩).trans (hA .block 0 _)) s e hl;simp;omega
def Qfg_ (b:Bool) (h:K6_ st):K6_ (V6_ sg E N b st).2:=by
 unfold V6_;split
 ·exact UY_ hs h b
 split
 ·exact ql_ hs hE 0 b<|QH_ h
 exact kx_ hs hA hE b h
def Qfi_ (b:Bool) (h:K6_ st):K6_ (Y9_ sg E N b st).2:=by
 unfold Y9_;split
 ·exact UY_ hs h b
 split
 ·exact ql_ hs hE 0 b<|QH_ h
 split
 ·unfold Vd_;refine Q8_ (QQ_ (kv_ (λb st h=>Qfg_ hs hA hE b h) _ _ _ (QQ_ (qk_ (QH_ h)) _)) _) (Wo_ hs _) (λs e hl=>?_);have:=vA_ (sg:=sg) (z9_ hA) N (Qn_ sg (nmS sg (Qf_ st)) ⟨#[123]⟩) (Qq_ (sg:=sg) _ ⟨#[125]⟩) s e hl;show(Zv_ sg (V6_ sg E N) N [] (Qn_ sg (nmS sg (Qf_ st)) ⟨#[123]⟩)).1.length<=400;omega
 exact kx_ hs hA hE b h
def QcR_:∀(n:Nat) (ks:LI) (st:RdSt),K6_ st->K6_ (XL_ sg E N n ks st).2:=by
 intro n
 induction n with
 |zero=>intro ks st h;exact h
 |succ n ih=>
  intro ks st h;unfold XL_;split
  ·exact ih _ _<|Qfi_ hs hA hE _ h
  exact h
omit hs hE in
def QeY_:∀(n:Nat) (ks:LI) (st:RdSt),η ks<=(XL_ sg E N n ks st).1.length/\Adv 0 ((XL_ sg E N n ks st).1.length-η ks) st (XL_ sg E N n ks st).2:=by
 intro n
 induction n with
 |zero=>intro ks st;exact⟨lr_ _,by simpa[XL_]using Adv.refl st⟩
 |succ n ih=>
  intro ks st;unfold XL_;split
  ·obtain⟨g1,g2⟩:=ih (ks++[(Y9_ sg E N (XI_ sg st ks) st).1]) (Y9_ sg E N (XI_ sg st ks) st).2;simp only[lA,List.length_singleton]at g1 g2;exact⟨oo,((x2_ hA _ st).trans g2).weak oo oo⟩
  exact⟨lr_ _,by simpa using Adv.refl st⟩
def QaU_ (h:K6_ st):K6_ (ji_ sg E N st):=by
 unfold ji_;refine Q8_ (QcR_ hs hA hE N [] st h) (lz_ _) (λs e hl=>?_);obtain⟨s0,_,_,h3⟩:=(QeY_ (sg:=sg) hA N [] st).2 s e;simp at h3;show(XL_ sg E N N [] st).1.length<=400;omega
end
def QcQ_ (hs:Yd_ s) :∀(f:Nat) (m:Md) (sg:Nat) (st:RdSt),K6_ st->K6_ (Qd_ s d f m sg st).2:=by
 intro f
 induction f with
 |zero=>intro m sg st _;exact XM_
 |succ f ih=>intro m sg st h;exact QcS_ hs (λm sg st=>QB_ f m sg st) ih m sg h
def QaV_ (hs:Yd_ s):K6_ (Xg_ s):=
 QaU_ hs (λm d st=>QB_ _ m d st) (λm d st h=>QcQ_ hs _ m d st h) (λsg e=>by obtain rfl:=oi_ e;exact⟨by simp,λp hp=>by cases hp⟩)
section
variable {R:RC} {a d:Nat} {b:Bool} {AN:OA} {cN:Nat} {l:List Nd} {st:RdSt} {s:PS} {row:ON} {w:Ω}
def RdC.cs (hi:R.imp=φ) (h:RdC R a d b AN cN l w):
  w.cell? ⟨R.T,0,ν⟩=σ (S_ R.A R.n R.c)/\w.cell? ⟨R.T,1,ν⟩=σ (I_ j_ a)/\w.cell? ⟨R.T,2,ν⟩=σ (B_ b)/\w.cell? ⟨R.T,3,ν⟩=σ (I_ j_ d)/\w.cell? ⟨R.T,4,ν⟩=σ (S_ AN (η l) cN)/\(∀i,w.frozen? ⟨R.T,i,ν⟩=φ)/\R.T<w.heap.size:=by
 have c:=h.1;unfold RC.cells at c;rw[in_ (by rw[hi];decide)]at c;exact⟨c.cell 0,c.cell 1,c.cell 2,c.cell 3,c.cell 4,c.frozen,c.lt⟩
def RdI.sat1 (hi:R.imp=φ) (hc:RdC R a d b AN cN l w) (hs:StOk (σ s) b a l) (hr:row=AN.map (·.block)) (c:s.at_<R.n):
  RdI R d (Qf_ (σ s)) row (w.setCell ⟨R.T,1,ν⟩ (I_ j_ ((a:Int)+1)))/\Kr R.T row w row (w.setCell ⟨R.T,1,ν⟩ (I_ j_ ((a:Int)+1))):=by
 obtain⟨h1,h2,h3⟩:=hs;have:=hc.set (i:=1) (u:=I_ j_ ((a:Int)+1)) (a':=a+1) (d':=d) (b':=b) (by unfold RC.cells;rw[in_ (by rw[hi];decide),in_ (by rw[hi];decide)];simp) oo;rw[hr];exact⟨⟨a+1,b,AN,cN,l,this.1,⟨h1,(show s.at_+1=a+1 by rw[h2]),h3⟩,rfl⟩,this.2⟩
def RdI.sbad1 (hi:R.imp=φ) (hc:RdC R a d b AN cN l w) (hr:row=AN.map (·.block)):
  RdI R d ν row (w.setCell ⟨R.T,2,ν⟩ (B_ τ))/\Kr R.T row w row (w.setCell ⟨R.T,2,ν⟩ (B_ τ)):=by
 have:=hc.set (i:=2) (u:=B_ τ) (a':=a) (d':=d) (b':=τ) (by unfold RC.cells;rw[in_ (by rw[hi];decide),in_ (by rw[hi];decide)];simp) hc.2.2.2.2.1;rw[hr];exact⟨⟨a,τ,AN,cN,l,this.1,rfl,rfl⟩,this.2⟩
def RdI.snest1 (hi:R.imp=φ) (hc:RdC R a d b AN cN l w) (hs:StOk st b a l) (hr:row=AN.map (·.block)) {u:Int} {d':Nat} (hu:u=(d':Int)):
  RdI R d' st row (w.setCell ⟨R.T,3,ν⟩ (I_ j_ u))/\Kr R.T row w row (w.setCell ⟨R.T,3,ν⟩ (I_ j_ u)):=by
 subst hu;have:=hc.set (i:=3) (u:=I_ j_ (d':Int)) (a':=a) (d':=d') (b':=b) (by unfold RC.cells;rw[in_ (by rw[hi];decide),in_ (by rw[hi];decide)];simp) hc.2.2.2.2.1;rw[hr];exact⟨⟨a,b,AN,cN,l,this.1,hs,rfl⟩,this.2⟩
end
def isKm (sg:List SgP) (st:RdSt) (k:Int) (m:BA):Bool:=((Qx_ sg st 0).1==k)&&((Qx_ sg st 0).2.1.toList==m.toList)
def kL_ (hk:k≠0) (m:BA):isKm s ν k m=φ:=by
 unfold isKm;rw[show((Qx_ s ν 0).1==k)=φ by rw[bn_];exact λe=>hk e.symm,φa]
def RdI.see (hi:x.imp=φ) (h:RdI x d y u w):
  (y=ν/\w.cell? ⟨x.T,2,ν⟩=σ (B_ τ)/\Qx_ x.sg y 0=sgZero/\x.T<w.heap.size/\∀i,w.frozen? ⟨x.T,i,ν⟩=φ)\/
  (∃s a,y=σ s/\s.at_=a/\x.n<=a/\a<=3000/\w.cell? ⟨x.T,0,ν⟩=σ (S_ x.A x.n x.c)/\w.cell? ⟨x.T,1,ν⟩=σ (I_ j_ a)/\w.cell? ⟨x.T,2,ν⟩=σ (B_ φ)/\Qx_ x.sg y 0=sgZero/\x.T<w.heap.size/\∀i,w.frozen? ⟨x.T,i,ν⟩=φ)\/
  (∃s a b off R,y=σ s/\s.at_=a/\a<x.n/\a<=3000/\w.cell? ⟨x.T,0,ν⟩=σ (S_ (σ ⟨b,off,ν⟩) x.n x.c)/\w.cell? ⟨x.T,1,ν⟩=σ (I_ j_ a)/\w.cell? ⟨x.T,2,ν⟩=σ (B_ φ)/\x.sg[a]? =σ R/\Qx_ x.sg y 0=R/\x.T<w.heap.size/\(∀i,w.frozen? ⟨x.T,i,ν⟩=φ)/\b<w.heap.size/\b≠x.T/\
   w.cell? ⟨b,off+a*4,ν⟩=σ (I_ j_ R.1)/\w.cell? ⟨b,off+a*4+1,ν⟩=σ (T_ R.2.1)/\w.cell? ⟨b,off+a*4+2,ν⟩=σ (I_ j_ R.2.2.1)/\w.cell? ⟨b,off+a*4+3,ν⟩=σ (B_ R.2.2.2)):=by
 obtain⟨a,b,AN,cN,l,m,j,st⟩:=h;obtain⟨c0,c1,c2,c3,c4,n,o⟩:=m.cs hi;have c:=m.2.2.2.2.2.2;have A:=m.2.2.2.2.1;have C:=c.most;have t:=c.len
 cases y with
 |none=>
  obtain rfl:b=τ:=j;exact .inl ⟨rfl,c2,rfl,o,n⟩
 |some s=>
  obtain⟨rfl,k,_⟩:=j;rcases Nat.lt_or_ge a x.n with g|q
  ·right;right;obtain⟨R,r⟩:∃R,x.sg[a]? =σ R:=⟨_,gE oo⟩;obtain⟨b1,off,hA,f,e0,e1,e2,e3⟩:=Yv_ (c.rd.below m.2.2.2.2.2.1) g r;have v:=c.low;have p:b1≠x.T:=by
    obtain⟨b2,z,e,B,_⟩:=c.rd.at_ (show 0<x.n from oo);rw[hA]at e;injection e with e;injection e with e _;omega
   refine⟨s,a,b1,off,R,rfl,k,g,oo,by rw[<-hA];exact c0,c1,c2,r,GE_ (by rw[k];exact r),o,n,f,p,e0,e1,e2,e3⟩
  right;left;exact⟨s,a,rfl,k,q,oo,c0,c1,c2,ZO_ (by rw[k];omega),o,n⟩
def GF_ (hi:a.imp=φ) (d:Nat) (st:RdSt) (row:ON) (k:Int) (hk:k≠0) (m:BA) (w:Ω) (c:RdI a d st row w):
  Δ π 92 #[P_ (σ ⟨a.T,0,ν⟩),I_ j_ k,T_ m] w (RB_ (B_ (isKm a.sg st k m)) w):=by
 have f:isKm a.sg ν k m=φ:=kL_ hk m;have b:∀st,Qx_ a.sg st 0=sgZero->isKm a.sg st k m=φ:=λst e=>by
  unfold isKm;rw[e,show(sgZero.1==k)=φ by rw[bn_];exact λe=>hk e.symm,φa]
 rcases c.see hi with⟨rfl,c2,_,cz,cf⟩|⟨s,R,rfl,ha,q,g,c0,c1,c2,hs,cz,cf⟩|⟨s,R,b1,off,x,rfl,ha,r,g,c0,c1,c2,hx,hs,cz,cf,h,p,e0,e1,e2,e3⟩
 ·rw[f];go_in;go_wp2;go_quiet (fail);exact Γ
 ·rw[b _ hs];have i:¬(R:Int)<a.n:=oo;have j:¬R<a.n:=oo;have l:decide ((R:Int)<(a.n:Int))=φ:=by rw[decide_eq_false_iff_not];omega
  have n:(a.n:Int)<=R:=oo;go_in;go_wp2;go_quiet (fail);exact Γ
 have hv:isKm a.sg (σ s) k m=((x.1==k)&&(x.2.1.toList==m.toList)):=by unfold isKm;rw[hs]
 rw[hv];obtain⟨kd,xt,xp,xz⟩:=x;dsimp only at e0 e1 e2 e3 |-
 have o:(R:Int)<a.n:=oo;rcases bft (kd==k)with h1|h1
 ·obtain rfl:kd=k:=eq_of_beq h1;rw[show(kd==kd)=τ from h1,τb];go_in;go_wp2;go_quiet (fail);exact Γ
 rw[h1,φa];go_in;go_wp2;go_quiet (fail);exact Γ
def Qhd_ {k:Int} (hk:k≠0) (h:isKm s y k m=τ):∃sg,y=σ sg/\sg.at_<η s:=by
 cases y with
 |none=>exact absurd h (by rw[kL_ hk];decide)
 |some sg=>
  refine⟨sg,rfl,?_⟩;rcases Nat.lt_or_ge sg.at_ (η s) with hl|hl
  ·exact hl
  unfold isKm at h;rw[ZO_ (i:=0) hl,show(sgZero.1==k)=φ by rw[bn_];exact λe=>hk e.symm,φa]at h;exact absurd h dc_
def JO_:isKm c e 4 g=isM c e g:=rfl
def Qfq_:isKm c e 1 g=isW c e g:=rfl
def qU_ (sg:List SgP) (st:RdSt) (m:BA):RdSt:=if isW sg st m=τ then Qf_ st else st
def K4_ (h:isW s y m=τ):qU_ s y m=Qf_ y:=ip_ h
def Zp_ (h:isW s y m=φ):qU_ s y m=y:=in_ (by rw[h];decide)
def JT_ (hi:a.imp=φ) (d:Nat) (st:RdSt) (row:ON) (m:BA) (w:Ω) (k:RdI a d st row w):
  Δ π 74 #[P_ (σ ⟨a.T,0,ν⟩),T_ m] w (QA_ a d row w (B_ (isM a.sg st m)) (zX_ a.sg st m)):=by
 have h:=h_<|GF_ a hi d st row 4 dc_ m w k;rw[JO_]at h;have HI:=h_ k;unfold QA_;rcases bft (isM a.sg st m)with c|c
 ·rw[Qy_ c];rw[c]at h;obtain⟨s,rfl,n⟩:=Xe_ c;rw[c];go_in;go_wp2_with fail;refine mb_ h.o ?_;intro w1 i;obtain⟨R,b,AN,cN,l,g,j,f⟩:=HI.o.next i;obtain⟨c0,c1,c2,c3,c4,cf,cz⟩:=g.cs hi;have HF:=h_<|RdI.sat1 hi g j f (by rw[<-g.2.2.2.2.2.2.len];exact n);have o:=g.2.2.2.2.1;have p:=g.2.2.2.2.2.2.most;go_wp2;go_ret;exact⟨rfl,row,HF.o.1,(Kr.of_below i).trans HF.o.2⟩
 rw[QD_ c];rw[c]at h;rw[c];go_in;go_wp2_with fail;refine mb_ h.o ?_;intro w1 i;go_wp2;go_ret;exact⟨rfl,row,HI.o.next i,Kr.of_below i⟩
def Wa_ (h:isW s y m=τ):∃sg,y=σ sg/\sg.at_<η s:=Qhd_ (k:=1) dc_ h
def Qge_ (hi:a.imp=φ) (d:Nat) (st:RdSt) (row:ON) (m:BA) (w:Ω) (k:RdI a d st row w):
  Δ π 71 #[P_ (σ ⟨a.T,0,ν⟩),T_ m] w (QA_ a d row w (B_ (isW a.sg st m)) (qU_ a.sg st m)):=by
 have h:=h_<|GF_ a hi d st row 1 dc_ m w k;rw[Qfq_]at h;have HI:=h_ k;unfold QA_;rcases bft (isW a.sg st m)with c|c
 ·rw[K4_ c];rw[c]at h;obtain⟨s,rfl,n⟩:=Wa_ c;rw[c];go_in;go_wp2_with fail;refine mb_ h.o ?_;intro w1 i;obtain⟨R,b,AN,cN,l,g,j,f⟩:=HI.o.next i;obtain⟨c0,c1,c2,c3,c4,cf,cz⟩:=g.cs hi;have HF:=h_<|RdI.sat1 hi g j f (by rw[<-g.2.2.2.2.2.2.len];exact n);have o:=g.2.2.2.2.1;have p:=g.2.2.2.2.2.2.most;go_wp2;go_ret;exact⟨rfl,row,HF.o.1,(Kr.of_below i).trans HF.o.2⟩
 rw[Zp_ c];rw[c]at h;rw[c];go_in;go_wp2_with fail;refine mb_ h.o ?_;intro w1 i;go_wp2;go_ret;exact⟨rfl,row,HI.o.next i,Kr.of_below i⟩
def KN_ (hi:a.imp=φ) (d:Nat) (st:RdSt) (row:ON) (m:BA) (w:Ω) (hI:RdI a d st row w):
  Δ π 73 #[P_ (σ ⟨a.T,0,ν⟩),T_ m] w (QA_ a d row w (U_ #[]) (Qn_ a.sg st m)):=by
 have i:=h_<|JT_ a hi d st row m w hI;unfold QA_ at i |-
 rcases bft (isM a.sg st m)with f|f
 ·rw[Zr_ f];rw[f,Qy_ f]at i;go_in;go_wp2_with fail;refine mb_ i.o ?_;rintro w1 ⟨c,h,n⟩;go_wp2;go_end0;exact⟨rfl,c,h,n⟩
 rw[GK_ f];rw[f,QD_ f]at i;go_in;go_wp2_with fail;refine mb_ i.o ?_;rintro w1 ⟨c,h,n⟩;obtain⟨R,b,AN,cN,l,j,k,g⟩:=h;obtain⟨c0,c1,c2,c3,c4,cf,cz⟩:=j.cs hi;have HF:=h_<|RdI.sbad1 hi j g;go_wp2;go_end0;exact⟨rfl,c,HF.o.1,n.trans HF.o.2⟩
def Yn_ (hi:a.imp=φ) (d:Nat) (st:RdSt) (row:ON) (k:Int) (hk:k≠0) (g:k≠1) (w:Ω) (c:RdI a d st row w):
  Δ π 69 #[P_ (σ ⟨a.T,0,ν⟩),I_ j_ k] w λe w'=>e=R_ (B_ ((Qx_ a.sg st 0).1==k))/\Λ w w':=by
 have b:(sgZero.1==k)=φ:=by rw[bn_];exact λe=>hk e.symm
 have n:(k==1)=φ:=bn_.2 g;rcases c.see hi with⟨rfl,c2,hs,cz,cf⟩|⟨s,R,rfl,ha,q,f,c0,c1,c2,hs,cz,cf⟩|⟨s,R,b1,off,x,rfl,ha,r,f,c0,c1,c2,hx,hs,cz,cf,h,p,e0,e1,e2,e3⟩
 ·rw[hs,b];go_in;go_wp2;go_quiet (fail);exact Γ
 ·rw[hs,b];have l:decide ((R:Int)<(a.n:Int))=φ:=by rw[decide_eq_false_iff_not];omega
  have i:¬(R:Int)<a.n:=oo;have j:¬R<a.n:=oo;have m:(a.n:Int)<=R:=oo;go_in;go_wp2;go_quiet (fail);exact Γ
 rw[hs];obtain⟨kd,xt,xp,xz⟩:=x;dsimp only at e0 e1 e2 e3 |-
 have o:(R:Int)<a.n:=oo;rcases bft (kd==k)with h1|h1
 ·obtain rfl:kd=k:=eq_of_beq h1;rw[show(kd==kd)=τ from h1];go_in;go_wp2;go_quiet (fail);exact Γ
 rw[h1];go_in;go_wp2;go_quiet (fail);exact Γ
def kU_ (hi:a.imp=φ) (d:Nat) (st:RdSt) (row:ON) (w:Ω) (b:RdI a d st row w):
  Δ π 69 #[P_ (σ ⟨a.T,0,ν⟩),I_ j_ 1] w (RB_ (B_ (Kp_ a.sg st 0)) w):=by
 unfold Kp_;rcases b.see hi with⟨rfl,c2,hs,cz,cf⟩|⟨s,R,rfl,ha,n,c,c0,c1,c2,hs,cz,cf⟩|⟨s,R,b1,off,x,rfl,ha,o,c,c0,c1,c2,hx,hs,cz,cf,f,m,e0,e1,e2,e3⟩
 ·rw[hs,show((sgZero.1==1)&&!X5_ sgZero.2.1)=φ from rfl];go_in;go_wp2;go_quiet (fail);exact Γ
 ·rw[hs,show((sgZero.1==1)&&!X5_ sgZero.2.1)=φ from rfl];have j:decide ((R:Int)<(a.n:Int))=φ:=by rw[decide_eq_false_iff_not];omega
  have g:¬(R:Int)<a.n:=oo;have i:¬R<a.n:=oo;have k:(a.n:Int)<=R:=oo;go_in;go_wp2;go_quiet (fail);exact Γ
 rw[hs];obtain⟨kd,xt,xp,xz⟩:=x;dsimp only at e0 e1 e2 e3 |-
 have l:(R:Int)<a.n:=oo;rcases bft (kd==1)with h1|h1
 ·obtain rfl:kd=1:=eq_of_beq h1;rw[show((1:Int)==1)=τ from h1,τb];have HK:=h_ (λW=>Ju_ xt W);generalize X5_ xt=kb at HK |-
  go_in;go_wp2;go_quiet ((go_at_call 91;exact Calls.quiet_of_same ((HK.o _).mono λ_ _ h=>⟨h.1,h.2.symm⟩)));exact Γ
 rw[h1,φa];go_in;go_wp2;go_quiet (fail);exact Γ
section
/-- text, once it is known what kind says. -/
def Qav_ (hi:a.imp=φ) (d:Nat) (st:RdSt) (row:ON) (k:Int) (w:Ω) (hI:RdI a d st row w) (g:∃s,st=σ s/\s.at_<η a.sg)
    (HN:Ψ (Δ π 69 #[P_ (σ ⟨a.T,0,ν⟩),I_ j_ k] w λe w'=>e=R_ (B_ τ)/\Λ w w')):
    Δ π 70 #[P_ (σ ⟨a.T,0,ν⟩),I_ j_ k] w (QA_ a d row w (T_ (Qx_ a.sg st 0).2.1) (Qf_ st)):=by
  have HI:=h_ hI;unfold QA_;obtain⟨s,rfl,g⟩:=g;obtain⟨x,o⟩:∃x,a.sg[s.at_]? =σ x:=⟨_,List.getElem?_eq_getElem g⟩;rw[show Qx_ a.sg (σ s) 0=x from GE_ o];go_in;go_wp2_with fail;refine mb_ HN.o ?_;intro w1 q;have j:=HI.o.next q;have h:=j.old;have c:=j.ok;obtain⟨R,b,AN,cN,l,n,f,i⟩:=j;obtain⟨c0,c1,c2,c3,c4,cf,cz⟩:=n.cs hi;have m:=c.len;rw[f.2.1]at o;obtain⟨p,off,hA,t,e0,e1,e2,e3⟩:=Yv_ (c.rd.below h) (show R<a.n by have:=f.2.1;omega) o;rw[hA]at c0;have r:=RdI.sat1 hi n f i (by have:=f.2.1;omega);have z:=n.2.2.2.2.1;have D:=c.most;have v:=c.low;have A:R<a.n:=by have:=f.2.1;omega
  have C:p≠a.T:=by
    obtain⟨b2,y,e,B,_⟩:=c.rd.at_ (show 0<a.n from oo);rw[hA]at e;injection e with e;injection e with e _;omega
  have E:IntKind.i64.wrap ((R:Int)+1)=(R:Int)+1:=IntWalk.i64_in _ oo;have HK:=h_<|(Kr.of_below q).trans r.2;have HF:=h_ r.1;go_upto_region 5 with fail
  have q0:(w1.setCell ⟨a.T,1,ν⟩ (I_ j_ ((R:Int)+1))).cell? ⟨a.T,0,ν⟩=σ (S_ (σ ⟨p,off,ν⟩) a.n a.c):=by go_simp
  have q2:(w1.setCell ⟨a.T,1,ν⟩ (I_ j_ ((R:Int)+1))).cell? ⟨a.T,1,ν⟩=σ (I_ j_ ((R:Int)+1)):=by go_simp
  have q1:(w1.setCell ⟨a.T,1,ν⟩ (I_ j_ ((R:Int)+1))).cell? ⟨p,off+R*4+1,ν⟩=σ (T_ x.2.1):=by go_simp
  have F:IntKind.i64.wrap (R:Int)=(R:Int):=IntWalk.i64_in _ oo;generalize w1.setCell ⟨a.T,1,ν⟩ (I_ j_ ((R:Int)+1))=W at q0 q1 q2 HK HF |-
  go_quiet (fail);go_wp2;go_ret;exact⟨rfl,row,HF.o.next (below_drewN br _),HK.o.below (below_drewN br _)⟩
def QhR_ (hi:a.imp=φ) (d:Nat) (st:RdSt) (row:ON) (k:Int) (w:Ω) (hI:RdI a d st row w)
  (HN:Ψ (Δ π 69 #[P_ (σ ⟨a.T,0,ν⟩),I_ j_ k] w λe w'=>e=R_ (B_ φ)/\Λ w w')):
  Δ π 70 #[P_ (σ ⟨a.T,0,ν⟩),I_ j_ k] w (QA_ a d row w (T_ noT) ν):=by
 have HI:=h_ hI;unfold QA_;go_in;go_wp2_with fail;refine mb_ HN.o ?_;intro w1 g1;obtain⟨R,b,AN,cN,l,f,g,c⟩:=HI.o.next g1;obtain⟨c0,c1,c2,c3,c4,cf,cz⟩:=f.cs hi;have HF:=h_<|RdI.sbad1 hi f c;go_wp2;go_ret;exact⟨rfl,row,HF.o.1,(Kr.of_below g1).trans HF.o.2⟩
def QeA_ (hi:a.imp=φ) (d:Nat) (st:RdSt) (row:ON) (w:Ω) (c:RdI a d st row w):
  Δ π 70 #[P_ (σ ⟨a.T,0,ν⟩),I_ j_ 1] w (QA_ a d row w (T_ (nmT a.sg st)) (nmS a.sg st)):=by
 have b:=kU_ a hi d st row w c;unfold nmT nmS;rcases bft (Kp_ a.sg st 0)with R|R
 ·rw[R]at b;rw[ip_ R,ip_ R];obtain⟨s,e,h⟩:=Z7_ R;exact Qav_ a hi d st row 1 w c ⟨s,e,h⟩ b
 rw[R]at b;rw[in_ (by rw[R];decide),in_ (by rw[R];decide)];exact QhR_ a hi d st row 1 w c b
def Vy_ (hi:a.imp=φ) (d:Nat) (st:RdSt) (row:ON) (k:Int) (R:k≠0) (b:k≠1) (w:Ω) (hI:RdI a d st row w) (h:(Qx_ a.sg st 0).1=k):
  Δ π 70 #[P_ (σ ⟨a.T,0,ν⟩),I_ j_ k] w (QA_ a d row w (T_ (Qx_ a.sg st 0).2.1) (Qf_ st)):=by
 have HN:=Yn_ a hi d st row k R b w hI;rw[h,show(k==k)=τ from beq_self_eq_true k]at HN;refine Qav_ a hi d st row k w hI ?_ HN
 cases st with
 |none=>exact absurd h.symm R
 |some s=>
  refine⟨s,rfl,?_⟩;rcases Nat.lt_or_ge s.at_ (η a.sg) with hl|hl
  ·exact hl
  rw[ZO_ (i:=0) hl]at h;exact absurd h.symm R
end
def RdC.sblk3 {b:Bool} {l:List Nd} {w w1 w3:Ω} (hi:x.imp=φ) (h:RdC x d f b t i l w) (k:Λ w w1) (hg:w1.grownBy w3 (S_ t (η l) i).ownBlock):
  (∃v,w3.cell? ⟨x.T,4,ν⟩=σ v)/\(∀a,w3.frozen? ⟨x.T,a,ν⟩=φ)/\x.T<w3.heap.size:=by
 have g:=h.next k;rw[Q3_]at hg;have c:Blk w3 x.T x.ty (x.cells d f b (S_ t (η l) i)):=g.1.grown hg (λe=>by
  obtain⟨m,j⟩:=Qw_ g.2.1 e.symm;exact Kj_ g.1 j x.ty_node rfl)
 have R:=c;unfold RC.cells at c;rw[in_ (by rw[hi];decide)]at c;exact⟨⟨_,c.cell 4⟩,R.frozen,R.lt⟩
def RC.scells_nodes (hi:x.imp=φ) (a d:Nat) (b:Bool) (u v:Υ):(x.cells a d b u).setIfInBounds 4 v=x.cells a d b v:=by
 unfold RC.cells;rw[in_ (by rw[hi];decide),in_ (by rw[hi];decide)];simp
def QhD_ (hi:a.imp=φ) (d:Nat) (st:RdSt) (row:ON) (x:Nd) (w:Ω) (hI:RdI a d st row w) (z:KidsIn w a.w0.heap.size a.U x) (m:x.blank=φ):
  Δ π 54 #[P_ (σ ⟨a.T,0,ν⟩),I_ j_ x.kind,T_ x.text,S_ x.adr x.cnt x.cap] w (QA_ a d row w (I_ j_ (KP_ st x.pn).1) (KP_ st x.pn).2):=by
 obtain⟨R,b,AN,cN,l,g,v,f⟩:=id hI;obtain⟨c0,c1,c2,c3,c4,cf,cz⟩:=g.cs hi;clear c0 c1 c3 hI;unfold QA_
 cases st with
 |none=>
  obtain rfl:b=τ:=v;rw[Z8_];have p:=h_<|RdI.sbad1 hi g f;clear g z;go_in;go_wp2;go_ret;exact⟨rfl,row,p.o.1,p.o.2⟩
 |some s=>
  obtain⟨rfl,ha,k⟩:=v;have o:η s.nodes=η l:=by rw[k,List.length_map]
  by_cases c:η l=300
  ·rw[vn_ (o.trans c)];have p:=h_<|RdI.sbad1 hi g f;rw[c]at c4;clear g z c o k;go_in;go_wp2;go_ret;exact⟨rfl,row,p.o.1,p.o.2⟩
  rw[vo_ oo,o];have O:=g.2.2.2.1;have I:η l<300:=oo;obtain⟨i0,t,A,B,C⟩:=info_parts Qgl_;have D:=h_ (ai_ t (ai_ A (ai_ B C)));have P:decide ((300:Int)<=(η l:Int))=φ:=(by rw[decide_eq_false_iff_not];omega);have J:¬(300:Int)<=(η l:Int):=oo;have K:(η l:Int)<300:=oo;have L:¬300<=η l:=oo;have HX:=h_ z;have HC:=h_ g;have HP:=h_ (λ(v':Υ) (w3:Ω) h1 h2 h3=>g.push x z I (w1:=w.alloc (C_ #[I_ j_ x.kind,T_ x.text,S_ x.adr x.cnt x.cap,B_ φ] 96)) bra (i:=4) (v':=v') (w3:=w3) h1 h2 h3 (RC.scells_nodes hi _ _ _ _ _));have H3:=h_ (λ(w3:Ω) h=>g.sblk3 hi (w1:=w.alloc (C_ #[I_ j_ x.kind,T_ x.text,S_ x.adr x.cnt x.cap,B_ φ] 96)) (w3:=w3) bra h);have HM:=h_ (Mine.alloc g.2.1 (C_ #[I_ j_ x.kind,T_ x.text,S_ x.adr x.cnt x.cap,B_ φ] 96));have E:=h_ (show a.w0.heap.size<=(w.alloc (C_ #[I_ j_ x.kind,T_ x.text,S_ x.adr x.cnt x.cap,B_ φ] 96)).heap.size by
   have:=g.2.2.2.2.2.1.size;simp only[ws_];omega)
  have HH:=h_ (show s.at_=R/\s.nodes=l.map Nd.pn from⟨ha,k⟩);have HR:=h_ f;have M:=h_<|heap_alloc_new w<|C_ #[I_ j_ x.kind,T_ x.text,S_ x.adr x.cnt x.cap,B_ φ] 96;have N:=h_ (show Qv_ x=[I_ j_ x.kind,T_ x.text,S_ x.adr x.cnt x.cap,B_ φ]by unfold Qv_;rw[m]);have n:=Qgp_ w x 96;rw[m]at n;have G:=h_ n;clear t A B C g z ha k f m n;go_in;go_wp2_with (at_builtin;(refine Qi_ _ rfl (.tmp 28) (.tmp 33) _ rfl a.w0.heap.size 96 i0 (A_ #[I_ j_ 0,T_ ⟨#[]⟩,S_ ν 0 0,B_ φ]) 4 56 underlying57 D.o.1 D.o.2.1 D.o.2.2.1 D.o.2.2.2 rfl dc_ (S_ AN (η l) cN) (η l) (l.flatMap Qv_) rfl HM.o ⟨w.heap.size,0,ν⟩ 1 1 (Qv_ x) rfl rfl G.o (Qgq_ _) mx_ oo E.o ?_);intro v' w6 j e y;obtain⟨⟨v5,j5⟩,jf,jz⟩:=H3.o _ e;obtain⟨A3,c3,rfl,q,r⟩:=HP.o _ _ j e y)
  have F:=h_ q;have H:=h_ r;clear q r j e y;go_wp2;go_ret;refine⟨rfl,_,⟨R,φ,_,_,_,F.o,⟨rfl,HH.o.1,?_⟩,rfl⟩,?_⟩
  ·rw[HH.o.2,List.map_append];rfl
  rw[HR.o];exact H.o
section
variable {R:RC} (U:Nat->Prop) (hi:R.imp=φ) (d:Nat) (st:RdSt) (row:ON)
include hi
def RdC.csu {a:Nat} {b:Bool} {l:List Nd}  (h:RdC { R with U:=U } a d b t f l w):
  w.cell? ⟨R.T,1,ν⟩=σ (I_ j_ a)/\w.cell? ⟨R.T,2,ν⟩=σ (B_ b)/\w.cell? ⟨R.T,3,ν⟩=σ (I_ j_ d)/\(∀i,w.frozen? ⟨R.T,i,ν⟩=φ)/\R.T<w.heap.size:=by
 obtain⟨c0,c1,c2,c3,c4,cf,cz⟩:=RdC.cs (R:={ R with U:=U }) hi h;exact⟨c1,c2,c3,cf,cz⟩
def QiX_ (k:Int) (hk:k≠0) (m:BA) (w:Ω) (hI:RdI { R with U:=U } d st row w):
 Δ π 92 #[P_ (σ ⟨R.T,0,ν⟩),I_ j_ k,T_ m] w (RB_ (B_ (isKm R.sg st k m)) w):=GF_ { R with U:=U } hi d st row k hk m w hI
def X2_ (m:BA) (w:Ω) (hI:RdI { R with U:=U } d st row w):
 Δ π 74 #[P_ (σ ⟨R.T,0,ν⟩),T_ m] w λe w'=>e=R_ (B_ (isM R.sg st m))/\∃row',RdI { R with U:=U } d (zX_ R.sg st m) row' w'/\Kr R.T row w row' w':=JT_ { R with U:=U } hi d st row m w hI
def Ug_ (m:BA) (w:Ω) (hI:RdI { R with U:=U } d st row w):
 Δ π 71 #[P_ (σ ⟨R.T,0,ν⟩),T_ m] w λe w'=>e=R_ (B_ (isW R.sg st m))/\∃row',RdI { R with U:=U } d (qU_ R.sg st m) row' w'/\Kr R.T row w row' w':=Qge_ { R with U:=U } hi d st row m w hI
def Yc_ (m:BA) (w:Ω) (hI:RdI { R with U:=U } d st row w):
 Δ π 73 #[P_ (σ ⟨R.T,0,ν⟩),T_ m] w λe w'=>e=R_ (U_ #[])/\∃row',RdI { R with U:=U } d (Qn_ R.sg st m) row' w'/\Kr R.T row w row' w':=KN_ { R with U:=U } hi d st row m w hI
def YU_ (w:Ω) (hI:RdI { R with U:=U } d st row w):
 Δ π 70 #[P_ (σ ⟨R.T,0,ν⟩),I_ j_ 1] w λe w'=>e=R_ (T_ (nmT R.sg st))/\∃row',RdI { R with U:=U } d (nmS R.sg st) row' w'/\Kr R.T row w row' w':=QeA_ { R with U:=U } hi d st row w hI
def Yu_ (k:Int) (t:BA) (A:OA) (n c:Nat) (ks:LI) (B:Nat) (w:Ω) (hI:RdI { R with U:=U } d st row w) (a:Mine w B 3 1 A n c (Qa_ ks)) (hB:({ R with U:=U }:RC).Lo B):
  Δ π 54 #[P_ (σ ⟨R.T,0,ν⟩),I_ j_ k,T_ t,S_ A n c] w λe w'=>e=R_ (I_ j_ (KP_ st ⟨k,t,ks,φ⟩).1)/\∃row',RdI { R with U:=U } d (KP_ st ⟨k,t,ks,φ⟩).2 row' w'/\Kr R.T row w row' w':=
 QhD_ { R with U:=U } hi d st row ⟨k,t,A,n,c,ks,φ⟩ w hI ⟨⟨v2_ a,λg hg hu=>by have:=(Mine.blk a hg).1;have:=hB.2 g hu;omega⟩,a.more hB.1⟩ rfl
end
def QeU_ (R:RC) (F:FuncId) (d lo:Nat) (one:RdSt->PR):Prop:=
 ∀(U:Nat->Prop) (st:RdSt) (row:ON) (w:Ω),RdI { R with U:=U } d st row w->(∀s,st=σ s->lo<=s.at_)->Δ π F #[P_ (σ ⟨R.T,0,ν⟩)] w λe w'=>e=R_ (I_ j_ (one st).1)/\∃row',RdI { R with U:=U } d (one st).2 row' w'/\Kr R.T row w row' w'
def Jn_ (R:RC) (w:Ω):Nat:=match w.cell? ⟨R.T,2,ν⟩,w.cell? ⟨R.T,1,ν⟩with|some (B_ φ),σ (I_ _ a)=>R.n+1-a.toNat|_,_=>0
def zE_ {U:Nat->Prop} {s:PS}   (hi:x.imp=φ) (h:RdI { x with U:=U } d (σ s) u w):Jn_ x w=x.n+1-s.at_/\s.at_<=x.n:=by
 obtain⟨a,b,AN,cN,l,hc,⟨rfl,rfl,_⟩,_⟩:=h;obtain⟨c1,c2,c3,cf,cz⟩:=hc.csu _ hi;have:s.at_<=x.n:=hc.2.2.2.2.1;unfold Jn_;rw[c2,c1];exact⟨rfl,this⟩
def Qbv_ {U:Nat->Prop} (hi:x.imp=φ) (h:RdI { x with U:=U } d ν u w):Jn_ x w=0:=by
 obtain⟨a,b,AN,cN,l,hc,hb,_⟩:=h;obtain rfl:b=τ:=hb;obtain⟨c1,c2,c3,cf,cz⟩:=hc.csu _ hi;unfold Jn_;rw[c2]
def ZG_ {U U':Nat->Prop} {s:PS}   (hi:x.imp=φ) (h:RdI { x with U:=U } d (σ s) u w)  (h':RdI { x with U:=U' } f y v z)  (k:Adv (i+1) j (σ s) y):Jn_ x z<Jn_ x w:=by
 obtain⟨e1,e2⟩:=zE_ hi h
 cases y with
 |none=>have:=Qbv_ hi h';omega
 |some t=>
  have e4:=zE_ hi h';obtain⟨s',e5,h1,_⟩:=k t rfl;obtain rfl:=oi_ e5;omega
def XB_:Qn_ c ν g=ν:=ZH_
def z5_ (hi:a.imp=φ) (d lo:Nat) (one:RdSt->PR) (HO:Ψ (QeU_ a 93 d lo one)) (h1:∀st,Adv 1 1 st (one st).2) (m:BA) (N:Nat) (st:RdSt) (row row0:ON) (w w0:Ω) (f:LI) (A0:OA) (c0:Nat)
  (hI:RdI (a.res A0) d st row w) (hm:Mine w w0.heap.size 3 1 A0 (η f) c0 (Qa_ f)) (hk:Kr a.T row0 w0 row w) (hB:a.w0.heap.size<=w0.heap.size) (h0:η f<=1) (ae:LoB lo st) (hN:Enough a.n N st):
  Δ π 109 #[P_ (σ ⟨a.T,0,ν⟩),T_ m,S_ A0 (η f) c0] w λe w'=>∃(A:OA) (n c:Nat),e=R_ (S_ A n c)/\n=η f+(QG_ a.sg one m N [] st).1.length/\Mine w' w0.heap.size 3 1 A n c (Qa_ (f++(QG_ a.sg one m N [] st).1))/\(QG_ a.sg one m N [] st).1.length<=301/\∃row',RdI (a.res A) d (Qn_ a.sg (QG_ a.sg one m N [] st).2 m) row' w'/\Kr a.T row0 w0 row' w':=by
 obtain⟨i0,aq,ar,av,ag⟩:=info_parts QY_;have H:=h_<|ai_ aq<|ai_ ar<|ai_ av ag;have q:=h_ hI;have HM:=h_ hm;have HK:=h_ hk;have B:=h_ ae;have HN:=h_ hN;have HA:=h_ h1;obtain⟨Q,hQ⟩:=ex_ (QG_ a.sg one m N [] st);rw[hQ];have j:=h_ hQ;obtain⟨T,hT⟩:=ex_ (Qn_ a.sg Q.2 m);rw[hT];have HT:=h_ hT;go_in;go_wp2;go_loopw [2] (λv wr=>∃(M:Nat) (ks:LI) (st':RdSt) (row':ON) (A:OA) (n c:Nat),v=S_ A n c/\Ψ (n=η f+η ks)/\Ψ (QG_ a.sg one m M ks st'=Q)/\Ψ (LoB lo st')/\Ψ (Enough a.n M st')/\Ψ (KidB ks st')/\Ψ (Mine wr w0.heap.size 3 1 A n c (Qa_ (f++ks)))/\Ψ (RdI (a.res A) d st' row' wr)/\Ψ (Kr a.T row0 w0 row' wr)) (λ_ wr=>Jn_ a wr)
 ·exact⟨N,[],st,row,A0,η f,c0,rfl,(show η f=η f+0 from rfl),j,B,HN,⟨by simp,λs _=>by simp⟩,by rw[List.append_nil];exact HM,q,HK⟩
 obtain⟨M,ks,st',row',A,n,c,rfl,HL,j,B,HN,K,HM,q,HK⟩:=hrel
 cases st' with
 |none=>
  obtain⟨R,b,AN,cN,l,hc,hb,D⟩:=q.o;obtain⟨c1,c2,c3,cf,cz⟩:=hc.csu _ hi;obtain rfl:b=τ:=hb;have i:=j.o;rw[VF_]at i;subst i;have ht:=HT.o;rw[XB_]at ht;subst ht;go_wp2;go_ret;exact⟨A,n,c,rfl,HL.o,HM.o,K.o.1,row',q.o,HK.o⟩
 |some s=>
  obtain⟨M,rfl⟩:∃M',M=M'+1:=⟨M-1,by
   have h1:=HN.o s rfl;have h2:=(q.o.le rfl).1;have:(a.res A).n=a.n:=rfl;omega⟩
  obtain⟨R,b,AN,cN,l,hc,hb,D⟩:=q.o;obtain⟨c1,c2,c3,cf,cz⟩:=hc.csu _ hi;obtain⟨rfl,_,_⟩:=hb;have y:=h_<|X2_ _ hi d (σ s) row' m wr q.o;have i:=j.o;unfold QG_ at i;rw[in_ (show ¬(σ s).isNone=τ by simp)]at i;rcases bft (isM a.sg (σ s) m)with h|h
  ·rw[ip_ h]at i;subst i;rw[h,Qy_ h]at y;have ht:=HT.o;rw[show Qn_ a.sg (ks,σ s).2 m=Qf_ (σ s)from Zr_ h]at ht;subst ht;go_wp2_with fail;refine mb_ y.o ?_;rintro w2 ⟨row2,h2,k2⟩;have L:=h_<|q.o.keepI k2 HM.o;have z:=h_<|HK.o.trans k2;go_wp2;go_ret;exact⟨A,n,c,rfl,HL.o,L.o,K.o.1,row2,h2,z.o⟩
  rw[in_ (by rw[h];decide)]at i;rw[h,QD_ h]at y;have j:=h_ i;go_wp2_with fail;refine mb_ y.o ?_;rintro w2 ⟨row2,h2,k2⟩;have L:=h_ (q.o.keepI k2 HM.o);have z:=h_ (HK.o.trans k2);have G:=h_ h2;have ag:=z.o.size;have HC:=h_ (HO.o _ (σ s) row2 w2 G.o B.o);have aQ:=K.o.2 s rfl;have aS:=(G.o.le rfl).2;have o:=HA.o (σ s);have X:Ψ (LoB lo (one (σ s)).2):=B.o.adv o;have Y:Ψ (Enough a.n M (one (σ s)).2):=HN.o.adv o;have F:Ψ (KidB (ks++[(one (σ s)).1]) (one (σ s)).2):=(show KidB _ _ from⟨by rw[lA];simp;omega,λt e=>by
   obtain⟨s',e2,_,h3⟩:=o t e;obtain rfl:=oi_ e2;rw[lA];simp;omega⟩)
  have V:=h_ o;generalize one (σ s)=r at HC j X Y F V;obtain⟨k,st2⟩:=r;dsimp only at HC j X Y F V;go_wp2_with fail;refine mb_ HC.o ?_;rintro w3 ⟨ax,h3,k3⟩;have O:=h_<|G.o.keepI k3 L.o;have Z:=h_ h3;have ab:=h_<|z.o.trans k3;have aT:=ab.o.size;have ae:=Z.o.lo.1;have ak:Ψ (n+1=η f+(ks++[k]).length):=(show _=_ by rw[lA,HL.o];simp;omega);have aR:n<=302:=(by have:=K.o.1;have:=HL.o;omega);have aC:Ψ (a.w0.heap.size<=w0.heap.size):=(show a.w0.heap.size<=w0.heap.size from hB);go_wp2_with (at_builtin;(refine Qi_ _ rfl (.tmp 18) (.tmp 21) _ rfl w0.heap.size 3 i0 (I_ j_ 0) 1 8 underlying83 H.o.1 H.o.2.1 H.o.2.2.1 H.o.2.2.2 rfl dc_ (S_ A n c) n (Qa_ (f++ks)) rfl (Mine.alloc O.o _) ⟨w3.heap.size,0,ν⟩ 1 1 [I_ j_ k] rfl rfl (K8_ _ k _) (K9_ _) mx_ oo so_ ?_);intro v' w4 C ad U;obtain⟨A4,am,rfl,h4,m4⟩:=RdI.appended Z.o O.o aC.o bra C ad U)
  have I:=h_<|(ab.o.below bra).grown ad (λg hg=>by rw[Q3_]at hg;exact(Mine.blk O.o hg).1);rw[<-Ke_,List.append_assoc]at m4;have x:=h_ h4;have P:=h_ m4;have HS:=h_<|X2_ _ hi d st2 ax ⟨#[44]⟩ w4 x.o;rcases bft (isM a.sg st2 ⟨#[44]⟩)with h|h
  ·rw[h,Qy_ h]at HS;have i:=j.o;rw[ip_ h]at i;have aG:=h_ i;go_wp2_with fail;refine mb_ HS.o ?_;rintro w5 ⟨E,h5,k5⟩;have S:=h_<|x.o.keepI k5 P.o;have p:=h_ h5;have J:=h_<|I.o.trans k5;go_wp2;go_roundw
   ·exact⟨M,ks++[k],Qf_ st2,E,A4,n+1,am,rfl,ak,aG,X.o.adv (Qh_ _),Y.o.mono (Qh_ _),F.o.mono (Qh_ _),S,p,J⟩
   exact ZG_ hi q.o p.o<|(V.o.trans (Qh_ st2)).weak (i':=1) (j':=0) oo oo
  rw[h,QD_ h]at HS;have i:=j.o;rw[in_ (by rw[h];decide)]at i;subst i;have ht:=HT.o;subst ht;go_wp2_with fail;refine mb_ HS.o ?_;rintro w5 ⟨E,h5,k5⟩;have S:=h_<|x.o.keepI k5 P.o;have p:=h_ h5;have J:=h_<|I.o.trans k5;go_wp2_with fail
  refine mb_ (Yc_ _ hi d st2 E m w5 p.o) ?_;rintro w6 ⟨ay,h6,k6⟩;have aF:=h_<|p.o.keepI k6 S.o;have aD:=h_ h6;have aE:=h_<|J.o.trans k6;go_wp2;go_ret;exact⟨A4,n+1,am,rfl,by have:=ak.o;simp at this;omega,aF.o,by have:=F.o.1;simp at this;omega,ay,aD.o,aE.o⟩
def Y3_ (w:Ω):Mine (w.alloc (C_ #[] 3)) w.heap.size 3 1 (σ ⟨w.heap.size,0,ν⟩) 0 0 (Qa_ []):=jO_ w [] sm_
def Wn_ (hi:a.imp=φ) (d:Nat) (N:Nat) (st:RdSt) (row:ON) (w:Ω) (hI:RdI a d st row w) (hN:a.n<N):
  Δ π 75 #[P_ (σ ⟨a.T,0,ν⟩)] w λe w'=>∃(A:OA) (n c:Nat),e=R_ (S_ A n c)/\n=(QG_ a.sg (Qj_ a.sg) ⟨#[41]⟩ N [] (Qn_ a.sg st ⟨#[40]⟩)).1.length/\Mine w' w.heap.size 3 1 A n c (Qa_ (QG_ a.sg (Qj_ a.sg) ⟨#[41]⟩ N [] (Qn_ a.sg st ⟨#[40]⟩)).1)/\(QG_ a.sg (Qj_ a.sg) ⟨#[41]⟩ N [] (Qn_ a.sg st ⟨#[40]⟩)).1.length<=301/\∃row',RdI (a.res A) d (Qn_ a.sg (QG_ a.sg (Qj_ a.sg) ⟨#[41]⟩ N [] (Qn_ a.sg st ⟨#[40]⟩)).2 ⟨#[41]⟩) row' w'/\Kr a.T row w row' w':=by
 obtain⟨i0,aA,aC,aD,ab⟩:=info_parts QY_;have E:=h_<|ai_ aA<|ai_ aC<|ai_ aD ab;have ag:=h_ hI;have aB:=hI.lo.1;have HA:=h_ (λst=>QT_ (sg:=a.sg) st);obtain⟨Q,hQ⟩:=ex_ (QG_ a.sg (Qj_ a.sg) ⟨#[41]⟩ N [] (Qn_ a.sg st ⟨#[40]⟩));rw[hQ];have i:=h_ hQ;obtain⟨T,hT⟩:=ex_ (Qn_ a.sg Q.2 ⟨#[41]⟩);rw[hT];have HT:=h_ hT;go_in;go_wp2_with fail
 have ap:=h_<|Y3_ w;have U:=h_<|ag.o.res_new (A:=σ ⟨w.heap.size,0,ν⟩) (br.alloc (lr_ _) (C_ #[] 3)) (λg hg=>by simp at hg;subst hg;simp);refine mb_ (Yc_ _ hi d st row ⟨#[40]⟩ _ U.o) ?_;rintro w1 ⟨aE,h1,k1⟩;have am:=h_<|U.o.keepI k1 ap.o;have ah:=h_ h1;have ai:=h_<|(Kr.of_below (T:=a.T) (row:=row) ((Below.refl w.heap.size w).alloc (lr_ _) (C_ #[] 3))).trans k1;have ao:=i;go_wp2;go_loopw [3] (λv wr=>∃(M:Nat) (ks:LI) (st':RdSt) (row':ON) (A:OA) (n c:Nat),v=S_ A n c/\Ψ (n=η ks)/\Ψ (QG_ a.sg (Qj_ a.sg) ⟨#[41]⟩ M ks st'=Q)/\Ψ (Enough a.n M st')/\Ψ (KidB ks st')/\Ψ (Mine wr w.heap.size 3 1 A n c (Qa_ ks))/\Ψ (RdI (a.res A) d st' row' wr)/\Ψ (Kr a.T row w row' wr)) (λ_ wr=>Jn_ a wr)
 ·exact⟨N,[],Qn_ a.sg st ⟨#[40]⟩,aE,_,0,0,rfl,(show 0=0 from rfl),ao,(show Enough _ _ _ from QP_ hN _),⟨by simp,λs _=>by simp⟩,am,ah,ai⟩
 obtain⟨M,ks,st',row',A,n,c,rfl,HL,i,HN,G,HM,K,HK⟩:=hrel
 cases st' with
 |none=>
  obtain⟨R,b,AN,cN,l,hc,hb,y⟩:=K.o;obtain⟨c1,c2,c3,cf,cz⟩:=hc.csu _ hi;obtain rfl:b=τ:=hb;have h:=i.o;rw[VF_]at h;subst h;have ht:=HT.o;rw[XB_]at ht;subst ht;go_wp2;go_ret;exact⟨A,n,c,rfl,HL.o,HM.o,G.o.1,row',K.o,HK.o⟩
 |some s=>
  obtain⟨M,rfl⟩:∃M',M=M'+1:=⟨M-1,by
   have h1:=HN.o s rfl;have h2:=(K.o.le rfl).1;have:(a.res A).n=a.n:=rfl;omega⟩
  obtain⟨R,b,AN,cN,l,hc,hb,y⟩:=K.o;obtain⟨c1,c2,c3,cf,cz⟩:=hc.csu _ hi;obtain⟨rfl,_,_⟩:=hb;have o:=h_<|X2_ _ hi d (σ s) row' ⟨#[41]⟩ wr K.o;have h:=i.o;unfold QG_ at h;rw[in_ (show ¬(σ s).isNone=τ by simp)]at h;rcases bft (isM a.sg (σ s) ⟨#[41]⟩)with f|f
  ·rw[ip_ f]at h;subst h;rw[f,Qy_ f]at o;have ht:=HT.o;rw[show Qn_ a.sg (ks,σ s).2 ⟨#[41]⟩=Qf_ (σ s)from Zr_ f]at ht;subst ht;go_wp2_with fail;refine mb_ o.o ?_;rintro w2 ⟨row2,h2,k2⟩;have H:=h_<|K.o.keepI k2 HM.o;have p:=h_<|HK.o.trans k2;go_wp2;go_ret;exact⟨A,n,c,rfl,HL.o,H.o,G.o.1,row2,h2,p.o⟩
  rw[in_ (by rw[f];decide)]at h;rw[f,QD_ f]at o;have i:=h_ h;go_wp2_with fail;refine mb_ o.o ?_;rintro w2 ⟨row2,h2,k2⟩;have H:=h_ (K.o.keepI k2 HM.o);have p:=h_ (HK.o.trans k2);have C:=h_ h2;have ab:=p.o.size;have HC:=h_ (YU_ _ hi d (σ s) row2 w2 C.o);have a5:=G.o.2 s rfl;have a8:=(C.o.le rfl).2;have q:=HA.o (σ s);have P:Ψ (Enough a.n M (Qj_ a.sg (σ s)).2):=HN.o.adv q;have B:Ψ (KidB (ks++[(Qj_ a.sg (σ s)).1]) (Qj_ a.sg (σ s)).2):=(show KidB _ _ from⟨by rw[lA];simp;omega,λt e=>by
   obtain⟨s',e2,_,h3⟩:=q t e;obtain rfl:=oi_ e2;rw[lA];simp;omega⟩)
  have O:=h_ q;have HE:=h_<|Jo_ (sg:=a.sg)<|some s;generalize Qj_ a.sg (σ s)=r at i P B O HE;obtain⟨k,st2⟩:=r;dsimp only at i P B O;generalize nmT a.sg (σ s)=tx at HC HE;generalize nmS a.sg (σ s)=a4 at HC HE;go_wp2_with fail
  refine mb_ HC.o ?_;rintro w3 ⟨aF,h3,k3⟩;have an:=h_<|C.o.keepI k3 H.o;have D:=h_ h3;have aj:=h_<|p.o.trans k3;have al:=h_ D.o.lo;have HP:=h_<|Yu_ _ hi d a4 aF 1 tx _ 0 0 [] w3.heap.size (w3.alloc (C_ #[] 3)) (D.o.next bra) (Y3_ w3) al.o;rw[HE.o]at HP;dsimp only at HP;go_wp2_with fail
  refine mb_ HP.o ?_;rintro w4 ⟨aG,h4,k4⟩;have I:=VE_ D k4 an;have V:=QS_ aj k4;have S:=h_ h4;have a9:=V.o.size;have a7:=S.o.lo.1;have ak:Ψ (n+1=(ks++[k]).length):=(show _=_ by rw[lA,HL.o];simp);have a6:n<=302:=(by have:=G.o.1;have:=HL.o;omega);have aO:Ψ (a.w0.heap.size<=w.heap.size):=(show a.w0.heap.size<=w.heap.size from aB);go_wp2_with (at_builtin;(refine Qi_ _ rfl (.tmp 17) (.tmp 23) _ rfl w.heap.size 3 i0 (I_ j_ 0) 1 8 underlying83 E.o.1 E.o.2.1 E.o.2.2.1 E.o.2.2.2 rfl dc_ (S_ A n c) n (Qa_ ks) rfl (Mine.alloc I.o _) ⟨w4.heap.size,0,ν⟩ 1 1 [I_ j_ k] rfl rfl (K8_ _ k _) (K9_ _) mx_ oo so_ ?_);intro v' w5 x Z L;obtain⟨A4,aq,rfl,h4,m4⟩:=RdI.appended S.o I.o aO.o bra x Z L);have F:=h_<|(V.o.below bra).grown Z (λg hg=>by rw[Q3_]at hg;exact(Mine.blk I.o hg).1);rw[<-Ke_]at m4;have j:=h_ h4;have J:=h_ m4;have HS:=h_<|X2_ _ hi d st2 aG ⟨#[44]⟩ w5 j.o;rcases bft (isM a.sg st2 ⟨#[44]⟩)with f|f
  ·rw[f,Qy_ f]at HS;have h:=i.o;rw[ip_ f]at h;have aR:=h_ h;go_wp2_with fail;refine mb_ HS.o ?_;rintro w6 ⟨z,h6,k6⟩;have Y:=h_<|j.o.keepI k6 J.o;have m:=h_ h6;have X:=h_<|F.o.trans k6;go_wp2;go_roundw
   ·exact⟨M,ks++[k],Qf_ st2,z,A4,n+1,aq,rfl,ak,aR,P.o.mono (Qh_ _),B.o.mono (Qh_ _),Y,m,X⟩
   exact ZG_ hi K.o m.o<|(O.o.trans (Qh_ st2)).weak (i':=1) (j':=0) oo oo
  rw[f,QD_ f]at HS;have h:=i.o;rw[in_ (by rw[f];decide)]at h;subst h;have ht:=HT.o;subst ht;go_wp2_with fail;refine mb_ HS.o ?_;rintro w6 ⟨z,h6,k6⟩;have Y:=h_<|j.o.keepI k6 J.o;have m:=h_ h6;have X:=h_<|F.o.trans k6;go_wp2_with fail
  refine mb_ (Yc_ _ hi d st2 z ⟨#[41]⟩ w6 m.o) ?_;rintro w7 ⟨aH,h7,k7⟩;have aQ:=h_<|m.o.keepI k7 Y.o;have aP:=h_<|X.o.trans k7;go_wp2;go_ret;exact⟨A4,n+1,aq,rfl,by have:=ak.o;simp at this;omega,aQ.o,by have:=B.o.1;simp at this;omega,aH,h7,aP.o⟩
def kf_ {x y:SgP} (hx:s[d]? =σ x) (hy:s[d+1]? =σ y):JC_ s d=((x.2.1.toList==[41])&&(x.1==4)&&(y.2.1.toList==[61,62])&&(y.1==4)):=by
 have h:d+1<η s:=(gs_.1 hy).1;unfold JC_;rw[hx,hy,dt_ h,τb]
 rfl
def Gh_ (h:¬d+1<η s):JC_ s d=φ:=by
 unfold JC_;rw[df_ h]
 rfl
def Qe6_ (h:¬f+1<η s):kg_ s d f=φ:=by
 cases d with
 |zero=>exact Gh_ h
 |succ d=>unfold kg_;rw[in_ (λe=>h e.1)];exact Gh_ h
def Qe5_ {sg:PS} (h:isM s (σ sg) ⟨#[40]⟩=τ):x7_ s (σ sg)=kg_ s (η s+1) (sg.at_+1):=by
 unfold x7_;rw[h,τb]
def QgJ_ (h:isM s y ⟨#[40]⟩=φ):x7_ s y=φ:=by
 unfold x7_;rw[h,φa]
def Qcs_ (hi:a.imp=φ) (d:Nat) (st:RdSt) (row:ON) (w:Ω) (L:RdI a d st row w):
  Δ π 255 #[P_ (σ ⟨a.T,0,ν⟩)] w (RB_ (B_ (x7_ a.sg st)) w):=by
 have M:=h_<|GF_ a hi d st row 4 dc_ ⟨#[40]⟩ w L;rw[JO_]at M;obtain⟨R,b,AN,cN,l,hc,H,q⟩:=id L;obtain⟨c0,c1,c2,c3,V,cf,cz⟩:=hc.cs hi;have HI:=h_ L;rcases bft (isM a.sg st ⟨#[40]⟩)with p|p
 ·rw[p]at M;obtain⟨s,rfl,ad⟩:=Xe_ p;rw[Qe5_ p];have ae:s.at_=R:=H.2.1;have S:=L.ok;have P:=S.len;have ay:=S.most;rw[ae];rw[P];obtain⟨Q,hQ⟩:=ex_ (kg_ a.sg (a.n+1) (R+1));rw[hQ];have t:=h_ hQ;have ax:R<a.n:=oo;go_in;go_wp2_with fail;refine mb_ M.o ?_;intro w1 K;go_wp2;go_loopw [3] (λv wr=>∃(f j:Nat),v=I_ j_ j/\Ψ (kg_ a.sg f j=Q)/\Ψ (a.n<f+j)/\j<=a.n+1/\Λ w wr) (λv wr=>a.n+2-(intOf v).toNat)
  ·exact⟨a.n+1,R+1,by go_num,t,(show a.n<a.n+1+(R+1)from oo),oo,K⟩
  obtain⟨f,j,rfl,t,J,hj,m⟩:=hrel;have D:=HI.o.next m;have g:=D.old;have i:=D.ok;obtain⟨a1,b1,an,ao,l1,O,T,G⟩:=D;obtain⟨c0,c1,c2,c3,V,cf,cz⟩:=O.cs hi;have aA:IntKind.i64.wrap ((j:Int)+1)=(j:Int)+1:=IntWalk.i64_in _ oo;rcases Nat.lt_or_ge (j+1) a.n with ad|ap
  ·obtain⟨x,I⟩:∃x,a.sg[j]? =σ x:=⟨_,gE oo⟩;obtain⟨y,r⟩:∃y,a.sg[j+1]? =σ y:=⟨_,gE oo⟩;obtain⟨b2,off,hA,ai,e0,e1,e2,e3⟩:=Yv_ (i.rd.below g) (show j<a.n from oo) I;obtain⟨b3,al,B,h,g0,K,g2,g3⟩:=Yv_ (i.rd.below g) (show j+1<a.n from oo) r;rw[hA]at B;simp only[Option.some.injEq,Addr.mk.injEq,and_true]at B;obtain⟨rfl,rfl⟩:=B;rw[hA]at c0;have ar:(j:Int)+1<(a.n:Int):=oo;have aq:(j:Int)<(a.n:Int):=oo;have ht:((j:Int)+1).toNat=j+1:=oo;have k:=kf_ I r;obtain⟨f,rfl⟩:∃f',f=f'+1:=⟨f-1,by have:=J.o;omega⟩;have c:=t.o;unfold kg_ at c;rw[I,r]at c;simp only[Option.getD_some]at c;obtain⟨xk,xt,xp,xz⟩:=x;obtain⟨yk,U,yp,yz⟩:=y;dsimp only at e0 e1 g0 K c k;rcases bft (xk==1)with h1|h1
   ·obtain rfl:xk=1:=eq_of_beq h1;rw[ip_ ⟨oo,rfl⟩]at c;rcases bft (U.toList==[44])with N|N
    ·rw[ip_ N]at c;have Z:(U.toList != [44])=φ:=(by rw[bne,N];rfl);have Y:=h_ c;have X:Ψ (a.n<f+(j+2)):=(show a.n<f+(j+2)by have:=J.o;omega);have af:IntKind.i64.wrap ((j:Int)+1+1)=(j:Int)+1+1:=IntWalk.i64_in _ oo;go_wp2;exact⟨⟨f,j+2,by go_num,Y,X,oo,m⟩,ms_⟩
    have Z:(U.toList != [44])=τ:=(by rw[bne,N];rfl);rw[in_ (by rw[N];decide)]at c;have af:IntKind.i64.wrap ((j:Int)+1+1)=(j:Int)+1+1:=IntWalk.i64_in _ oo;rcases Nat.lt_or_ge (j+2) a.n with ak|aj
    ·obtain⟨z,hz⟩:∃z,a.sg[j+1+1]? =σ z:=⟨_,gE oo⟩;obtain⟨b4,am,C,E,u0,u1,u2,u3⟩:=Yv_ (HI.o.ok.rd.below g) (show j+1+1<a.n from oo) hz;rw[hA]at C;simp only[Option.some.injEq,Addr.mk.injEq,and_true]at C;obtain⟨rfl,rfl⟩:=C;rw[kf_ r hz]at c;obtain⟨zk,zt,zp,zz⟩:=z;dsimp only at u0 u1 c;have av:(j:Int)+1+1<(a.n:Int):=oo;have az:((j:Int)+1+1).toNat=j+1+1:=oo;rcases bft (U.toList==[41])with n|n
     ·rcases bft (yk==4)with o|o
      ·rcases bft (zt.toList==[61,62])with A|A
       ·simp only[n,o,A,τb,τc,φa,φb]at c;subst c;go_wp2;go_ret;exact⟨rfl,m⟩
       simp only[n,o,A,τb,τc,φa,φb]at c;subst c;go_wp2;go_ret;exact⟨rfl,m⟩
      simp only[n,o,τb,τc,φa,φb]at c;subst c;go_wp2;go_ret;exact⟨rfl,m⟩
     simp only[n,τb,τc,φa,φb]at c;subst c;go_wp2;go_ret;exact⟨rfl,m⟩
    rw[Gh_ oo]at c;subst c;have F:¬(j:Int)+1+1<(a.n:Int):=oo;have ac:decide ((j:Int)+1+1<(a.n:Int))=φ:=df_ F;go_wp2;go_ret;exact⟨rfl,m⟩
   rw[in_ (λe=>by rw[e.2]at h1;exact absurd h1 dc_),k]at c;rcases bft (xt.toList==[41])with n|n
   ·rcases bft (xk==4)with o|o
    ·rcases bft (U.toList==[61,62])with A|A
     ·simp only[n,o,A,τb,τc,φa,φb]at c;subst c;go_wp2;go_ret;exact⟨rfl,m⟩
     simp only[n,o,A,τb,τc,φa,φb]at c;subst c;go_wp2;go_ret;exact⟨rfl,m⟩
    simp only[n,o,τb,τc,φa,φb]at c;subst c;go_wp2;go_ret;exact⟨rfl,m⟩
   simp only[n,τb,τc,φa,φb]at c;subst c;go_wp2;go_ret;exact⟨rfl,m⟩
  have c:=t.o;rw[Qe6_ oo]at c;subst c;have F:¬(j:Int)+1<(a.n:Int):=oo;have ac:decide ((j:Int)+1<(a.n:Int))=φ:=df_ F;go_wp2;go_ret;exact⟨rfl,m⟩
 rw[p]at M;rw[QgJ_ p];go_in;go_wp2_with fail;refine mb_ M.o ?_;intro w1 K;go_wp2;go_ret;exact⟨rfl,K⟩
def Deep (d:Nat) (st:RdSt):Prop:=∀s,st=σ s->d<=20
def Deep.adv {d i j:Nat} {st st':RdSt} (h:Deep d st) (k:Adv i j st st'):Deep d st':=λt e=>by
 obtain⟨s,e2,_,_⟩:=k t e;exact h s e2
def Deep.nest (h:Deep d y):Deep (d+1) (KI_ d y):=λt e=>by
 unfold KI_ at e;by_cases a:d=20
 ·rw[ip_ a]at e;cases e
 rw[in_ a]at e;have:=h t e;omega
abbrev PosS (R:RC) (U:Nat->Prop) (d:Nat) (row:ON) (w:Ω) (r:PR) (e:Ending) (w':Ω):Prop:=
 e=R_ (I_ j_ r.1)/\∃row',RdI { R with U:=U } d r.2 row' w'/\Kr R.T row w row' w'
structure SC (R:RC) (N f:Nat):Prop where
 value:∀(U:Nat->Prop) (d:Nat) (st:RdSt) (row:ON) (w:Ω),RdI { R with U:=U } d st row w->Need R.n st 11 f->d+f<=100000->Deep d st->Δ π 93 #[P_ (σ ⟨R.T,0,ν⟩)] w (PosS R U d row w (Qd_ R.sg N f .value d st))
 pick:∀(U:Nat->Prop) (d:Nat) (st:RdSt) (row:ON) (w:Ω),RdI { R with U:=U } d st row w->Need R.n st 10 f->d+f<=100000->Deep d st->Δ π 108 #[P_ (σ ⟨R.T,0,ν⟩)] w (PosS R U d row w (Qd_ R.sg N f .pick d st))
 chain:∀(U:Nat->Prop) (l d:Nat) (st:RdSt) (row:ON) (w:Ω),RdI { R with U:=U } d st row w->l<=6->Need R.n st (9-l) f->d+f<=100000->Deep d st->Δ π 128 #[P_ (σ ⟨R.T,0,ν⟩),I_ j_ l] w (PosS R U d row w (Qd_ R.sg N f (.chain l) d st))
 end_:∀(U:Nat->Prop) (d:Nat) (st:RdSt) (row:ON) (w:Ω),RdI { R with U:=U } d st row w->Need R.n st 2 f->d+f<=100000->Deep d st->Δ π 181 #[P_ (σ ⟨R.T,0,ν⟩)] w (PosS R U d row w (Qd_ R.sg N f .end_ d st))
 base:∀(U:Nat->Prop) (d:Nat) (st:RdSt) (row:ON) (w:Ω),RdI { R with U:=U } d st row w->Need R.n st 1 f->d+f<=100000->Deep d st->Δ π 228 #[P_ (σ ⟨R.T,0,ν⟩)] w (PosS R U d row w (Qd_ R.sg N f .base d st))
 step:∀(U:Nat->Prop) (d:Nat) (st:RdSt) (row:ON) (w:Ω),RdI { R with U:=U } d st row w->Need R.n st 12 f->d+f<=100000->Deep d st->Δ π 94 #[P_ (σ ⟨R.T,0,ν⟩)] w (PosS R U d row w (Qd_ R.sg N f (.stmt φ) d st))
 block:∀(U:Nat->Prop) (d:Nat) (st:RdSt) (row:ON) (w:Ω),RdI { R with U:=U } d st row w->Need R.n st 13 f->d+f<=100000->Deep d st->Δ π 76 #[P_ (σ ⟨R.T,0,ν⟩)] w (PosS R U d row w (Qd_ R.sg N f .block d st))
def SC.one {R:RC} {N f:Nat} (h:SC R N f) {d r:Nat} (hd:d+f<=100000) {s:PS} (hn:Need R.n (σ s) r (f+1)) (c:s.at_<R.n) (a:d<=20):QeU_ R 93 d (s.at_+1) (Qd_ R.sg N f .value d):=
 λU st row w hI b=>h.value U d st row w hI (by
  have h2:=hn.2 s rfl;refine⟨oo,λt e=>?_⟩;have:=b t e;have:R.n-t.at_<=R.n-s.at_-1:=oo;omega) hd (λ_ _=>a)
def Jp_ {R:RC} {U:Nat->Prop} {d:Nat} {st:RdSt} {row:ON} {w:Ω} (hi:R.imp=φ) (h:RdI { R with U:=U } (d+1) st row w):
  w.cell? ⟨R.T,3,ν⟩=σ (I_ j_ ((d:Int)+1))/\(∀i,w.frozen? ⟨R.T,i,ν⟩=φ)/\R.T<w.heap.size/\RdI { R with U:=U } d st row (w.setCell ⟨R.T,3,ν⟩ (I_ j_ d))/\Kr R.T row w row (w.setCell ⟨R.T,3,ν⟩ (I_ j_ d)):=by
 obtain⟨a,b,AN,cN,l,hc,hst,hrow⟩:=h;obtain⟨c1,c2,c3,cf,cz⟩:=hc.csu _ hi;have hF:=RdI.snest1 (R:={ R with U:=U }) hi hc hst hrow (u:=(d:Int)) (d':=d) rfl;exact⟨by rw[c3];simp,cf,cz,hF.1,hF.2⟩
def Qhr_ {s:PS} (hi:x.imp=φ) (h:RdI x d (σ s) u w) (hd:d<20):
  RdI x (d+1) (KI_ d (σ s)) u (w.setCell ⟨x.T,3,ν⟩ (I_ j_ ((d:Int)+1)))/\Kr x.T u w u (w.setCell ⟨x.T,3,ν⟩ (I_ j_ ((d:Int)+1))):=by
 obtain⟨a,b,AN,cN,l,hc,e,c⟩:=h;unfold KI_;rw[in_ oo];exact RdI.snest1 hi hc e c oo
def QfH_ {R:RC} {st:RdSt} {row:ON} {w:Ω} (hi:R.imp=φ) (h:RdI R 20 st row w):
  RdI R 21 ν row ((w.setCell ⟨R.T,3,ν⟩ (I_ j_ 21)).setCell ⟨R.T,2,ν⟩ (B_ τ))/\Kr R.T row w row ((w.setCell ⟨R.T,3,ν⟩ (I_ j_ 21)).setCell ⟨R.T,2,ν⟩ (B_ τ)):=by
 obtain⟨a,b,AN,cN,l,hc,f,d⟩:=h;have hF:=RdI.snest1 hi hc f d (u:=21) (d':=21) (by rfl);obtain⟨a',b',i,j,l',e,g,c⟩:=hF.1;have hG:=RdI.sbad1 hi e c;exact⟨hG.1,hF.2.trans hG.2⟩
def Qb5_ (hi:a.imp=φ) (N f:Nat) (HE:SC a N f) (d:Nat) (st:RdSt) (row:ON) (w:Ω) (Q:RdI a d st row w) (hn:Need a.n st 10 (f+1)) (hd:d+(f+1)<=100000) (D:Deep d st):
  Δ π 108 #[P_ (σ ⟨a.T,0,ν⟩)] w (PosS a a.U d row w (Vq_ a.sg (Qd_ a.sg N f) d st)):=by
 have aq:=h_ Q;have az:=h_<|Kr.refl a.T row w;unfold PosS
 cases st with
 |none=>
  have hz:Vq_ a.sg (Qd_ a.sg N f) d ν=(0,ν):=GI_ (N:=N) (λm d=>Xy_ f m d) .pick d;rw[hz];obtain⟨R,b,AN,cN,l,hc,hb,F⟩:=Q;obtain⟨c0,c1,c2,c3,c4,V,X⟩:=hc.cs hi;obtain rfl:b=τ:=hb;go_in;go_wp2;go_ret;exact⟨rfl,row,aq.o,az.o⟩
 |some s=>
  have ac:=hn.same (r':=9) oo<|Xq_ d<|some s;have HC:=h_ (λ(row:ON) (W:Ω) (h:RdI a (d+1) (KI_ d (σ s)) row W)=>HE.chain a.U 0 (d+1) (KI_ d (σ s)) row W h oo ac oo D.nest);have g:=(Xq_ d (σ s)).trans (QB_ (sg:=a.sg) (N:=N) f (.chain 0) (d+1) (KI_ d (σ s)));have j:=QB_ (sg:=a.sg) (N:=N) f (.chain 0) (d+1)<|KI_ d<|some s;have aa:=D.nest;have ai:∀(d':Nat) (row:ON) (W:Ω) (t:PS),RdI a d' (σ t) row W->t.at_<=a.n:=λd' row W t h=>(h.le rfl).1
  have S:=Q.ok.len;have aN:=D s rfl;obtain⟨R,b,AN,cN,l,hc,hb,F⟩:=id Q;obtain⟨c0,c1,c2,c3,c4,V,X⟩:=hc.cs hi;obtain⟨rfl,_,_⟩:=hb
  -- the reader one deeper
  have z:Ψ ((d<20->RdI a (d+1) (KI_ d (σ s)) row (w.setCell ⟨a.T,3,ν⟩ (I_ j_ ((d:Int)+1)))/\Kr a.T row w row (w.setCell ⟨a.T,3,ν⟩ (I_ j_ ((d:Int)+1))))/\(d=20->RdI a 21 ν row ((w.setCell ⟨a.T,3,ν⟩ (I_ j_ 21)).setCell ⟨a.T,2,ν⟩ (B_ τ))/\Kr a.T row w row ((w.setCell ⟨a.T,3,ν⟩ (I_ j_ 21)).setCell ⟨a.T,2,ν⟩ (B_ τ)))):=
   (show _/\_ from⟨λh=>Qhr_ hi Q h,λh=>by subst h;exact QfH_ hi Q⟩)
  have x:d=20->KI_ d (σ s)=ν:=λe=>ip_ e
  unfold PosS at HC;unfold Vq_;dsimp only;generalize Y:KI_ d (σ s)=aL at *;generalize Qd_ a.sg N f (.chain 0) (d+1) aL=r at HC g j |-
  obtain⟨k0,i⟩:=r;dsimp only at HC g j |-
  have v:=h_ x;rcases bft (isM a.sg i ⟨#[63]⟩)with G|G
  ·rw[ip_ G];have ak:=Qy_ G;obtain⟨t,et,aI⟩:=Xe_ G;obtain⟨s',es,ha,_⟩:=g t et;obtain rfl:=oi_ es;have al:s.at_<a.n:=oo;have Z:=aa.adv (j.trans (Qh_ i));have I:=h_ (λ(row:ON) (W:Ω) (h:RdI a (d+1) (Qf_ i) row W)=>HE.pick a.U (d+1) (Qf_ i) row W h (hn.next al (g.trans (Qh_ _)) oo) oo Z);have k:=(g.trans (Qh_ i)).trans (QB_ (sg:=a.sg) (N:=N) f .pick (d+1) (Qf_ i));have L:=Z.adv (QB_ (sg:=a.sg) (N:=N) f .pick (d+1) (Qf_ i));unfold PosS at I;generalize Qd_ a.sg N f .pick (d+1) (Qf_ i)=r2 at I k L |-
   obtain⟨k1,st2⟩:=r2;dsimp only at I k L |-
   have J:=h_ (λ(row:ON) (W:Ω) (h:RdI a (d+1) (Qn_ a.sg st2 ⟨#[58]⟩) row W)=>HE.pick a.U (d+1) (Qn_ a.sg st2 ⟨#[58]⟩) row W h (hn.next al (k.trans (Qq_ _ _)) oo) oo (L.adv (Qq_ _ _)));unfold PosS at J;generalize Qd_ a.sg N f .pick (d+1) (Qn_ a.sg st2 ⟨#[58]⟩)=r3 at J |-
   obtain⟨k2,aK⟩:=r3;dsimp only at J |-
   have K:=h_ ak;have H:=h_ G
   -- too deep:nothing comes
   have q:d<20:=by
    rcases Nat.lt_or_ge d 20 with h|h
    ·exact h
    have aF:d=20:=oo;have e1:=x aF;obtain⟨s2,e2,_⟩:=j t et;rw[e1]at e2
    cases e2
   have c:=h_<|z.o.1 q;have E:¬(20:Int)<(d:Int)+1:=oo;have ah:decide ((20:Int)<(d:Int)+1)=φ:=df_ E;have aJ:IntKind.i64.wrap ((d:Int)+1)=(d:Int)+1:=IntWalk.i64_in _ oo;go_in;go_wp2_with fail
   refine mb_ (HC.o _ _ c.o.1) ?_;rintro w2 ⟨row2,O,p⟩;have A:=h_ O;have B:=h_<|c.o.2.trans p;go_wp2_with fail
   refine(JT_ a hi (d+1) i row2 ⟨#[63]⟩ w2 A.o).mono ?_;rw[H.o,K.o];rintro e w3 ⟨rfl,y,P,T⟩;have C:=QS_ B T;have ar:=h_ P;go_wp2_with fail;refine pst (I.o _ _ ar.o) C ?_;intro w4 am av aA;go_wp2_with fail;refine pst (KN_ a hi (d+1) st2 am ⟨#[58]⟩ w4 av.o) aA ?_;intro w5 aO ax aB;go_wp2_with fail;refine pst (J.o _ _ ax.o) aB ?_;intro w6 an ae aC;have af:=h_ ae.o.lo;go_wp2_with fail;refine pst (Yu_ a.U hi (d+1) aK an 8 noT (σ ⟨w6.heap.size,0,ν⟩) 3 3 [k0,k1,k2] w6.heap.size _ (ae.o.alloc _) (kid3 w6 k0 k1 k2) af.o) aC ?_;intro w7 ao ay aD;obtain⟨c3,V,X,n,o⟩:=Jp_ hi ay.o;have M:=h_<|ai_ n<|aD.o.trans o;go_wp2;go_ret;exact⟨rfl,ao,M.o.1,M.o.2⟩
  rw[in_ (by rw[G];decide)];have K:=h_<|QD_ G;have H:=h_ G;rcases Nat.lt_or_ge d 20 with q|ab
  ·have c:=h_ (z.o.1 q);have E:¬(20:Int)<(d:Int)+1:=oo;have ah:decide ((20:Int)<(d:Int)+1)=φ:=df_ E;have aJ:IntKind.i64.wrap ((d:Int)+1)=(d:Int)+1:=IntWalk.i64_in _ oo;go_in;go_wp2_with fail;refine mb_ (HC.o _ _ c.o.1) ?_;rintro w2 ⟨row2,O,p⟩;have A:=h_ O;have B:=h_<|c.o.2.trans p;go_wp2_with fail
   refine(JT_ a hi (d+1) i row2 ⟨#[63]⟩ w2 A.o).mono ?_;rw[H.o,K.o];rintro e w3 ⟨rfl,y,P,T⟩;have C:=QS_ B T;obtain⟨c3,V,X,n,o⟩:=Jp_ (U:=a.U) hi P;have M:=h_<|ai_ n<|C.o.trans o;go_wp2;go_ret;exact⟨rfl,y,M.o.1,M.o.2⟩
  obtain rfl:d=20:=oo;have c:=h_<|z.o.2 rfl;have e0:=v.o rfl;subst e0;go_in;go_wp2_with fail
  refine mb_ (HC.o _ _ c.o.1) ?_;rintro w2 ⟨row2,O,p⟩;have A:=h_ O;have B:=h_<|c.o.2.trans p;go_wp2_with fail
  refine(JT_ a hi (20+1) i row2 ⟨#[63]⟩ w2 A.o).mono ?_;rw[H.o,K.o];rintro e w3 ⟨rfl,y,P,T⟩;have C:=QS_ B T;obtain⟨c3,V,X,n,o⟩:=Jp_ (U:=a.U) hi P;have M:=h_<|ai_ n<|C.o.trans o;go_wp2;go_ret;exact⟨rfl,y,M.o.1,M.o.2⟩
section
variable {R:RC} (U:Nat->Prop) (hi:R.imp=φ) (d lo:Nat) (one:RdSt->PR) (HO:Ψ (QeU_ R 93 d lo one)) (h1:∀st,Adv 1 1 st (one st).2) (m:BA) (N:Nat) (st:RdSt) (row:ON) (w:Ω)
 (hI:RdI { R with U:=U } d st row w) (hlo:LoB lo st) (hN:R.n<N)
include hi HO h1 hI hlo hN
def QeM_ (k:Int):Δ π 109 #[P_ (σ ⟨R.T,0,ν⟩),T_ m,S_ (σ ⟨w.heap.size,0,ν⟩) 1 1] (w.alloc (C_ #[I_ j_ k] 3)) λe w'=>∃(A:OA) (n c:Nat),e=R_ (S_ A n c)/\Mine w' w.heap.size 3 1 A n c (Qa_ (k::(QG_ R.sg one m N [] st).1))/\∃row',RdI { R with U:=U } d (Qn_ R.sg (QG_ R.sg one m N [] st).2 m) row' w'/\Kr R.T row w row' w':=by
 refine(z5_ { R with U:=U } hi d lo one HO h1 m N st row row (w.alloc (C_ #[I_ j_ k] 3)) w [k] (σ ⟨w.heap.size,0,ν⟩) 1 (hI.res_new bra (λg hg=>by simp at hg;subst hg;simp)) (GW_ w k) (Kr.of_below bra) hI.lo.1 sm_ hlo (QP_ hN _)).mono ?_;rintro e w' ⟨A,n,c,rfl,_,hm,_,row',h,k'⟩;exact⟨A,n,c,rfl,hm,row',h.unres,k'⟩
def QhU_:Δ π 109 #[P_ (σ ⟨R.T,0,ν⟩),T_ m,S_ (σ ⟨w.heap.size,0,ν⟩) 0 0] (w.alloc (C_ #[] 3)) λe w'=>∃(A:OA) (n c:Nat),e=R_ (S_ A n c)/\Mine w' w.heap.size 3 1 A n c (Qa_ (QG_ R.sg one m N [] st).1)/\∃row',RdI { R with U:=U } d (Qn_ R.sg (QG_ R.sg one m N [] st).2 m) row' w'/\Kr R.T row w row' w':=by
 refine(z5_ { R with U:=U } hi d lo one HO h1 m N st row row (w.alloc (C_ #[] 3)) w [] (σ ⟨w.heap.size,0,ν⟩) 0 (hI.res_new bra (λg hg=>by simp at hg;subst hg;simp)) (Y3_ w) (Kr.of_below bra) hI.lo.1 sm_ hlo (QP_ hN _)).mono ?_;rintro e w' ⟨A,n,c,rfl,_,hm,_,row',h,k'⟩;exact⟨A,n,c,rfl,hm,row',h.unres,k'⟩
end
def vB_ {sg:List SgP} (one:RdSt->PR) (N:Nat) (k:Int) (st:RdSt):KP_ (Qn_ sg (QG_ sg one ⟨#[41]⟩ N [] (Qn_ sg st ⟨#[40]⟩)).2 ⟨#[41]⟩) ⟨5,noT,k::(QG_ sg one ⟨#[41]⟩ N [] (Qn_ sg st ⟨#[40]⟩)).1,φ⟩=Yg_ sg one N k st:=rfl
def vd_ (hi:a.imp=φ) (N f:Nat) (hN:a.n<N) (HE:SC a N f) (d:Nat) (st:RdSt) (row:ON) (w:Ω) (hI:RdI a d st row w) (hn:Need a.n st 11 (f+1)) (hd:d+(f+1)<=100000) (L:Deep d st):
  Δ π 93 #[P_ (σ ⟨a.T,0,ν⟩)] w (QA_ a d row w (I_ j_ (Xi_ a.sg (Qd_ a.sg N f) N d st).1) (Xi_ a.sg (Qd_ a.sg N f) N d st).2):=by
 have ba:=h_ hI;have ae:=h_<|Kr.refl a.T row w;have aF:=h_ hI.lo;have am:=hn.same (r':=10) oo<|Adv.refl st;have HP:=h_<|HE.pick a.U d st row w hI am oo L;have j:=QB_ (sg:=a.sg) (N:=N) f .pick d st;have h1:∀st,Adv 1 1 st (Qd_ a.sg N f .value d st).2:=λst=>QB_ f .value d st
 have V:=hI.ok.len;unfold PosS at HP;unfold QA_;unfold Xi_;generalize Qd_ a.sg N f .pick d st=r at HP j |-
 obtain⟨k0,l⟩:=r;dsimp only at HP j |-
 rcases bft (isM a.sg l ⟨#[46,46]⟩)with b|b
 ·rw[ip_ b];obtain⟨t,et,bj⟩:=Xe_ b;obtain⟨s,es,ha,bk⟩:=j t et;subst es;have bm:s.at_<a.n:=oo;have HO:=h_ (HE.one (d:=d) oo hn bm (L s rfl));have HA:=h_ h1;have aj:=h_ b;have q:Ψ (LoB (s.at_+1) l):=(show LoB _ _ from λt' e=>by rw[et]at e;obtain rfl:=oi_ e;omega);have P:Ψ (KidB [k0] l):=(show KidB _ _ from⟨by simp,λt' e=>by rw[et]at e;obtain rfl:=oi_ e;simp;omega⟩);obtain⟨Q,hQ⟩:=ex_ (Y2_ a.sg (Qd_ a.sg N f .value d) N N [k0] l);rw[hQ];have U:=h_ hQ;generalize Qd_ a.sg N f .value d=one at HO HA U;obtain⟨i0,aO,aR,aS,an⟩:=info_parts QY_;have E:=h_ (ai_ aO (ai_ aR (ai_ aS an)));go_in;go_wp2_with fail;refine pst (HP.o) ae ?_;intro w1 k n F;go_wp2_with fail;refine(GF_ a hi d l k 4 dc_ ⟨#[46,46]⟩ w1 n.o).mono ?_;rw[JO_,aj.o];rintro e w2 ⟨rfl,h2⟩;have ax:=h_<|n.o.next h2;have af:=h_<|F.o.below h2;go_upto_region 5 with fail
  have an:=af.o.size;have ai:=h_<|(GW_ w2 k0).more (B':=w.heap.size) oo;have ab:=h_<|ax.o.res_new (A:=σ ⟨w2.heap.size,0,ν⟩) (br.alloc (lr_ _) (C_ #[I_ j_ k0] 3)) (λg hg=>by simp at hg;subst hg;simp);have ag:=h_<|af.o.below<|br.alloc (lr_ _)<|C_ #[I_ j_ k0] 3;generalize w2.alloc (C_ #[I_ j_ k0] 3)=w3 at ai ab ag |-
  go_loopw [4] (λv wr=>∃(M:Nat) (ks:LI) (st':RdSt) (row':ON) (A:OA) (c:Nat),v=S_ A (η ks) c/\Ψ (Y2_ a.sg one N M ks st'=Q)/\Ψ (LoB (s.at_+1) st')/\Ψ (Enough a.n M st')/\Ψ (KidB ks st')/\Ψ (Mine wr w.heap.size 3 1 A (η ks) c (Qa_ ks))/\Ψ (RdI (a.res A) d st' row' wr)/\Ψ (Kr a.T row w row' wr)) (λ_ wr=>Jn_ a wr)
  ·exact⟨N,[k0],l,k,_,1,rfl,U,q,(show Enough _ _ _ from QP_ hN _),P,ai,ab,ag⟩
  obtain⟨M,ks,st',row',A,c,rfl,U,q,av,aE,HM,HI,HK⟩:=hrel;have HS:=h_<|X2_ _ hi d st' row' ⟨#[46,46]⟩ wr HI.o;rcases bft (isM a.sg st' ⟨#[46,46]⟩)with b|b
  ·obtain⟨o,bh,aQ⟩:=Xe_ b;subst bh;obtain⟨M,rfl⟩:∃M',M=M'+1:=⟨M-1,by
    have h1:=av.o o rfl;have h2:=(HI.o.le rfl).1;have:(a.res A).n=a.n:=rfl;omega⟩
   rw[b,Qy_ b]at HS;have m:=U.o;unfold Y2_ at m;rw[ip_ b]at m;have R:=((Qh_ (σ o)).trans (QT_ (sg:=a.sg) _)).trans (VB_ (sg:=a.sg) HA.o N (Qj_ a.sg (Qf_ (σ o))).1 (Qj_ a.sg (Qf_ (σ o))).2);have h:=(Qh_ (σ o)).trans (QT_ (sg:=a.sg) (Qf_ (σ o)));have Y:=h_ (Jo_ (sg:=a.sg) (Qf_ (σ o)));generalize Qj_ a.sg (Qf_ (σ o))=r2 at m R h Y;obtain⟨nm,st2⟩:=r2;dsimp only at m R h;have Z:=h_ (vB_ (sg:=a.sg) one N nm st2);generalize Yg_ a.sg one N nm st2=r3 at m R Z;obtain⟨kc,O⟩:=r3;dsimp only at m R;have bg:=h_ m;have a5:=h_ R;have bB:=(HI.o.le rfl).2;have bz:=aE.o.2 o rfl;have bA:=aE.o.1;have a6:Ψ (KidB (ks++[kc]) O):=(show KidB _ _ from⟨by rw[lA];simp;omega,λt e=>by
    obtain⟨bD,e2,_,h3⟩:=R t e;obtain rfl:=oi_ e2;rw[lA];simp;omega⟩)
   have a8:Ψ (Enough a.n M O):=av.o.adv (i:=2) R;have a7:Ψ (LoB (s.at_+1) O):=q.o.adv R;have bd:Ψ (LoB (s.at_+1) (Qn_ a.sg st2 ⟨#[40]⟩)):=(q.o.adv h).adv (Qq_ _ _);have aP:(ks++[kc]).length=η ks+1:=sm_;go_wp2_with fail;refine mb_ HS.o ?_;rintro w4 ⟨z,h4,k4⟩;have H:=h_<|HI.o.keepI k4 HM.o;have p:=h_ h4;have G:=h_<|HK.o.trans k4;go_wp2_with fail
   refine mb_ (YU_ _ hi d (Qf_ (σ o)) z w4 p.o) ?_;rintro w5 ⟨B,h5,k5⟩;have aG:=h_<|p.o.keepI k5 H.o;have C:=h_ h5;have aA:=h_<|G.o.trans k5;have S:=h_ C.o.lo;have J:=h_<|Yu_ (λx=>a.U x\/A.map (·.block)=σ x) hi d (nmS a.sg (Qf_ (σ o))) B 1 (nmT a.sg (Qf_ (σ o))) _ 0 0 [] w5.heap.size (w5.alloc (C_ #[] 3)) (C.o.next bra) (Y3_ w5) S.o;rw[Y.o]at J;dsimp only at J;go_wp2_with fail
   refine mb_ J.o ?_;rintro w6 ⟨aV,h6,k6⟩;have aH:=VE_ C k6 aG;have aB:=QS_ aA k6;have ac:=h_ h6;go_wp2_with fail;refine mb_ (Yc_ _ hi d st2 aV ⟨#[40]⟩ w6 ac.o) ?_;rintro w7 ⟨aX,h7,k7⟩;have aI:=h_<|ac.o.keepI k7 aH.o;have D:=h_ h7;have aC:=h_<|aB.o.trans k7;have T:=h_ D.o.lo;go_wp2_with fail
   refine(QeM_ _ hi d (s.at_+1) one HO HA.o ⟨#[41]⟩ N _ aX w7 D.o bd.o hN nm).mono ?_;rintro e w8 ⟨A8,n8,c8,rfl,m8,aY,h8,k8⟩;have aJ:=h_<|D.o.keepI k8 aI.o;have aK:=h_ m8;have ad:=h_ h8;have aD:=h_<|aC.o.trans k8;have K:=h_<|Yu_ (λx=>a.U x\/A.map (·.block)=σ x) hi d _ aY 5 noT A8 n8 c8 _ w7.heap.size w8 ad.o aK.o T.o;rw[Z.o]at K;dsimp only at K;go_wp2_with fail
   refine mb_ K.o ?_;rintro w9 ⟨aZ,h9,k9⟩;have I:=h_<|ad.o.keepI k9 aJ.o;have ay:=h_ h9;have ah:=h_<|aD.o.trans k9;have bC:=ah.o.size;have a9:=h_ aF.o.1;go_wp2_with (at_builtin;(refine Qi_ _ rfl (.tmp 28) (.tmp 32) _ rfl w.heap.size 3 i0 (I_ j_ 0) 1 8 underlying83 E.o.1 E.o.2.1 E.o.2.2.1 E.o.2.2.2 rfl dc_ (S_ A (η ks) c) (η ks) (Qa_ ks) rfl (Mine.alloc I.o _) ⟨w9.heap.size,0,ν⟩ 1 1 [I_ j_ kc] rfl rfl (K8_ _ kc _) (K9_ _) mx_ oo so_ ?_);intro v' wA y al X;obtain⟨A7,c7,rfl,h7,m7⟩:=RdI.appended ay.o I.o a9.o bra y al X)
   have bc:=h_<|(ah.o.below bra).grown al (λg hg=>by rw[Q3_]at hg;exact(Mine.blk I.o hg).1);rw[<-Ke_]at m7;have az:=h_ h7;have bf:=h_ m7;go_wp2;go_roundw
   ·exact⟨M,ks++[kc],O,aZ,A7,c7,by rw[aP],bg,a7,a8,a6,by rw[aP];exact bf,az,bc⟩
   exact ZG_ hi HI.o az.o<|a5.o.weak (i':=1) (j':=0) oo oo
  rw[b,QD_ b]at HS;have m:=U.o;have bl:Q=(ks,st'):=by
   cases M with
   |zero=>exact m.symm
   |succ M=>unfold Y2_ at m;rw[b,in_ dc_]at m;exact m.symm
  subst bl;go_wp2_with fail;refine mb_ HS.o ?_;rintro w4 ⟨z,h4,k4⟩;have H:=h_<|HI.o.keepI k4 HM.o;have p:=h_ h4.unres;have G:=h_<|HK.o.trans k4;go_wp2_with fail
  refine mb_ (Yu_ a.U hi d st' z 10 noT A (η ks) c ks w.heap.size w4 p.o H.o aF.o) ?_;rintro w5 ⟨B,h5,k5⟩;go_wp2;go_ret;exact⟨rfl,B,h5,G.o.trans k5⟩
 rw[in_ (by rw[b];decide)];have aj:=h_ b;go_in;go_wp2_with fail;refine pst (HP.o) ae ?_;intro w1 k n F;go_wp2_with fail;refine(GF_ a hi d l k 4 dc_ ⟨#[46,46]⟩ w1 n.o).mono ?_;rw[JO_,aj.o];rintro e w2 ⟨rfl,h2⟩;go_wp2;go_ret;exact⟨rfl,k,n.o.next h2,F.o.below h2⟩
def QgQ_ (one:RdSt->PR) (N n:Nat) (k:Int) (sg:PS) (h1:isM s (σ sg) ⟨#[40]⟩=φ) (h2:isM s (σ sg) ⟨#[46]⟩=τ):
  W0_ s one N (n+1) k (σ sg)=W0_ s one N n (KP_ (nmS s (Qf_ (σ sg))) ⟨6,nmT s (Qf_ (σ sg)),[k],φ⟩).1 (KP_ (nmS s (Qf_ (σ sg))) ⟨6,nmT s (Qf_ (σ sg)),[k],φ⟩).2:=by
 rw[W0_,in_ (show ¬(σ sg).isNone=τ by simp),in_ (by rw[h1];decide),ip_ h2];unfold nmS nmT;by_cases a:Kp_ s (Qf_ (σ sg)) 0=τ
 ·rw[ip_ a,ip_ a,ip_ a,VA_ (Qf_ (σ sg))]
 rw[in_ a,in_ a,in_ a,Z8_,Ve_]
def Qd9_ (hi:a.imp=φ) (N f:Nat) (hN:a.n<N) (HE:SC a N f) (d:Nat) (st:RdSt) (row:ON) (w:Ω) (hI:RdI a d st row w) (hn:Need a.n st 2 (f+1)) (hd:d+(f+1)<=100000) (ah:Deep d st):
  Δ π 181 #[P_ (σ ⟨a.T,0,ν⟩)] w (QA_ a d row w (I_ j_ (endS a.sg (Qd_ a.sg N f) N d st).1) (endS a.sg (Qd_ a.sg N f) N d st).2):=by
 have aG:=h_ hI;have al:=h_<|Kr.refl a.T row w;have ar:=hn.same (r':=1) oo<|Adv.refl st;have HP:=h_<|HE.base a.U d st row w hI ar oo ah;have t:=QB_ (sg:=a.sg) (N:=N) f .base d st;have HA:=h_ (λst=>QB_ (sg:=a.sg) (N:=N) f .value d st);have aV:=hI.ok.len;unfold PosS at HP;unfold QA_;unfold endS;generalize Qd_ a.sg N f .base d st=r at HP t |-
 obtain⟨k0,az⟩:=r;dsimp only at HP t |-
 have HO:Ψ (∀s,st=σ s->s.at_<a.n->QeU_ a 93 d (s.at_+1) (Qd_ a.sg N f .value d)):=(show ∀s,_->_->_ from λs e aP=>HE.one (d:=d) oo (by rw[<-e];exact hn) aP (ah s e));have O:=h_ t;obtain⟨Q,hQ⟩:=ex_ (W0_ a.sg (Qd_ a.sg N f .value d) N N k0 az);rw[hQ];have x:=h_ hQ;generalize Qd_ a.sg N f .value d=one at HO HA x;go_in;go_wp2_with fail;refine pst (HP.o) al ?_;intro w1 ax aj am;go_upto_region 2 with fail
 go_loopw [3] (λv wr=>∃(M:Nat) (k:Int) (st':RdSt) (row':ON),v=I_ j_ k/\Ψ (W0_ a.sg one N M k st'=Q)/\Ψ (Adv 1 1 st st')/\Ψ (Enough a.n M st')/\Ψ (RdI a d st' row' wr)/\Ψ (Kr a.T row w row' wr)) (λ_ wr=>Jn_ a wr)
 ·exact⟨N,k0,az,ax,rfl,x,O,(show Enough _ _ _ from QP_ hN _),aj,am⟩
 obtain⟨M,k,st',row',rfl,x,X,ab,P,HK⟩:=hrel
 cases st' with
 |none=>
  obtain⟨R,b,AN,cN,l,hc,hb,G⟩:=P.o;obtain⟨c0,c1,c2,c3,c4,cf,cz⟩:=hc.cs hi;obtain rfl:b=τ:=hb;have o:=x.o;rw[Ve_]at o;subst o;go_wp2;go_ret;exact⟨rfl,row',P.o,HK.o⟩
 |some j=>
  obtain⟨s,es,ha,aR⟩:=X.o j rfl;obtain⟨M,rfl⟩:∃M',M=M'+1:=⟨M-1,by
   have h1:=ab.o j rfl;have I:=(P.o.le rfl).1;omega⟩
  have aU:=(P.o.le rfl).1;have aK:=h_<|HO.o s es oo;have aJ:Ψ (LoB (s.at_+1) (σ j)):=(show LoB _ _ from λt' e=>by obtain rfl:=oi_ e;omega);obtain⟨R,b,AN,cN,l,hc,hb,G⟩:=P.o;obtain⟨c0,c1,c2,c3,c4,cf,cz⟩:=hc.cs hi;obtain⟨rfl,_,_⟩:=hb;have m:=h_<|X2_ a.U hi d (σ j) row' ⟨#[40]⟩ wr P.o;rcases bft (isM a.sg (σ j) ⟨#[40]⟩)with y|y
  ·rw[y,Qy_ y]at m;have o:=x.o;rw[W0_,in_ (show ¬(σ j).isNone=τ by simp),ip_ y]at o;have g:=VB_ (sg:=a.sg) HA.o N k (σ j);have ag:=vB_ (sg:=a.sg) one N k (σ j);rw[Zr_ y]at ag;have aa:=h_ ag;generalize Yg_ a.sg one N k (σ j)=r3 at o g aa;obtain⟨kc,q⟩:=r3;dsimp only at o g;have ae:=h_ o;have z:=h_ g;have Z:Ψ (Enough a.n M q):=ab.o.adv (i:=0) g;have Y:Ψ (Adv 1 1 st q):=(X.o.trans g).weak oo oo;have aI:Ψ (LoB (s.at_+1) (Qf_ (σ j))):=aJ.o.adv (Qh_ _);go_wp2_with fail;refine mb_ m.o ?_;rintro w2 ⟨row2,I,T⟩;have C:=h_ I;have E:=h_<|HK.o.trans T;have an:=h_ I.lo;go_wp2_with fail
   refine(QeM_ a.U hi d (s.at_+1) one aK HA.o ⟨#[41]⟩ N _ row2 w2 C.o aI.o hN k).mono ?_;rintro e w3 ⟨A3,n3,c3,rfl,m3,p,S,V⟩;have aL:=h_ m3;have D:=h_ S;have F:=h_<|E.o.trans V;have K:=h_<|Yu_ a.U hi d _ p 5 noT A3 n3 c3 _ w2.heap.size w3 D.o aL.o an.o;rw[aa.o]at K;dsimp only at K;go_wp2_with fail
   refine mb_ K.o ?_;rintro w4 ⟨H,h4,k4⟩;have J:=h_ h4;have ac:=h_<|F.o.trans k4;go_wp2;go_roundw
   ·exact⟨M,kc,q,H,rfl,ae,Y,Z,J,ac⟩
   exact ZG_ (U:=a.U) (U':=a.U) hi P.o J.o<|z.o.weak (i':=1) (j':=0) oo oo
  rw[y,QD_ y]at m;rcases bft (isM a.sg (σ j) ⟨#[46]⟩)with L|L
  ·have HS:=h_ (λ(row:ON) (W:Ω) h=>X2_ a.U hi d (σ j) row ⟨#[46]⟩ W h);rw[L,Qy_ L]at HS;have o:=x.o;rw[QgQ_ one N M k j y L]at o;have g:=((Qh_ (σ j)).trans (Jy_ (sg:=a.sg) (Qf_ (σ j)))).trans (Kg_ (nmS a.sg (Qf_ (σ j))) ⟨6,nmT a.sg (Qf_ (σ j)),[k],φ⟩);have ad:=h_ (λ(row:ON) (B:Nat) (W:Ω) (A:OA) (n c:Nat) h hm hB=>Yu_ a.U hi d (nmS a.sg (Qf_ (σ j))) row 6 (nmT a.sg (Qf_ (σ j))) A n c [k] B W h hm hB);generalize KP_ (nmS a.sg (Qf_ (σ j))) ⟨6,nmT a.sg (Qf_ (σ j)),[k],φ⟩=r3 at o g ad;obtain⟨kc,q⟩:=r3;dsimp only at o g ad;have ae:=h_ o;have z:=h_ g;have Z:Ψ (Enough a.n M q):=ab.o.adv (i:=1) g;have Y:Ψ (Adv 1 1 st q):=(X.o.trans g).weak oo oo;go_wp2_with fail;refine mb_ m.o ?_;rintro w2 ⟨row2,I,T⟩;have C:=h_ I;have E:=h_<|HK.o.trans T;go_wp2_with fail
   refine mb_ (HS.o _ _ C.o) ?_;rintro w3 ⟨p,S,V⟩;have D:=h_ S;have F:=h_<|E.o.trans V;go_wp2_with fail
   refine mb_ (YU_ a.U hi d (Qf_ (σ j)) p w3 D.o) ?_;rintro w4 ⟨H,h4,k4⟩;have J:=h_ h4;have ac:=h_<|F.o.trans k4;have ao:=h_ h4.lo;go_wp2_with fail
   refine pst (ad.o H w4.heap.size (w4.alloc (C_ #[I_ j_ k] 3)) (σ ⟨w4.heap.size,0,ν⟩) 1 1 (J.o.alloc _) (GW_ w4 k) ao.o) ac ?_;intro w5 ay ak aH;go_wp2;go_roundw
   ·exact⟨M,kc,q,ay,rfl,ae,Y,Z,ak,aH⟩
   exact ZG_ (U:=a.U) (U':=a.U) hi P.o ak.o<|z.o.weak (i':=1) (j':=0) oo oo
  have HS:=h_ (λ(row:ON) (W:Ω) h=>X2_ a.U hi d (σ j) row ⟨#[46]⟩ W h);rw[L,QD_ L]at HS;have o:=x.o;rw[W0_,in_ (show ¬(σ j).isNone=τ by simp),in_ (by rw[y];decide),in_ (by rw[L];decide)]at o;subst o;go_wp2_with fail;refine mb_ m.o ?_;rintro w2 ⟨row2,I,T⟩;have C:=h_ I;have E:=h_<|HK.o.trans T;go_wp2_with fail
  refine mb_ (HS.o _ _ C.o) ?_;rintro w3 ⟨p,S,V⟩;have D:=h_ S;have F:=h_<|E.o.trans V;go_wp2;go_ret;exact⟨rfl,p,D.o,F.o⟩
def Qgm_ {sg t:PS} (h:t.at_=sg.at_) (m:BA):isM s (σ t) m=isM s (σ sg) m:=by unfold isM Qx_;simp only[h]
def QfA_ {sg t:PS} (h:t.at_=sg.at_) (l:List BA):Zz_ s (σ t) l=Zz_ s (σ sg) l:=by
 induction l with
 |nil=>rfl
 |cons m l ih=>unfold Zz_;rw[Qgm_ h,ih]
def v0_ {sg t:PS} (h:t.at_=sg.at_) (l:Nat):KY_ s (σ t) l=KY_ s (σ sg) l:=QfA_ h _
def QgK_ {a b:BA} (h:a.toList=b.toList):a=b:=by
 rw[ByteArray.toList_eq,ByteArray.toList_eq]at h;obtain⟨⟨a⟩⟩:=a;obtain⟨⟨b⟩⟩:=b;simp at h;subst h
 rfl
def vR_ (h:isM s y m=τ):(Qx_ s y 0).2.1.toList=m.toList:=by
 unfold isM at h;rw[τa]at h;exact eq_of_beq h.2
def vQ_ {m':BA} (h:isM s y m=τ) (h':isM s y m'=τ):m=m':=QgK_ ((vR_ h).symm.trans (vR_ h'))
def QfB_ (h:isM s y m=τ):∀l:List BA,m∈l->Zz_ s y l=m:=by
 intro l
 induction l with
 |nil=>intro a;cases a
 |cons x l ih=>
  intro a;unfold Zz_;by_cases b:isM s y x=τ
  ·rw[ip_ b];exact vQ_ b h
  rw[in_ b];rcases List.mem_cons.1 a with rfl|a
  ·exact absurd h b
  exact ih a
def xe_:∀l:List BA,((Zz_ s y l).toList==[])=φ->Zz_ s y l∈l:=by
 intro l
 induction l with
 |nil=>intro h;exact absurd X8_ (by rw[show(noT.toList==[])=φ from h];decide)
 |cons x l ih=>
  intro h;unfold Zz_ at h |-
  by_cases hx:isM s y x=τ
  ·rw[ip_ hx];exact List.mem_cons_self
  rw[in_ hx]at h |-; exact List.mem_cons_of_mem _<|ih h
def ChR (sg:List SgP) (one:RdSt->PR) (l N n:Nat) (Q:PR) (tx:BA) (ks:LI) (st:RdSt):Prop:=
 (tx=noT/\∃M k,ks=[k]/\Zw_ sg one l N M k st=Q/\Enough n M st)\/
 (tx∈Zg_ l/\2<=η ks/\∃a M2,Enough n a st/\Enough n M2 st/\Zw_ sg one l N M2 (KP_ (GD_ sg one tx a ks st).2 ⟨7,tx,(GD_ sg one tx a ks st).1,φ⟩).1 (KP_ (GD_ sg one tx a ks st).2 ⟨7,tx,(GD_ sg one tx a ks st).1,φ⟩).2=Q)
section
variable {sg:List SgP} {one:RdSt->PR} {l N n:Nat} {Q:PR} {tx:BA} {ks:LI} {st:RdSt} {s:PS}
def Qak_ (h:isM sg st tx=φ) (M:Nat) (ks:LI):GD_ sg one tx M ks st=(ks,st):=by
 cases M with
 |zero=>rfl
 |succ M=>unfold GD_;rw[h,in_ dc_]
def zl_ (h:KY_ sg st l=noT) (M:Nat) (k:Int):Zw_ sg one l N M k st=(k,st):=by
 cases M with
 |zero=>rfl
 |succ M=>unfold Zw_;rw[h,ip_ X8_]
def v5_ (h:noT∈Zg_ l):False:=absurd X8_ (by rw[qD_ l noT h];decide)
def QcD_ (b:KY_ sg st l=noT) (h:ChR sg one l N n Q tx ks st):(∃k,ks=[k]/\Q=(k,st))\/(2<=η ks/\Q=KP_ st ⟨7,tx,ks,φ⟩):=by
 rcases h with⟨_,M,k,rfl,a,_⟩|⟨hx,hl,M1,M2,_,_,a⟩
 ·left;rw[zl_ b]at a;exact⟨k,rfl,a.symm⟩
 right;have hi:isM sg st tx=φ:=by
  rcases bft (isM sg st tx)with e|e
  ·have:=QfB_ e (Zg_ l) hx;exact absurd (this.symm.trans b ▸ hx) (λh=>v5_ h)
  exact e
 rw[Qak_ hi]at a;refine⟨hl,?_⟩
 cases st with
 |none=>rw[Z8_,ZX_]at a;rw[Z8_];exact a.symm
 |some s=>
  rcases hA:KP_ (σ s) ⟨7,tx,ks,φ⟩with⟨k,_|t⟩
  ·rw[hA,ZX_]at a;exact a.symm
  rw[hA,zl_ (by rw[v0_ (zk_ rfl (by rw[hA]))];exact b)]at a;exact a.symm
def Qd6_ (a:isM sg (σ s) tx=τ) (M:Nat) (ks:LI):GD_ sg one tx (M+1) ks (σ s)=GD_ sg one tx M (ks++[(one (Qf_ (σ s))).1]) (one (Qf_ (σ s))).2:=by
 rw[GD_,ip_ a]
def Gm_ (h:Enough n d (σ s)) (hs:s.at_<=n):∃M',d=M'+1:=⟨d-1,by have:=h s rfl;omega⟩
def Qe9_ (hN:n<N) (h1:∀st,Adv 1 1 st (one st).2) (hs:s.at_<=n) (c:((KY_ sg (σ s) l).toList==[])=φ) (h:ChR sg one l N n Q tx ks (σ s)) (j:tx=noT\/tx=KY_ sg (σ s) l):
  ChR sg one l N n Q (KY_ sg (σ s) l) (ks++[(one (Qf_ (σ s))).1]) (one (Qf_ (σ s))).2:=by
 have i:KY_ sg (σ s) l∈Zg_ l:=xe_ _ c;have b:=qC_ c;have a:Adv (0+1) 0 (σ s) (one (Qf_ (σ s))).2:=((Qh_ (σ s)).trans (h1 _)).weak oo oo;right;rcases h with⟨_,M,k,rfl,e,he⟩|⟨hx,hl,M1,M2,d,g,e⟩
 ·obtain⟨M,rfl⟩:=Gm_ he hs;obtain⟨f,rfl⟩:∃f,N=f+1:=⟨N-1,oo⟩;rw[Zw_,in_ (by rw[c];decide),Qd6_ b]at e;exact⟨i,by simp,f,M,(QP_ hN (σ s)).adv a,he.adv a,e⟩
 rcases j with rfl|j
 ·exact(v5_ hx).elim
 rw[<-j]at b |-
 obtain⟨M1,rfl⟩:=Gm_ d hs;rw[Qd6_ b]at e;exact⟨hx,by rw[lA];omega,M1,M2,d.adv a,g.mono a,e⟩
def QgN_ (hN:n<N) (h1:∀st,Adv 1 1 st (one st).2) (h0:one ν=(0,ν)) (hs:s.at_<=n) (b:((KY_ sg (σ s) l).toList==[])=φ) (h:ChR sg one l N n Q tx ks (σ s)) (ht:tx≠noT) (p:tx≠KY_ sg (σ s) l):
  ChR sg one l N n Q (KY_ sg (σ s) l) ([(KP_ (Qf_ (σ s)) ⟨7,tx,ks,φ⟩).1]++[(one (KP_ (Qf_ (σ s)) ⟨7,tx,ks,φ⟩).2).1]) (one (KP_ (Qf_ (σ s)) ⟨7,tx,ks,φ⟩).2).2:=by
 have i:KY_ sg (σ s) l∈Zg_ l:=xe_ _ b;have d:=qC_ b;right;rcases h with⟨e,_⟩|⟨hx,hl,M1,M2,q,g,c⟩
 ·exact absurd e ht
 have hi:isM sg (σ s) tx=φ:=by
  rcases bft (isM sg (σ s) tx)with e|e
  ·exact absurd (vQ_ e d) p
  exact e
 rw[Qak_ hi]at c;rw[VA_];rcases hA:KP_ (σ s) ⟨7,tx,ks,φ⟩with⟨k,_|t⟩
 ·have hk:k=0:=by
   unfold KP_ at hA;simp only at hA;split at hA
   ·injection hA with e1 e2;exact e1.symm
   injection hA with e1 e2;cases e2
  rw[hA,ZX_]at c;dsimp only;rw[zY_,h0];refine⟨i,by simp,0,0,(λt e=>by cases e),(λt e=>by cases e),?_⟩;rw[Qd4_,Z8_,ZX_,<-c,hk]
 have f:t.at_=s.at_:=zk_ (st:=σ s) (x:=⟨7,tx,ks,φ⟩) rfl (by rw[hA]);obtain⟨M2,rfl⟩:=Gm_ g hs;obtain⟨j,rfl⟩:∃j,N=j+1:=⟨N-1,oo⟩;have o:KY_ sg (σ t) l=KY_ sg (σ s) l:=v0_ f l;have m:isM sg (σ t) (KY_ sg (σ s) l)=τ:=(by rw[Qgm_ f];exact d);have a:Adv (0+1) 0 (σ s) (one (Qf_ (σ t))).2:=by
  have ha:=Kg_ (σ s) ⟨7,tx,ks,φ⟩;rw[hA]at ha;exact((ha.trans (Qh_ (σ t))).trans (h1 _)).weak oo oo
 rw[hA]at c;dsimp only at c |-
 rw[Zw_,o,in_ (by rw[b];decide),Qd6_ m]at c;exact⟨i,by simp,j,M2,(QP_ hN (σ s)).adv a,g.adv a,c⟩
end
def Qdo_ (hl:l<6) (w:Ω):Δ π 182 #[I_ j_ l] w λe w'=>∃B,e=R_ (S_ (σ ⟨B,0,ν⟩) (Zg_ l).length (Zg_ l).length)/\Blk w' B 9 ((Zg_ l).map T_).toArray/\w.heap.size<=B/\Λ w w':=by
 rcases (show l=0\/l=1\/l=2\/l=3\/l=4\/l=5 from oo)with rfl|rfl|rfl|rfl|rfl|rfl
 all_goals
  go_in;go_wp2;go_ret;exact⟨w.heap.size,rfl,Blk.new _ _ _,lr_ _,grow_⟩
def RC.ty_str:a.ty≠9:=by unfold RC.ty;cases a.imp<;>decide
def InR (sg:List SgP) (ms:List BA) (a:BA) (s:PS) (j:Nat) (mm:BA) (st2:RdSt):Prop:=
 ((mm.toList==[])=τ/\st2=σ s/\Zz_ sg (σ s) (ms.drop j)=a)\/(mm=a/\(a.toList==[])=φ/\st2=Qf_ (σ s))
def QdB_:(Zg_ l).length<=2:=by
 unfold Zg_
 repeat' split
 all_goals simp
def Qhs_ (h:(m.toList==[])=τ):m=noT:=QgK_ ((eq_of_beq h).trans (eq_of_beq X8_).symm)
def xr_ (h:Mine w d 3 1 t 1 f (Qa_ [k])):∃g,t=σ ⟨g,0,ν⟩/\w.cell? ⟨g,0,ν⟩=σ (I_ j_ k)/\g<w.heap.size:=by
 rcases h.own with⟨_,h0,_⟩|⟨g,rfl,hB,hn,hc,rest,hb,hs⟩
 ·cases h0
 exact⟨g,rfl,hb.cell 0,hb.lt⟩
def jT_ (hi:a.imp=φ) (N f:Nat) (hN:a.n<N) (HE:SC a N f) (l d:Nat) (hl:l<=6) (st:RdSt) (row:ON) (w:Ω) (hI:RdI a d st row w) (hn:Need a.n st (9-l) (f+1)) (hd:d+(f+1)<=100000) (aB:Deep d st):
  Δ π 128 #[P_ (σ ⟨a.T,0,ν⟩),I_ j_ l] w (QA_ a d row w (I_ j_ (Xc_ a.sg (Qd_ a.sg N f) N l d st).1) (Xc_ a.sg (Qd_ a.sg N f) N l d st).2):=by
 have bM:=h_ hI;have aS:=h_<|Kr.refl a.T row w;have ah:=h_ hI.lo;unfold QA_;unfold Xc_;by_cases h6:l=6
 ·rw[ip_ h6];have HP:=h_ (HE.end_ a.U d st row w hI (hn.same (r':=2) oo (Adv.refl st)) oo aB);unfold PosS at HP;subst h6;go_in;go_wp2_with fail;refine pst (HP.o) aS ?_;intro w1 ak aq ag;go_wp2;go_ret;exact⟨rfl,ak,aq.o,ag.o⟩
 rw[in_ h6];have bZ:l<6:=oo;have HP:=HE.chain a.U (l+1) d st row w hI oo (hn.same (r':=9-(l+1)) oo (Adv.refl st)) oo aB;rw[show((l+1:Nat):Int)=(l:Int)+1 from oo]at HP;have H:=QB_ (sg:=a.sg) (N:=N) f (.chain (l+1)) d st;have HA:=h_ (λst=>QB_ (sg:=a.sg) (N:=N) f (.chain (l+1)) d st);have HZ:=h_ (Xy_ (sg:=a.sg) (N:=N) f (.chain (l+1)) d);have cl:=hI.ok.len;unfold PosS at HP;have HP:=h_ HP;have HO:Ψ (∀(U:Nat->Prop) (st':RdSt) (row:ON) (w:Ω),RdI { a with U:=U } d st' row w->Adv 1 0 st st'->(∀s,st=σ s->s.at_<a.n)->(st=ν->st'=ν)->Δ π 128 #[P_ (σ ⟨a.T,0,ν⟩),I_ j_ ((l:Int)+1)] w (λe w'=>e=R_ (I_ j_ (Qd_ a.sg N f (.chain (l+1)) d st').1)/\∃row',RdI { a with U:=U } d (Qd_ a.sg N f (.chain (l+1)) d st').2 row' w'/\Kr a.T row w row' w')):=(show ∀U st' row w,_->_->_->_->_ from λU st' row w h ha Z b5=>by
  have:=HE.chain U (l+1) d st' row w h oo (by
   cases st with
   |none=>rw[b5 rfl];exact hn.same oo<|Adv.refl ν
   |some s=>exact hn.next (Z s rfl) (ha.weak (i':=0+1) (j':=0) oo oo) oo) oo (aB.adv ha)
  rwa[show((l+1:Nat):Int)=(l:Int)+1 from oo]at this)
 have cr:decide ((5:Int)<(l:Int))=φ:=df_ oo;have ck:¬(5:Int)<(l:Int):=oo;have cB:IntKind.i64.wrap ((l:Int)+1)=(l:Int)+1:=IntWalk.i64_in _ oo;generalize Qd_ a.sg N f (.chain (l+1)) d=one at HP H HA HO HZ |-
 generalize hr:one st=r at HP H |-
 obtain⟨k0,ao⟩:=r;dsimp only at HP H |-
 have aH:=h_ H;obtain⟨Q,hQ⟩:=ex_ (Zw_ a.sg one l N N k0 ao);rw[hQ];have HQ:Ψ (ChR a.sg one l N a.n Q noT [k0] ao):=(show ChR a.sg one l N a.n Q noT [k0] ao from .inl ⟨rfl,N,k0,rfl,hQ,QP_ hN _⟩);have aJ:Ψ (KidB [k0] ao):=(show KidB _ _ from⟨by simp,λt' e=>by obtain⟨s,_,_,h2⟩:=H t' e;simp;omega⟩);obtain⟨i0,bz,bB,aE,bC⟩:=info_parts QY_;have K:=h_<|ai_ bz<|ai_ bB<|ai_ aE bC;have HV:=h_ (λ(W:Ω)=>Qdo_ l bZ W);have bo:=h_<|qD_ l;obtain⟨G,a4⟩:=ex_ (Zg_ l);have bP:=h_ a4;have bn:=h_<|QdB_ l;rw[a4]at HV bo bn;go_in;go_wp2_with fail
 refine pst (HP.o) aS ?_;intro w1 ak aq ag;have aE:=ag.o.size;go_wp2_with fail;refine(HV.o _).mono ?_;rintro e w2 ⟨B,rfl,KB,bU,g2⟩;have bk:=h_<|(GW_ w1 k0).more (B':=w.heap.size) oo;have bh:=h_<|(aq.o.res_new (A:=σ ⟨w1.heap.size,0,ν⟩) (br.alloc (lr_ _) (C_ #[I_ j_ k0] 3)) (λg hg=>by simp at hg;subst hg;simp)).next g2;have bl:=h_<|bk.o.next g2;have bj:=h_<|(ag.o.below (br.alloc (lr_ _) (C_ #[I_ j_ k0] 3))).below g2;have bf:=h_ KB;go_upto_region 6 with fail
 go_loopw [5,6] (λv x wr=>∃(tx:BA) (ks:LI) (st':RdSt) (row':ON) (A:OA) (n c:Nat),v=S_ A n c/\x=T_ tx/\Ψ (n=η ks)/\Ψ (ChR a.sg one l N a.n Q tx ks st')/\Ψ (Adv 1 1 st st')/\Ψ (KidB ks st')/\Ψ (Mine wr w.heap.size 3 1 A n c (Qa_ ks))/\Ψ (RdI (a.res A) d st' row' wr)/\Ψ (Kr a.T row w row' wr)/\Ψ (Blk wr B 9 (G.map T_).toArray)) (λ_ _ wr=>Jn_ a wr)
 ·exact⟨noT,[k0],ao,ak,_,1,1,rfl,rfl,(show 1=1 from rfl),HQ,aH,aJ,bl,bh,bj,bf⟩
 obtain⟨tx,ks,st',row',A,n,c,rfl,rfl,HL,HC,ap,bN,V,y,T,HB⟩:=hrel
 cases st' with
 |none=>
  obtain⟨R,b,AN,cN,l',hc,hb,aj⟩:=y.o;obtain⟨c1,c2,c3,cf,cz⟩:=hc.csu _ hi;obtain rfl:b=τ:=hb;rcases QcD_ (zD_ l) HC.o with⟨kE,rfl,rfl⟩|⟨b0,rfl⟩
  ·have a5:n=1:=HL.o;subst a5;obtain⟨gE,rfl,cE,zE⟩:=xr_ V.o;go_wp2;go_ret;exact⟨rfl,row',y.o.unres,T.o⟩
  have b2:((n:Int)==1)=φ:=(by rw[bn_];have:=HL.o;omega);have aR:=h_ y.o.unres;go_wp2_with fail;refine mb_ (Yu_ a.U hi d ν row' 7 tx A n c ks w.heap.size _ aR.o V.o ah.o) ?_;rintro w9 ⟨an,h9,k9⟩;go_wp2;go_ret;exact⟨rfl,an,h9,T.o.trans k9⟩
 |some o=>
  obtain⟨s,es,ha,b3⟩:=ap.o o rfl;obtain⟨R,b,AN,cN,l',hc,hb,aj⟩:=y.o;obtain⟨c1,c2,c3,cf,cz⟩:=hc.csu _ hi;obtain⟨rfl,_,_⟩:=hb;have aK:o.at_<=a.n:=(y.o.le rfl).1;have b6:s.at_<a.n:=oo;have cx:η o.nodes<=300:=(y.o.le rfl).2;have bp:Ψ (∀(U:Nat->Prop) (st2:RdSt) (row:ON) (w:Ω),RdI { a with U:=U } d st2 row w->Adv 0 0 (σ o) st2->Δ π 128 #[P_ (σ ⟨a.T,0,ν⟩),I_ j_ ((l:Int)+1)] w (λe w'=>e=R_ (I_ j_ (one st2).1)/\∃row',RdI { a with U:=U } d (one st2).2 row' w'/\Kr a.T row w row' w')):=(show ∀U st2 row w,_->_->_ from λU st2 row w h ha=>HO.o U st2 row w h ((ap.o.trans ha).weak oo oo) (λs2 e2=>by rw[es]at e2;obtain rfl:=oi_ e2;exact b6) (λe=>by rw[es]at e;cases e));obtain⟨MK,a1⟩:=ex_ (KY_ a.sg (σ o) l);have av:=h_ a1;have aI:Ψ (InR a.sg G MK o 0 noT (σ o)):=(show InR _ _ _ _ _ _ _ from .inl ⟨X8_,rfl,by rw[List.drop_zero,<-bP.o];exact a1⟩);have cv:η G=η G:=rfl;go_upto_region 9 with fail
  go_loopw [8,9] (λm i wi=>∃(j:Nat) (J:BA) (st2:RdSt) (row2:ON),m=T_ J/\i=I_ j_ j/\j<=η G/\Ψ (InR a.sg G MK o j J st2)/\Ψ (Mine wi w.heap.size 3 1 A n c (Qa_ ks))/\Ψ (RdI (a.res A) d st2 row2 wi)/\Ψ (Kr a.T row w row2 wi)/\Ψ (Blk wi B 9 (G.map T_).toArray)) (λ_ i _=>η G-(intOf i).toNat)
  ·exact⟨0,noT,σ o,row',rfl,rfl,lz_ _,aI,V,y,T,HB⟩
  rename_i wo v0 x0 y0;have bi:=y;obtain⟨j,J,st2,row2,rfl,rfl,hj,HIn,V,y,T,HB⟩:=hrel;rcases Nat.lt_or_ge j (η G) with Z|cp
  ·obtain⟨x,hx⟩:∃x,G[j]? =σ x:=⟨_,List.getElem?_eq_getElem Z⟩;have cm:(j:Int)<(η G:Int):=oo;have ct:=bn.o;have cA:IntKind.i64.wrap ((j:Int)+1)=(j:Int)+1:=IntWalk.i64_in _ oo;have kj:=HB.o.cell j;have kz:=HB.o.lt;simp only[List.getElem?_toArray,List.getElem?_map,hx,Option.map_some]at kj;rcases HIn.o with⟨E,rfl,D⟩|⟨rfl,E,rfl⟩
   ·have X:(J.toList != [])=φ:=(by rw[bne,E];rfl);have a2:G.drop j=x::G.drop (j+1):=by
     obtain⟨h1,h2⟩:=gs_.1 hx;rw[<-h2];exact List.drop_eq_getElem_cons h1
    rw[a2]at D;unfold Zz_ at D;have HS:=h_<|X2_ _ hi d (σ o) row2 x _ y.o;rcases bft (isM a.sg (σ o) x)with hM|hM
    ·rw[ip_ hM]at D;subst D;rw[hM,Qy_ hM]at HS;have b9:(x.toList==[])=φ:=bo.o x (lm_ hx);have L:Ψ (InR a.sg G x o (j+1) x (Qf_ (σ o))):=(show InR _ _ _ _ _ _ _ from .inr ⟨rfl,b9,rfl⟩);go_wp2_with fail;refine mb_ HS.o ?_;rintro w3 ⟨al,h3,k3⟩;have aX:=h_<|y.o.keepI k3 V.o;have ad:=h_<|y.o.keep k3 HB.o (Ne.symm a.ty_str) dc_;have aQ:=h_ h3;have aT:=h_<|T.o.trans k3;have kj:=ad.o.cell j;have kz:=ad.o.lt;simp only[List.getElem?_toArray,List.getElem?_map,hx,Option.map_some]at kj;go_wp2;exact⟨⟨j+1,x,Qf_ (σ o),al,rfl,by go_num,Z,L,aX,aQ,aT,ad⟩,ms_⟩
    rw[in_ (by rw[hM];decide)]at D;rw[hM,QD_ hM]at HS;have L:Ψ (InR a.sg G MK o (j+1) J (σ o)):=(show InR _ _ _ _ _ _ _ from .inl ⟨E,rfl,D⟩);go_wp2_with fail;refine mb_ HS.o ?_;rintro w3 ⟨al,h3,k3⟩;have aX:=h_<|y.o.keepI k3 V.o;have ad:=h_<|y.o.keep k3 HB.o (Ne.symm a.ty_str) dc_;have aQ:=h_ h3;have aT:=h_<|T.o.trans k3;go_wp2;exact⟨⟨j+1,J,σ o,al,rfl,by go_num,Z,L,aX,aQ,aT,ad⟩,ms_⟩
   have L:Ψ (InR a.sg G J o (j+1) J (Qf_ (σ o))):=(show InR _ _ _ _ _ _ _ from .inr ⟨rfl,E,rfl⟩);have X:(J.toList != [])=τ:=(by rw[bne,E];rfl);go_wp2;exact⟨⟨j+1,J,Qf_ (σ o),row2,rfl,by go_num,Z,L,V,y,T,HB⟩,ms_⟩
  have bx:¬(j:Int)<(η G:Int):=oo;have cj:decide ((j:Int)<(η G:Int))=φ:=df_ bx;obtain rfl:j=η G:=oo;rcases HIn.o with⟨E,rfl,D⟩|⟨rfl,E,rfl⟩
  ·rw[List.drop_length]at D;have X:(J.toList != [])=φ:=(by rw[bne,E];rfl);have b4:KY_ a.sg (σ o) l=noT:=av.o.trans D.symm;rcases QcD_ b4 HC.o with⟨kE,rfl,rfl⟩|⟨b0,rfl⟩
   ·have a5:n=1:=HL.o;subst a5;obtain⟨gE,rfl,cE,zE⟩:=xr_ V.o;go_wp2;go_ret;exact⟨rfl,row2,y.o.unres,T.o⟩
   have b2:((n:Int)==1)=φ:=(by rw[bn_];have:=HL.o;omega);have aR:=h_ y.o.unres;go_wp2_with fail;refine mb_ (Yu_ a.U hi d (σ o) row2 7 tx A n c ks w.heap.size _ aR.o V.o ah.o) ?_;rintro w9 ⟨an,h9,k9⟩;go_wp2;go_ret;exact⟨rfl,an,h9,T.o.trans k9⟩
  have X:(J.toList != [])=τ:=(by rw[bne,E];rfl);have aC:((KY_ a.sg (σ o) l).toList==[])=φ:=(by rw[av.o];exact E);have bA:=bN.o.2 o rfl;by_cases p:tx=noT\/tx=KY_ a.sg (σ o) l
  ·have q:=Qe9_ hN HA.o aK aC HC.o p;rw[av.o]at q p;have k:=(Qh_ (σ o)).trans (HA.o (Qf_ (σ o)));have HX:=h_ (λ(row:ON) (W:Ω) h=>bp.o (λx=>a.U x\/A.map (·.block)=σ x) (Qf_ (σ o)) row W h ((Qh_ _).weak oo oo));generalize one (Qf_ (σ o))=r3 at q k HX;obtain⟨Y,S⟩:=r3;dsimp only at q k HX;have aP:=h_ q;have aM:Ψ (KidB (ks++[Y]) S):=(show KidB _ _ from⟨by rw[lA];simp;omega,λt e=>by
    obtain⟨ce,e2,_,h3⟩:=k t e;obtain rfl:=oi_ e2;rw[lA];simp;omega⟩)
   have aL:Ψ (Adv 1 1 st S):=(ap.o.trans k).weak oo oo;have ac:=h_ k;have bO:Ψ (n+1=(ks++[Y]).length):=(show _=_ by rw[lA,HL.o];simp);have cq:n<=300:=by rw[HL.o];omega
   -- the tests of the mark
   have b8:((tx.toList != [])=φ/\(tx.toList==[])=τ)\/((tx.toList != [])=τ/\(tx.toList==[])=φ/\(J.toList != tx.toList)=φ/\(J.toList==tx.toList)=τ):=by
    rcases p with e|e
    ·left;rw[e];exact⟨by rw[bne,X8_];rfl,X8_⟩
    right;rw[e];exact⟨X,E,by rw[bne,beq_self_eq_true];rfl,beq_self_eq_true _⟩
   rcases b8 with⟨t1,t2⟩|⟨t1,t2,t3,t4⟩
   all_goals
    go_wp2_with fail;refine mb_ (HX.o _ _ y.o) ?_;rintro w6 ⟨am,h6,k6⟩;have z:=h_<|y.o.keepI k6 V.o;have O:=h_<|y.o.keep k6 HB.o (Ne.symm a.ty_str) dc_;have ae:=h_ h6;have P:=h_<|T.o.trans k6;have ca:=P.o.size;have aN:=h_ ah.o.1;go_wp2_with (at_builtin;(refine Qi_ _ rfl (.tmp 61) (.tmp 66) _ rfl w.heap.size 3 i0 (I_ j_ 0) 1 8 underlying83 K.o.1 K.o.2.1 K.o.2.2.1 K.o.2.2.2 rfl dc_ (S_ A n c) n (Qa_ ks) rfl (Mine.alloc z.o _) ⟨w6.heap.size,0,ν⟩ 1 1 [I_ j_ Y] rfl rfl (K8_ _ Y _) (K9_ _) mx_ oo so_ ?_);intro v' w7 F I M;obtain⟨A7,c7,rfl,h7,m7⟩:=RdI.appended ae.o z.o aN.o bra F I M)
    have aV:=h_<|(P.o.below bra).grown I (λg hg=>by rw[Q3_]at hg;exact(Mine.blk z.o hg).1);have aO:=h_<|(O.o.alloc (C_ #[I_ j_ Y] 3)).grown (Q3_ _ _ _ ▸ I) (λe=>by obtain⟨bS,a3⟩:=Qw_ (Mine.alloc z.o (C_ #[I_ j_ Y] 3)) e.symm;exact Kj_ (O.o.alloc _) a3 dc_ rfl);rw[<-Ke_]at m7;have af:=h_ h7;have aY:=h_ m7;go_wp2;go_roundw
    ·exact⟨J,ks++[Y],S,am,A7,n+1,c7,rfl,rfl,bO,aP,aL,aM,aY,af,aV,aO⟩
    exact ZG_ hi bi.o af.o<|ac.o.weak (i':=1) (j':=0) oo oo
  have a6:tx≠noT:=λe=>p (.inl e)
  have aD:tx≠KY_ a.sg (σ o) l:=λe=>p (.inr e)
  have q:=QgN_ hN HA.o HZ.o aK aC HC.o a6 aD;rw[av.o]at q aD;have C:=(Qh_ (σ o)).trans (Kg_ (Qf_ (σ o)) ⟨7,tx,ks,φ⟩);have ax:=h_ (λ(row:ON) (W:Ω) (A:OA) (n c:Nat) h hm=>Yu_ a.U hi d (Qf_ (σ o)) row 7 tx A n c ks w.heap.size W h hm ah.o);generalize KP_ (Qf_ (σ o)) ⟨7,tx,ks,φ⟩=r2 at q C ax;obtain⟨kp,a8⟩:=r2;dsimp only at q C ax;have k:=C.trans (HA.o a8);have HX:=h_ (λ(U:Nat->Prop) (row:ON) (W:Ω) h=>bp.o U a8 row W h (C.weak oo oo));generalize one a8=r3 at q k HX;obtain⟨Y,S⟩:=r3;dsimp only at q k HX;have aP:=h_ q;have aM:Ψ (KidB ([kp]++[Y]) S):=(show KidB _ _ from⟨by simp,λt e=>by
   obtain⟨ce,e2,_,h3⟩:=k t e;obtain rfl:=oi_ e2;simp;omega⟩)
  have aL:Ψ (Adv 1 1 st S):=(ap.o.trans k).weak oo oo;have ac:=h_ k;have b1:(J.toList==tx.toList)=φ:=by
   rw[bn_];exact λe=>aD (QgK_ e).symm
  have cn:(J.toList != tx.toList)=τ:=(by rw[bne,b1];rfl);have b7:(tx.toList==[])=φ:=by
   rcases bft (tx.toList==[])with e|e
   ·exact absurd (Qhs_ e) a6
   exact e
  have cy:(tx.toList != [])=τ:=(by rw[bne,b7];rfl);go_wp2_with fail;refine mb_ (ax.o _ _ _ _ _ y.o.unres V.o) ?_;rintro w5 ⟨co,h5,k5⟩;have bg:=h_<|y.o.keep k5 HB.o (Ne.symm a.ty_str) dc_;have aU:=h_<|T.o.trans k5;have cC:=aU.o.size;have ar:=h_<|h5.res_new (A:=σ ⟨w5.heap.size,0,ν⟩) (br.alloc (lr_ _) (C_ #[I_ j_ kp] 3)) (λg hg=>by simp at hg;subst hg;simp);have bm:=h_<|(GW_ w5 kp).more (B':=w.heap.size) oo;go_wp2_with fail
  refine mb_ (HX.o _ _ _ ar.o) ?_;rintro w6 ⟨am,h6,k6⟩;have z:=h_<|ar.o.keepI k6 bm.o;have O:=h_<|ar.o.keep k6 (bg.o.alloc _) (Ne.symm a.ty_str) dc_;have ae:=h_ h6;have P:=h_<|(aU.o.below bra).trans k6;have ca:=P.o.size;have aN:=h_ ah.o.1;go_wp2_with (at_builtin;(refine Qi_ _ rfl (.tmp 61) (.tmp 66) _ rfl w.heap.size 3 i0 (I_ j_ 0) 1 8 underlying83 K.o.1 K.o.2.1 K.o.2.2.1 K.o.2.2.2 rfl dc_ (S_ (σ ⟨w5.heap.size,0,ν⟩) 1 1) 1 (Qa_ [kp]) rfl (Mine.alloc z.o _) ⟨w6.heap.size,0,ν⟩ 1 1 [I_ j_ Y] rfl rfl (K8_ _ Y _) (K9_ _) mx_ oo so_ ?_);intro v' w7 F I M;obtain⟨A7,c7,rfl,h7,m7⟩:=RdI.appended ae.o z.o aN.o bra F I M)
  have aV:=h_<|(P.o.below bra).grown I (λg hg=>by rw[Q3_]at hg;exact(Mine.blk z.o hg).1);have aO:=h_<|(O.o.alloc (C_ #[I_ j_ Y] 3)).grown (Q3_ _ _ _ ▸ I) (λe=>by obtain⟨bS,a3⟩:=Qw_ (Mine.alloc z.o (C_ #[I_ j_ Y] 3)) e.symm;exact Kj_ (O.o.alloc _) a3 dc_ rfl);rw[<-Ke_]at m7;have af:=h_ h7;have aY:=h_ m7;go_wp2;go_roundw
  ·exact⟨J,[kp]++[Y],S,am,A7,2,c7,rfl,rfl,(show 2=2 from rfl),aP,aL,aM,aY,af,aV,aO⟩
  exact ZG_ hi bi.o af.o<|ac.o.weak (i':=1) (j':=0) oo oo
def Qfp_ (h:isM s y m=τ):(Qx_ s y 0).1=4:=by
 unfold isM at h;rw[τa]at h;exact eq_of_beq h.1
def QbD_ (h:Kp_ s y 0=τ):(Qx_ s y 0).1=1:=by
 unfold Kp_ at h;rw[τa]at h;exact eq_of_beq h.1
def qb_ (h:x7_ s y=τ):isM s y ⟨#[40]⟩=τ:=by
 unfold x7_ at h;rw[τa]at h;exact h.1
def Qhe_ (h:(Qx_ s y 0).1=k) (hk:k≠4) (m:BA):isM s y m=φ:=by
 rcases bft (isM s y m)with e|e
 ·exact absurd (h.symm.trans (Qfp_ e)) hk
 exact e
def QaG_ {N f:Nat} (hm:XC_ s) (d:Nat) (st:RdSt):YB_ s (Qd_ s N f) N d st=
  if Kp_ s st 0=τ then Qj_ s st else if ((Qx_ s st 0).1==2)=τ then YG_ s 2 st else if ((Qx_ s st 0).1==3)=τ then YG_ s 3 st
  else if isM s st ⟨#[91]⟩=τ then Qdq_ s (Qd_ s N f) N d st else if x7_ s st=τ then fnS s (Qd_ s N f) N d st else if isM s st ⟨#[40]⟩=τ then parS s (Qd_ s N f) d st else (0,ν):=by
 unfold YB_;by_cases h1:(Qx_ s st 0).1=1
 ·rw[ip_ h1];by_cases k:Kp_ s st 0=τ
  ·rw[ip_ k]
  have j:∀m,isM s st m=φ:=λm=>Qhe_ h1 dc_ m
  rw[in_ k,in_ (by rw[h1];decide),in_ (by rw[h1];decide),in_ (by rw[j];decide),in_ (λe=>by have:=qb_ e;rw[j]at this;exact absurd this dc_),in_ (by rw[j];decide)];unfold Qj_;rw[in_ k]
 rw[in_ h1,in_ (λe=>h1 (QbD_ e))];by_cases h:(Qx_ s st 0).1=2
 ·rw[ip_ h,ip_ (by rw[h];decide)]
 rw[in_ h,in_ (λe=>h (eq_of_beq e))];by_cases i:(Qx_ s st 0).1=3
 ·rw[ip_ i,ip_ (by rw[i];decide)]
 rw[in_ i,in_ (λe=>i (eq_of_beq e))];by_cases b:isM s st ⟨#[91]⟩=τ
 ·rw[ip_ b,ip_ b]
 rw[in_ b,in_ b];rcases bft (x7_ s st)with g|g
 ·rw[ip_ g,ip_ (qb_ g)];rcases bft (fnB s st)with c|c
  ·rw[ip_ c]
  rw[in_ (by rw[c];decide)];obtain⟨e1,e2⟩:=QaF_ (N:=N) (f:=f) hm d st g c;rw[e1,e2]
 rw[in_ (show ¬x7_ s st=τ by rw[g];decide)];by_cases a:isM s st ⟨#[40]⟩=τ
 ·rw[ip_ a,ip_ a];rcases bft (fnB s st)with c|c
  ·rw[Qe8_ hm st a c]at g;cases g
  rw[in_ (by rw[c];decide)]
 rw[in_ a,in_ a]
def QbQ_ (hi:a.imp=φ) (hm:XC_ a.sg) (N f:Nat) (hN:a.n<N) (HE:SC a N f) (d:Nat) (st:RdSt) (row:ON) (w:Ω) (Z:RdI a d st row w) (hn:Need a.n st 1 (f+1)) (hd:d+(f+1)<=100000) (H:Deep d st):
  Δ π 228 #[P_ (σ ⟨a.T,0,ν⟩)] w (QA_ a d row w (I_ j_ (YB_ a.sg (Qd_ a.sg N f) N d st).1) (YB_ a.sg (Qd_ a.sg N f) N d st).2):=by
 have t:=h_ Z;have L:=h_<|Kr.refl a.T row w;unfold QA_
 cases st with
 |none=>
  have hz:YB_ a.sg (Qd_ a.sg N f) N d ν=(0,ν):=GI_ (N:=N) (λm d=>Xy_ f m d) .base d;rw[hz];obtain⟨R,b,AN,cN,l,hc,hb,af⟩:=Z;obtain⟨c0,c1,c2,c3,c4,cf,cz⟩:=hc.cs hi;obtain rfl:b=τ:=hb;go_in;go_wp2;go_ret;exact⟨rfl,row,t.o,L.o⟩
 |some s=>
  obtain⟨R,b,AN,cN,l,hc,hb,af⟩:=id Z;obtain⟨c0,c1,c2,c3,c4,cf,cz⟩:=hc.cs hi;obtain⟨rfl,_,_⟩:=hb;have D:=Z.ok.len;have a2:=H s rfl;rw[QaG_ hm];have T1:=h_ (λ(W:Ω) h=>kU_ a hi d (σ s) row W h);rcases bft (Kp_ a.sg (σ s) 0)with V|V
  ·-- R name
   rw[ip_ V];rw[V]at T1;have E:=h_<|Jo_ (sg:=a.sg)<|some s;generalize Qj_ a.sg (σ s)=r at E |-
   obtain⟨k,st2⟩:=r;dsimp only;go_in;go_wp2_with fail;refine mb_ (T1.o _ t.o) ?_;intro w1 h1;have i:=h_<|t.o.next h1;have x:=h_<|L.o.below h1;go_wp2_with fail
   refine pst (YU_ a.U hi d (σ s) row w1 i.o) x ?_;intro w2 row2 j y;have aS:=h_ j.o.lo;have M:=h_<|Yu_ a.U hi d (nmS a.sg (σ s)) row2 1 (nmT a.sg (σ s)) _ 0 0 [] w2.heap.size (w2.alloc (C_ #[] 3)) (j.o.next bra) (Y3_ w2) aS.o;rw[E.o]at M;dsimp only at M;go_wp2_with fail
   refine pst (M.o) y ?_;intro w3 ag v z;go_wp2;go_ret;exact⟨rfl,ag,v.o,z.o⟩
  rw[in_ (by rw[V];decide)];rw[V]at T1;have T2:=h_ (λ(W:Ω) h=>Yn_ a hi d (σ s) row 2 dc_ dc_ W h);rcases bft ((Qx_ a.sg (σ s) 0).1==2)with X|X
  ·rw[ip_ X];rw[X]at T2;have X2:=h_ (λ(W:Ω) h=>Vy_ a hi d (σ s) row 2 dc_ dc_ W h (eq_of_beq X));unfold QA_ at X2;have E:=h_ (Qdj_ (sg:=a.sg) 2 (σ s));generalize YG_ a.sg 2 (σ s)=r at E |-
   obtain⟨k,st2⟩:=r;generalize (Qx_ a.sg (σ s) 0).2.1=tx at X2 E;dsimp only;go_in;go_wp2_with fail;refine mb_ (T1.o _ t.o) ?_;intro w1 h1;have i:=h_<|t.o.next h1;have x:=h_<|L.o.below h1;go_wp2_with fail
   refine mb_ (T2.o _ i.o) ?_;intro w2 B;have j:=h_<|i.o.next B;have y:=h_<|x.o.below B;go_wp2_with fail
   refine pst (X2.o w2 j.o) y ?_;intro w3 ag v z;have aT:=h_ v.o.lo;have M:=h_<|Yu_ a.U hi d (Qf_ (σ s)) ag 2 tx _ 0 0 [] w3.heap.size (w3.alloc (C_ #[] 3)) (v.o.next bra) (Y3_ w3) aT.o;rw[E.o]at M;dsimp only at M;go_wp2_with fail
   refine pst (M.o) z ?_;intro w4 p o C;go_wp2;go_ret;exact⟨rfl,p,o.o,C.o⟩
  rw[in_ (by rw[X];decide)];rw[X]at T2;have T3:=h_ (λ(W:Ω) h=>Yn_ a hi d (σ s) row 3 dc_ dc_ W h);rcases bft ((Qx_ a.sg (σ s) 0).1==3)with g3|g3
  ·rw[ip_ g3];rw[g3]at T3;have X2:=h_ (λ(W:Ω) h=>Vy_ a hi d (σ s) row 3 dc_ dc_ W h (eq_of_beq g3));unfold QA_ at X2;have E:=h_ (Qdj_ (sg:=a.sg) 3 (σ s));generalize YG_ a.sg 3 (σ s)=r at E |-
   obtain⟨k,st2⟩:=r;generalize (Qx_ a.sg (σ s) 0).2.1=tx at X2 E;dsimp only;go_in;go_wp2_with fail;refine mb_ (T1.o _ t.o) ?_;intro w1 h1;have i:=h_<|t.o.next h1;have x:=h_<|L.o.below h1;go_wp2_with fail
   refine mb_ (T2.o _ i.o) ?_;intro w2 B;have j:=h_<|i.o.next B;have y:=h_<|x.o.below B;go_wp2_with fail
   refine mb_ (T3.o _ j.o) ?_;intro w3 K;have v:=h_<|j.o.next K;have z:=h_<|y.o.below K;go_wp2_with fail
   refine pst (X2.o w3 v.o) z ?_;intro w4 p o C;have aa:=h_ o.o.lo;have M:=h_<|Yu_ a.U hi d (Qf_ (σ s)) p 3 tx _ 0 0 [] w4.heap.size (w4.alloc (C_ #[] 3)) (o.o.next bra) (Y3_ w4) aa.o;rw[E.o]at M;dsimp only at M;go_wp2_with fail
   refine pst (M.o) C ?_;intro w5 ah J G;go_wp2;go_ret;exact⟨rfl,ah,J.o,G.o⟩
  rw[in_ (by rw[g3];decide)];rw[g3]at T3;have T4:=h_ (λ(W:Ω) h=>X2_ a.U hi d (σ s) row ⟨#[91]⟩ W h);rcases bft (isM a.sg (σ s) ⟨#[91]⟩)with Y|Y
  ·rw[ip_ Y];rw[Y,Qy_ Y]at T4;have ad:s.at_<a.n:=by
    obtain⟨s2,e2,B⟩:=Xe_ Y;obtain rfl:=oi_ e2;omega
   have HO:=h_<|HE.one (d:=d) oo hn ad a2;have HA:=h_ (λst=>QB_ (sg:=a.sg) (N:=N) f .value d st);have bf:Ψ (LoB (s.at_+1) (Qf_ (σ s))):=(show LoB _ _ from λt' e=>by obtain rfl:=oi_ e;exact lr_ _);unfold Qdq_;generalize Qd_ a.sg N f .value d=one at HO HA |-
   have HV:=h_ (λ(row:ON) (W:Ω) h=>QhU_ a.U hi d (s.at_+1) one HO HA.o ⟨#[93]⟩ N (Qf_ (σ s)) row W h bf.o hN);generalize QG_ a.sg one ⟨#[93]⟩ N [] (Qf_ (σ s))=q at HV |-
   obtain⟨ks,st2⟩:=q;dsimp only at HV |-
   go_in;go_wp2_with fail;refine mb_ (T1.o _ t.o) ?_;intro w1 h1;have i:=h_<|t.o.next h1;have x:=h_<|L.o.below h1;go_wp2_with fail
   refine mb_ (T2.o _ i.o) ?_;intro w2 B;have j:=h_<|i.o.next B;have y:=h_<|x.o.below B;go_wp2_with fail
   refine mb_ (T3.o _ j.o) ?_;intro w3 K;have v:=h_<|j.o.next K;have z:=h_<|y.o.below K;go_wp2_with fail
   refine pst (T4.o w3 v.o) z ?_;intro w4 p o C;have aa:=h_ o.o.lo;go_wp2_with fail;refine(HV.o p w4 o.o).mono ?_;rintro e w5 ⟨A5,n5,c5,rfl,m5,ah,S,k5⟩;have bh:=h_ m5;have J:=h_ S;have G:=h_<|C.o.trans k5;go_wp2_with fail
   refine pst (Yu_ a.U hi d _ ah 4 noT A5 n5 c5 ks w4.heap.size w5 J.o bh.o aa.o) G ?_;intro w6 I F O;go_wp2;go_ret;exact⟨rfl,I,F.o,O.o⟩
  rw[in_ (by rw[Y];decide)];rw[Y,QD_ Y]at T4;have T5:=h_ (λ(row:ON) (W:Ω) h=>Qcs_ a hi d (σ s) row W h);rcases bft (x7_ a.sg (σ s))with g5|g5
  ·rw[ip_ g5];rw[g5]at T5;have ad:s.at_<a.n:=by
    obtain⟨s2,e2,B⟩:=Xe_ (qb_ g5);obtain rfl:=oi_ e2;omega
   obtain⟨i0,an⟩:=iq_ QY_;have aR:=h_ Z.lo;unfold fnS;dsimp only;have HL:=h_ (λ(row:ON) (W:Ω) h=>Wn_ a hi d N (σ s) row W h hN);have T:=((Qq_ (sg:=a.sg) (σ s) ⟨#[40]⟩).trans (Yz_ (sg:=a.sg) (QT_ (sg:=a.sg)) ⟨#[41]⟩ N [] (Qn_ a.sg (σ s) ⟨#[40]⟩)).2);generalize QG_ a.sg (Qj_ a.sg) ⟨#[41]⟩ N [] (Qn_ a.sg (σ s) ⟨#[40]⟩)=q at HL T |-
   obtain⟨ks,st2⟩:=q;dsimp only at HL T |-
   have P:=(T.trans (Qq_ (sg:=a.sg) _ ⟨#[41]⟩)).trans (Qq_ (sg:=a.sg) _ ⟨#[61,62]⟩);have M:=h_ (λ(U:Nat->Prop) (row:ON) (W:Ω) h=>HE.pick U d (Qn_ a.sg (Qn_ a.sg st2 ⟨#[41]⟩) ⟨#[61,62]⟩) row W h (hn.next ad (P.weak (i':=1) (j':=0) oo oo) oo) oo (H.adv P));unfold PosS at M;generalize Qd_ a.sg N f .pick d (Qn_ a.sg (Qn_ a.sg st2 ⟨#[41]⟩) ⟨#[61,62]⟩)=r at M |-
   obtain⟨k,bo⟩:=r;dsimp only at M |-
   go_in;go_wp2_with fail;refine mb_ (T1.o _ t.o) ?_;intro w1 h1;have i:=h_<|t.o.next h1;have x:=h_<|L.o.below h1;go_wp2_with fail
   refine mb_ (T2.o _ i.o) ?_;intro w2 B;have j:=h_<|i.o.next B;have y:=h_<|x.o.below B;go_wp2_with fail
   refine mb_ (T3.o _ j.o) ?_;intro w3 K;have v:=h_<|j.o.next K;have z:=h_<|y.o.below K;go_wp2_with fail
   refine pst (T4.o w3 v.o) z ?_;intro w4 p o C;go_wp2_with fail;refine mb_ (T5.o _ _ o.o) ?_;intro w5 S;have J:=h_<|o.o.next S;have G:=h_<|C.o.below S;go_wp2_with fail
   refine(HL.o _ _ J.o).mono ?_;rintro e w6 ⟨A,n,c,rfl,rfl,m6,bs,I,h6,k6⟩;have bl:=G.o.size;have aV:=h_<|m6.more (B':=w.heap.size) bl;have F:=h_ h6;have O:=h_<|G.o.trans k6;go_wp2_with fail
   refine mb_ (Yc_ _ hi d _ I ⟨#[61,62]⟩ w6 F.o) ?_;rintro w7 ⟨aC,h7,k7⟩;have aX:=h_<|F.o.keepI k7 aV.o;have al:=h_ h7;have aE:=h_<|O.o.trans k7;go_wp2_with fail
   refine mb_ (M.o _ _ _ al.o) ?_;rintro w8 ⟨ai,h8,k8⟩;have aG:=h_<|al.o.keepI k8 aX.o;have am:=h_ h8;have ao:=h_<|aE.o.trans k8;have bv:=ao.o.size;have bd:=h_ aR.o.1;go_wp2_with (at_builtin;(refine Qi_ _ rfl (.tmp 50) (.tmp 53) _ rfl w.heap.size 3 i0 (I_ j_ 0) 1 8 underlying83 an.o.1 an.o.2.1 an.o.2.2.1 an.o.2.2.2 rfl dc_ (S_ A (η ks) c) (η ks) (Qa_ ks) rfl (Mine.alloc aG.o _) ⟨w8.heap.size,0,ν⟩ 1 1 [I_ j_ k] rfl rfl (K8_ _ k _) (K9_ _) mx_ oo so_ ?_);intro v' w9 ae aK aB;obtain⟨A7,c7,rfl,h7,m7⟩:=RdI.appended am.o aG.o bd.o bra ae aK aB)
   have aF:=h_<|(ao.o.below bra).grown aK (λg hg=>by rw[Q3_]at hg;exact(Mine.blk aG.o hg).1);rw[<-Ke_]at m7;have aD:=h_ h7.unres;have bg:=h_ m7;go_wp2_with fail
   refine pst (Yu_ a.U hi d bo ai 9 noT A7 (η ks+1) c7 (ks++[k]) w.heap.size w9 aD.o bg.o aR.o) aF ?_;intro bx aL aP aQ;go_wp2;go_ret;exact⟨rfl,aL,aP.o,aQ.o⟩
  rw[in_ (by rw[g5];decide)];rw[g5]at T5;rcases bft (isM a.sg (σ s) ⟨#[40]⟩)with g6|g6
  ·rw[ip_ g6];have T6:=h_ (λ(row:ON) (W:Ω) h=>Yc_ a.U hi d (σ s) row ⟨#[40]⟩ W h);rw[Zr_ g6]at T6;have ad:s.at_<a.n:=by
    obtain⟨s2,e2,B⟩:=Xe_ g6;obtain rfl:=oi_ e2;omega
   unfold parS;dsimp only;have HV:=h_ (λ(row:ON) (W:Ω) h=>HE.value a.U d (Qf_ (σ s)) row W h (hn.next ad (Qh_ (σ s)) oo) oo (H.adv (Qh_ _)));unfold PosS at HV;generalize Qd_ a.sg N f .value d (Qf_ (σ s))=r at HV |-
   obtain⟨k,st2⟩:=r;dsimp only at HV |-
   go_in;go_wp2_with fail;refine mb_ (T1.o _ t.o) ?_;intro w1 h1;have i:=h_<|t.o.next h1;have x:=h_<|L.o.below h1;go_wp2_with fail
   refine mb_ (T2.o _ i.o) ?_;intro w2 B;have j:=h_<|i.o.next B;have y:=h_<|x.o.below B;go_wp2_with fail
   refine mb_ (T3.o _ j.o) ?_;intro w3 K;have v:=h_<|j.o.next K;have z:=h_<|y.o.below K;go_wp2_with fail
   refine pst (T4.o w3 v.o) z ?_;intro w4 p o C;go_wp2_with fail;refine mb_ (T5.o _ _ o.o) ?_;intro w5 S;have J:=h_<|o.o.next S;have G:=h_<|C.o.below S;go_wp2_with fail
   refine pst (T6.o p w5 J.o) G ?_;intro w6 I F O;obtain⟨a6,b6,bc,bj,l6,ac,aJ,Q⟩:=F.o;obtain⟨x0,x1,x2,x3,x4,xf,xz⟩:=ac.cs hi;obtain⟨rfl,_,_⟩:=aJ;go_wp2_with fail;refine mb_ (HV.o _ _ F.o) ?_;rintro w7 ⟨aC,h7,k7⟩;have al:=h_ h7;have aE:=h_<|O.o.trans k7;go_wp2_with fail
   refine pst (Yc_ a.U hi d st2 aC ⟨#[41]⟩ w7 al.o) aE ?_;intro w8 ai am ao;have aU:=h_ am.o.lo;go_wp2_with fail;refine pst (Yu_ a.U hi d _ ai 11 noT (σ ⟨w8.heap.size,0,ν⟩) 1 1 [k] w8.heap.size _ (am.o.alloc _) (GW_ w8 k) aU.o) ao ?_;intro w9 a8 aD aF;go_wp2;go_ret;exact⟨rfl,a8,aD.o,aF.o⟩
  rw[in_ (by rw[g6];decide)];have T6:=h_ (λ(row:ON) (W:Ω) h=>Yc_ a.U hi d (σ s) row ⟨#[40]⟩ W h);rw[GK_ g6]at T6;dsimp only;go_in;go_wp2_with fail;refine mb_ (T1.o _ t.o) ?_;intro w1 h1;have i:=h_<|t.o.next h1;have x:=h_<|L.o.below h1;go_wp2_with fail
  refine mb_ (T2.o _ i.o) ?_;intro w2 B;have j:=h_<|i.o.next B;have y:=h_<|x.o.below B;go_wp2_with fail
  refine mb_ (T3.o _ j.o) ?_;intro w3 K;have v:=h_<|j.o.next K;have z:=h_<|y.o.below K;go_wp2_with fail
  refine pst (T4.o w3 v.o) z ?_;intro w4 p o C;go_wp2_with fail;refine mb_ (T5.o _ _ o.o) ?_;intro w5 S;have J:=h_<|o.o.next S;have G:=h_<|C.o.below S;go_wp2_with fail
  refine pst (T6.o p w5 J.o) G ?_;intro w6 I F O;obtain⟨a6,b6,bc,bj,l6,ac,aJ,Q⟩:=F.o;obtain⟨x0,x1,x2,x3,x4,xf,xz⟩:=ac.cs hi;obtain rfl:b6=τ:=aJ;go_wp2;go_ret;exact⟨rfl,I,F.o,O.o⟩
def jw_ (hi:a.imp=φ) (d:Nat) (st:RdSt) (row:ON) (w:Ω) (b:RdI a d st row w):
  Δ π 69 #[P_ (σ ⟨a.T,0,ν⟩),I_ j_ 1] w λe w'=>e=R_ (B_ (Kp_ a.sg st 0))/\∃m,w'=w.drewN m:=by
 unfold Kp_;rcases b.see hi with⟨rfl,c2,hs,cz,cf⟩|⟨s,R,rfl,ha,o,c,c0,c1,c2,hs,cz,cf⟩|⟨s,R,b1,off,x,rfl,ha,p,c,c0,c1,c2,hx,hs,cz,cf,f,n,e0,e1,e2,e3⟩
 ·rw[hs,show((sgZero.1==1)&&!X5_ sgZero.2.1)=φ from rfl];go_in;go_wp2;go_quiet (fail);go_wp2;go_ret;exact⟨rfl,_,rfl⟩
 ·rw[hs,show((sgZero.1==1)&&!X5_ sgZero.2.1)=φ from rfl];have j:decide ((R:Int)<(a.n:Int))=φ:=by rw[decide_eq_false_iff_not];omega
  have g:¬(R:Int)<a.n:=oo;have i:¬R<a.n:=oo;have k:(a.n:Int)<=R:=oo;go_in;go_wp2;go_quiet (fail);go_wp2;go_ret;exact⟨rfl,_,rfl⟩
 rw[hs];obtain⟨kd,xt,xp,xz⟩:=x;dsimp only at e0 e1 e2 e3 |-
 have l:(R:Int)<a.n:=oo;rcases bft (kd==1)with h1|h1
 ·obtain rfl:kd=1:=eq_of_beq h1;rw[show((1:Int)==1)=τ from h1,τb];have HK:=h_ (λW=>Ju_ xt W);generalize X5_ xt=kb at HK |-
  go_in;go_wp2;go_quiet ((go_at_call 91;exact Calls.quiet_of_same ((HK.o _).mono λ_ _ h=>⟨h.1,h.2.symm⟩)));go_wp2;go_ret;exact⟨rfl,_,rfl⟩
 rw[h1,φa];go_in;go_wp2;go_quiet (fail);go_wp2;go_ret;exact⟨rfl,_,rfl⟩
def VO_ (hi:a.imp=φ) (d:Nat) (s:PS) (row:ON) (w:Ω) (b:RdI a d (σ s) row w):
  Δ π 51 #[P_ (σ ⟨a.T,0,ν⟩)] w λe w'=>e=R_ (B_ (Qx_ a.sg (σ s) 0).2.2.2)/\Λ w w':=by
 rcases b.see hi with⟨h,_⟩|⟨s',R,h,ha,n,c,c0,c1,c2,hs,cz,cf⟩|⟨s',R,b1,off,x,h,ha,o,c,c0,c1,c2,hx,hs,cz,cf,f,m,e0,e1,e2,e3⟩
 ·cases h
 ·rw[hs,show sgZero.2.2.2=φ from rfl];have j:decide ((R:Int)<(a.n:Int))=φ:=by rw[decide_eq_false_iff_not];omega
  have g:¬(R:Int)<a.n:=oo;have i:¬R<a.n:=oo;have k:(a.n:Int)<=R:=oo;go_in;go_wp2;go_quiet (fail);exact Γ
 rw[hs];have l:(R:Int)<a.n:=oo;go_in;go_wp2;go_quiet (fail);exact Γ
def QaY_:∀(l:List Nd) (k:Nat),k<η l->(l.flatMap Qv_).set (k*4+3) (B_ b)=(l.modify k (λx=>{ x with blank:=b })).flatMap Qv_:=by
 intro l
 induction l with
 |nil=>intro k h;cases h
 |cons x l ih=>
  intro k h
  cases k with
  |zero=>rfl
  |succ k=>
   have e:(k+1)*4+3=(k*4+3)+4:=oo;rw[e,List.flatMap_cons,List.modify_succ_cons,List.flatMap_cons,<-ih k (by simpa using h)]
   rfl
def QbB_ {α:Type} {f:α->α}:∀{l:List α} {k:Nat} {x:α},x∈l.modify k f->x∈l\/∃y∈l,x=f y:=by
 intro l
 induction l with
 |nil=>intro k x h;simp at h
 |cons a l ih=>
  intro k x h
  cases k with
  |zero=>
   simp at h;rcases h with rfl|h
   ·exact .inr ⟨a,by simp,rfl⟩
   exact .inl (by simp[h])
  |succ k=>
   simp at h;rcases h with rfl|h
   ·exact .inl sm_
   rcases ih h with h|⟨y,hy,rfl⟩
   ·exact .inl (by simp[h])
   exact .inr ⟨y,by simp[hy],rfl⟩
def QbA_:∀(l:List Nd) (k:Nat),(l.modify k (λx=>{ x with blank:=b })).map Nd.pn=(l.map Nd.pn).modify k (λx=>⟨x.kind,x.text,x.kids,b⟩):=by
 intro l
 induction l with
 |nil=>intro k;simp
 |cons a l ih=>
  intro k
  cases k with
  |zero=>rfl
  |succ k=>simp only[List.modify_succ_cons,List.map_cons,ih]
def RdC.blanked {R:RC} {a d:Nat} {b:Bool} {AN:OA} {cN:Nat} {l:List Nd} {w:Ω} (h:RdC R a d b AN cN l w) {k:Nat} (hk:k<η l) (v:Bool):
  ∃g,AN=σ ⟨g,0,ν⟩/\(∃u,w.cell? ⟨g,k*4+3,ν⟩=σ u)/\(∀i,w.frozen? ⟨g,i,ν⟩=φ)/\g<w.heap.size/\RdC R a d b AN cN (l.modify k (λx=>{ x with blank:=v })) (w.setCell ⟨g,k*4+3,ν⟩ (B_ v))/\Kr R.T (AN.map (·.block)) w (AN.map (·.block)) (w.setCell ⟨g,k*4+3,ν⟩ (B_ v)):=by
 obtain⟨h1,h2,n,h4,h5,h6,h7⟩:=h;have t:=h2.len;rcases h2.own with⟨_,e,_⟩|⟨g,rfl,hB,hn,hc,rest,f,hs⟩
 ·omega
 have r:R.T≠g:=Kj_ h1 f R.ty_node;have m:(l.flatMap Qv_).length=η l*4:=Xs_ Qv_ K1_ l;have c:(l.modify k (λx=>{ x with blank:=v })).length=η l:=by simp
 have o:=f.set_ (k*4+3) (B_ v);have p:((l.flatMap Qv_++rest).toArray).setIfInBounds (k*4+3) (B_ v)=((l.modify k (λx=>{ x with blank:=v })).flatMap Qv_++rest).toArray:=by
  rw[<-QaY_ v l k hk];simp only[List.setIfInBounds_toArray];rw[List.set_append_left _ _ (by rw[m];omega)]
 rw[p]at o;have j:∃u,w.cell? ⟨g,k*4+3,ν⟩=σ u:=by
  rw[f.cell];exact⟨_,by rw[List.getElem?_toArray];exact List.getElem?_eq_getElem (l:=l.flatMap Qv_++rest) (i:=k*4+3) (by rw[lA,m];omega)⟩
 refine⟨g,rfl,j,f.frozen,f.lt,⟨?_,?_,⟨λx q=>?_,λg hg=>by simpa[World.setCell]using n.2 g hg⟩,by rw[c];exact h4,h5,h6.setCell hB _,h7⟩,?_⟩
 ·rw[c];exact h1.far r _
 ·rw[c];exact Mine.mk_own ⟨rest,o,by
   have:=hs;simp only[lA,m,Xs_ Qv_ K1_,c]at this |-
   exact this⟩ (by rw[Xs_ Qv_ K1_,c]) hB hn hc
 ·rcases QbB_ q with q|⟨y,hy,rfl⟩
  ·exact⟨(n.1 x q).1,Qt_ (n.1 x q).2 f dc_ _ _⟩
  exact⟨(n.1 y hy).1,Qt_ (n.1 y hy).2 f dc_ _ _⟩
 exact⟨by simp[World.setCell],.inl rfl,λg' s ht hr=>Below.heap_setCell w ⟨g,k*4+3,ν⟩ _ g' (λe=>hr (by rw[e];rfl))⟩
def Ze_ (hi:a.imp=φ) (d:Nat) (st:RdSt) (row:ON) (k:Int) (hk:0<=k) (b:Bool) (w:Ω) (hI:RdI a d st row w):
  Δ π 53 #[P_ (σ ⟨a.T,0,ν⟩),I_ j_ k,B_ b] w (QA_ a d row w (U_ #[]) (Zs_ k b st)):=by
 unfold QA_;have f:=h_ hI;obtain⟨R,bb,AN,cN,l,h,j,c⟩:=hI;obtain⟨c0,c1,c2,c3,c4,cf,cz⟩:=h.cs hi;obtain⟨k,rfl⟩:∃k':Nat,k=k':=⟨k.toNat,oo⟩;clear hk
 cases st with
 |none=>
  obtain rfl:bb=τ:=j;rw[show Zs_ (k:Int) b ν=ν from rfl];clear h c c0 c1 c3 c4;go_in;go_wp2;go_end0;exact⟨rfl,row,f.o,Kr.refl _ _ _⟩
 |some s=>
  obtain⟨rfl,ha,e⟩:=j;rcases Nat.lt_or_ge k (η l) with n|m
  ·obtain⟨g,rfl,⟨u,hu⟩,hf,hz,hC,hK⟩:=h.blanked n b;have q:(k:Int)<(η l:Int):=oo;have HC:=h_ hC;have HK:=h_ hK;have HH:Ψ (StOk (Zs_ (k:Int) b (σ s)) φ R (l.modify k (λx=>{ x with blank:=b }))):=(show StOk _ _ _ _ from⟨rfl,ha,by rw[QbA_,<-e];simp⟩);subst c;clear h hC hK c0 c1 c3 f e;go_in;go_wp2;go_end0;exact⟨rfl,_,⟨R,φ,_,_,_,HC.o,HH.o,rfl⟩,HK.o⟩
  have p:decide ((k:Int)<(η l:Int))=φ:=df_ oo;have o:¬(k:Int)<(η l:Int):=oo;have i:Zs_ (k:Int) b (σ s)=σ s:=by
   unfold Zs_;rw[Option.map_some,it_,List.modify_eq_self (by rw[e,List.length_map];exact m)]
  rw[i];clear h c c0 c1 c3 e i;go_in;go_wp2;go_end0;exact⟨rfl,row,f.o,Kr.refl _ _ _⟩
def vL_ (hi:a.imp=φ) (N f:Nat) (HE:SC a N f) (d:Nat) (st:RdSt) (row:ON) (w:Ω) (hI:RdI a d st row w) (hn:Need a.n (Qn_ a.sg st ⟨#[40]⟩) 11 f) (hd:d+f<=100000) (R:Deep d st):
  Δ π 110 #[P_ (σ ⟨a.T,0,ν⟩)] w (QA_ a d row w (I_ j_ (JJ_ a.sg (Qd_ a.sg N f) d st).1) (JJ_ a.sg (Qd_ a.sg N f) d st).2):=by
 have e:=h_ hI;have l:=h_<|Kr.refl a.T row w;unfold QA_ JJ_;dsimp only;have c:=h_ (λ(row:ON) (W:Ω) h=>HE.value a.U d (Qn_ a.sg st ⟨#[40]⟩) row W h hn hd (R.adv (Qq_ _ _)));unfold PosS at c;generalize Qd_ a.sg N f .value d (Qn_ a.sg st ⟨#[40]⟩)=r at c |-
 obtain⟨k,st2⟩:=r;dsimp only at c |-
 go_in;go_wp2_with fail;refine pst (KN_ a hi d st row ⟨#[40]⟩ w e.o) l ?_;intro w1 p g m;go_wp2_with fail;refine pst (c.o _ _ g.o) m ?_;intro w2 row2 i n;go_wp2_with fail;refine pst (KN_ a hi d st2 row2 ⟨#[41]⟩ w2 i.o) n ?_;intro w3 b j o;go_wp2;go_ret;exact⟨rfl,b,j.o,o.o⟩
def YS_ (hi:a.imp=φ) (N f:Nat) (HE:SC a N f) (d:Nat) (st:RdSt) (row:ON) (w:Ω) (O:RdI a d st row w) (hn:Need a.n (Qf_ (nmS a.sg st)) 11 f) (hd:d+f<=100000) (F:Deep d st):
  Δ π 72 #[P_ (σ ⟨a.T,0,ν⟩)] w (QA_ a d row w (I_ j_ (Jx_ a.sg (Qd_ a.sg N f) d φ st).1) (Jx_ a.sg (Qd_ a.sg N f) d φ st).2):=by
 have ao:=h_ O;have K:=h_<|Kr.refl a.T row w;have B:=h_ O.lo;unfold QA_ Jx_;have b:=(F.adv (Jy_ (sg:=a.sg) st)).adv (Qh_ _);have HX:=h_<|YU_ a.U hi d st row w O;generalize nmT a.sg st=tx at HX |-
 generalize nmS a.sg st=o at HX hn b |-
 have HS:=h_ (λ(U:Nat->Prop) (row:ON) (W:Ω) h=>X2_ U hi d o row ⟨#[61]⟩ W h);rcases bft (isM a.sg o ⟨#[61]⟩)with s|s
 ·rw[ip_ s];rw[s,Qy_ s]at HS;dsimp only;obtain⟨i0,Q,S,t,T⟩:=info_parts QY_;have p:=h_ (ai_ Q (ai_ S (ai_ t T)));have HV:=h_ (λ(U:Nat->Prop) (row:ON) (W:Ω) h=>HE.value U d (Qf_ o) row W h hn hd b);unfold PosS at HV;generalize Qd_ a.sg N f .value d (Qf_ o)=r at HV |-
  obtain⟨k,st2⟩:=r;dsimp only at HV |-
  go_in;go_wp2_with fail;refine pst (HX.o) K ?_;intro w1 V x i;have t:=i.o.size;have C:=h_<|(Y3_ w1).more (B':=w.heap.size) oo;have R:=h_<|x.o.res_new (A:=σ ⟨w1.heap.size,0,ν⟩) (br.alloc (lr_ _) (C_ #[] 3)) (λg P=>by simp at P;subst P;simp);have j:=h_<|i.o.below<|br.alloc (lr_ _)<|C_ #[] 3;go_wp2_with fail
  refine mb_ (HS.o _ _ _ R.o) ?_;rintro w2 ⟨row2,L,H⟩;have l:=h_<|R.o.keepI H C.o;have c:=h_ L;have z:=h_<|j.o.trans H;go_wp2_with fail
  refine mb_ (HV.o _ _ _ c.o) ?_;rintro w3 ⟨n,M,I⟩;have D:=h_<|c.o.keepI I l.o;have y:=h_ M;have q:=h_<|z.o.trans I;have ap:=q.o.size;have ae:=h_ B.o.1;go_wp2_with (at_builtin;(refine Qi_ _ rfl (.tmp 10) (.tmp 13) _ rfl w.heap.size 3 i0 (I_ j_ 0) 1 8 underlying83 p.o.1 p.o.2.1 p.o.2.2.1 p.o.2.2.2 rfl dc_ (S_ (σ ⟨w1.heap.size,0,ν⟩) 0 0) 0 (Qa_ []) rfl (Mine.alloc D.o _) ⟨w3.heap.size,0,ν⟩ 1 1 [I_ j_ k] rfl rfl (K8_ _ k _) (K9_ _) mx_ oo so_ ?_);intro v' w7 m G v;obtain⟨A7,c7,rfl,h7,m7⟩:=RdI.appended y.o D.o ae.o bra m G v)
  have aj:=h_<|(q.o.below bra).grown G (λg P=>by rw[Q3_]at P;exact(Mine.blk D.o P).1);rw[<-Ke_]at m7;have J:=h_ h7.unres;have E:=h_ m7;go_wp2_with fail
  refine mb_ (KN_ a hi d st2 n ⟨#[59]⟩ w7 J.o) ?_;rintro w8 ⟨Y,h8,k8⟩;replace E:=VE_ J k8 E;have ak:=QS_ aj k8;have ag:=h_ h8;go_wp2_with fail;refine pst (Yu_ a.U hi d _ Y 12 tx A7 (0+1) c7 [k] w.heap.size w8 ag.o E.o B.o) ak ?_;intro w9 Z ah al;go_wp2;go_ret;exact⟨rfl,Z,ah.o,al.o⟩
 rw[in_ (by rw[s];decide)];rw[s,QD_ s]at HS;go_in;go_wp2_with fail;refine pst (HX.o) K ?_;intro w1 V x i;have t:=i.o.size;have C:=h_<|(Y3_ w1).more (B':=w.heap.size) oo;have R:=h_<|x.o.next<|br.alloc (lr_ _)<|C_ #[] 3;have j:=h_<|i.o.below<|br.alloc (lr_ _)<|C_ #[] 3;go_wp2_with fail
 refine mb_ (HS.o _ _ _ R.o) ?_;rintro w2 ⟨row2,L,H⟩;have l:=h_<|R.o.keepI H C.o;have c:=h_ L;have z:=h_<|j.o.trans H;go_wp2_with fail
 refine mb_ (KN_ a hi d o row2 ⟨#[59]⟩ w2 c.o) ?_;rintro w3 ⟨n,M,I⟩;replace l:=VE_ c I l;have q:=QS_ z I;have y:=h_ M;go_wp2_with fail;refine pst (Yu_ a.U hi d _ n 12 tx _ 0 0 [] w.heap.size w3 y.o l.o B.o) q ?_;intro w4 X af ai;go_wp2;go_ret;exact⟨rfl,X,af.o,ai.o⟩
def QfI_ (hi:x.imp=φ) (h:RdI x d y u w) (hd:d<20):
  RdI x (d+1) (KI_ d y) u (w.setCell ⟨x.T,3,ν⟩ (I_ j_ ((d:Int)+1)))/\Kr x.T u w u (w.setCell ⟨x.T,3,ν⟩ (I_ j_ ((d:Int)+1))):=by
 obtain⟨a,b,AN,cN,l,hc,e,c⟩:=h;unfold KI_;rw[in_ oo];exact RdI.snest1 hi hc e c oo
def QdI_ {R:RC} {d:Nat} {st:RdSt} {row:ON} {w:Ω} (hi:R.imp=φ) (h:RdI R d st row w):
  RdI R (d+1) ν row ((w.setCell ⟨R.T,3,ν⟩ (I_ j_ ((d:Int)+1))).setCell ⟨R.T,2,ν⟩ (B_ τ))/\Kr R.T row w row ((w.setCell ⟨R.T,3,ν⟩ (I_ j_ ((d:Int)+1))).setCell ⟨R.T,2,ν⟩ (B_ τ)):=by
 obtain⟨a,b,AN,cN,l,hc,g,e⟩:=h;have hF:=RdI.snest1 hi hc g e (u:=(d:Int)+1) (d':=d+1) oo;obtain⟨a',b',j,k,l',f,i,c⟩:=hF.1;have hG:=RdI.sbad1 hi f c;exact⟨hG.1,hF.2.trans hG.2⟩
def QdJ_ (m:BA):Qn_ s (KI_ l o) m=KI_ l (Qn_ s o m):=by
 unfold KI_;by_cases h:l=20
 ·rw[ip_ h,ip_ h,XB_]
 rw[in_ h,in_ h]
def Vb_ (x:PN):0<=(KP_ e x).1:=by
 unfold KP_;split
 ·exact Int.le_refl _
 split
 ·exact Int.le_refl _
 exact Int.natCast_nonneg _
section
variable {sg:List SgP} {E:Md->Nat->RdSt->PR} {N:Nat}
def jI_:0<=(Xm_ sg b h).1:=Vb_ _ _
def QeN_:0<=(Jx_ sg E l n o).1:=by
 unfold Jx_;split
 ·exact Vb_ _ _
 exact Vb_ _ _
def QhP_:0<=(ZJ_ sg E l n o).1:=by
 unfold ZJ_;split
 ·exact jI_ _ _
 split
 ·exact QeN_ _ _ _
 split
 ·unfold Yp_;split<;>exact Vb_ _ _
 split
 ·unfold ifS;dsimp only;split<;>exact Vb_ _ _
 split
 ·exact Vb_ _ _
 split
 ·exact Vb_ _ _
 exact Vb_ _ _
def QgS_:0<=(Qd_ sg N l (.stmt q) p r).1:=by
 cases l with
 |zero=>exact Int.le_refl _
 |succ l=>exact QhP_ p q r
def Qir_:0<=(V6_ sg E N b h).1:=by
 unfold V6_;split
 ·exact jI_ _ _
 split
 ·exact QeN_ _ _ _
 exact Vb_ _ _
def QiJ_:0<=(Y9_ sg E N b h).1:=by
 unfold Y9_;split
 ·exact jI_ _ _
 split
 ·exact QeN_ _ _ _
 split
 ·exact Vb_ _ _
 exact Vb_ _ _
end
def jS_ (hi:a.imp=φ) (N f:Nat) (hN:a.n<N) (HE:SC a N f) (d:Nat) (st:RdSt) (row:ON) (w:Ω) (hI:RdI a d st row w) (hn:Need a.n st 13 (f+1)) (hd:d+(f+1)<=100000) (bq:Deep d st):
  Δ π 76 #[P_ (σ ⟨a.T,0,ν⟩)] w (QA_ a d row w (I_ j_ (Ye_ a.sg (Qd_ a.sg N f) N d st).1) (Ye_ a.sg (Qd_ a.sg N f) N d st).2):=by
 obtain⟨i0,bx,bA,a7,a8⟩:=info_parts QY_;have bV:=h_ (ai_ bx (ai_ bA (ai_ a7 a8)));have bU:=h_ hI;have bo:=h_ (Kr.refl a.T row w);have a5:=h_ hI.lo;have a3:=h_ hI.lo.1;have bT:=hI.ok.len;have HO:Ψ (∀(U:Nat->Prop) (t:PS) (row:ON) (w:Ω),RdI { a with U:=U } (d+1) (σ t) row w->Adv 1 0 st (σ t)->Deep (d+1) (σ t)->Δ π 94 #[P_ (σ ⟨a.T,0,ν⟩)] w (λe w'=>e=R_ (I_ j_ (Qd_ a.sg N f (.stmt φ) (d+1) (σ t)).1)/\∃row',RdI { a with U:=U } (d+1) (Qd_ a.sg N f (.stmt φ) (d+1) (σ t)).2 row' w'/\Kr a.T row w row' w')):=(show ∀U t row w,_->_->_->_ from λU t row w h ha bL=>HE.step U (d+1) (σ t) row w h (by
  obtain⟨s,rfl,h1,_⟩:=ha t rfl;have h2:=(h.le rfl).1;have h3:({ a with U:=U }:RC).n=a.n:=rfl;exact hn.next oo (ha.weak (i':=0+1) (j':=0) oo oo) oo) oo bL)
 have ac:Ψ (∀b st,Qd_ a.sg N f (.stmt b) (d+1) st=Xa_ b (Qd_ a.sg N f (.stmt φ) (d+1) st)):=(show ∀b st,_ from λb st=>QaS_ f (d+1) b st);have be:Ψ (∀st,0<=(Qd_ a.sg N f (.stmt φ) (d+1) st).1):=(show ∀st,_ from λst=>QgS_ f (d+1) φ st);have aK:Ψ (∀b st,Adv 1 1 st (Qd_ a.sg N f (.stmt b) (d+1) st).2):=(show ∀b st,_ from λb st=>QB_ f (.stmt b) (d+1) st);unfold QA_ Ye_;dsimp only;rw[QdJ_];have aV:=(Qq_ (sg:=a.sg) st ⟨#[123]⟩);have aE:=bq.adv aV;have ba:=Xq_ d (Qn_ a.sg st ⟨#[123]⟩);obtain⟨Q,hQ⟩:=ex_ (Zv_ a.sg (λb=>Qd_ a.sg N f (.stmt b) (d+1)) N [] (KI_ d (Qn_ a.sg st ⟨#[123]⟩)));rw[hQ];have HQ:=h_ hQ;obtain⟨T,hT⟩:=ex_ (Qn_ a.sg Q.2 ⟨#[125]⟩);rw[hT];have HT:=h_ hT;have ab:Ψ (Adv 1 0 st (KI_ d (Qn_ a.sg st ⟨#[123]⟩))):=(aV.trans ba).weak oo oo;have aD:Ψ (Deep (d+1) (KI_ d (Qn_ a.sg st ⟨#[123]⟩))):=aE.nest;obtain⟨one,aF⟩:=ex_ (λb=>Qd_ a.sg N f (.stmt b) (d+1));have bm:Ψ (∀b st,Adv 1 1 st (one b st).2):=(show ∀b st,_ by rw[<-aF];exact aK.o);have aS:Ψ (∀b st,one b st=Xa_ b (Qd_ a.sg N f (.stmt φ) (d+1) st)):=(show ∀b st,_ by rw[<-aF];exact ac.o);rw[aF]at HQ;have ac:=aS;have aK:=bm;generalize Qd_ a.sg N f (.stmt φ) (d+1)=bc at HO ac be;have a6:=h_ (KN_ a hi d st row ⟨#[123]⟩ w hI);unfold QA_ at a6;generalize Qn_ a.sg st ⟨#[123]⟩=bB at HQ ab aD a6 aE;have bb:20<=d->KI_ d bB=ν:=λh=>by
  cases bB with
  |none=>exact Gz_ d
  |some s1=>have:=aE s1 rfl;exact ip_ oo
 have bn:=h_ bb;have bX:IntKind.i64.wrap ((d:Int)+1)=(d:Int)+1:=IntWalk.i64_in _ oo;rcases Nat.lt_or_ge d 20 with bi|bh
 ·have aY:¬(20:Int)<(d:Int)+1:=oo;have bv:decide ((20:Int)<(d:Int)+1)=φ:=df_ aY;go_in;go_wp2_with fail;refine pst (a6.o) bo ?_;intro w1 a2 aO aQ;have a7:=aQ.o.size;obtain⟨R,b,AN,cN,l,hc,hb,z⟩:=id aO.o;obtain⟨c0,c1,c2,c3,c4,cf,cz⟩:=hc.cs hi;have ap:=h_<|QfI_ hi aO.o bi;go_upto_region 6 with fail
  have n:=h_ ap.o.1;have k:=h_<|aQ.o.trans ap.o.2;generalize hW:w1.setCell ⟨a.T,3,ν⟩ (I_ j_ ((d:Int)+1))=W2 at n k |-
  have a0:W2.heap.size=w1.heap.size:=by rw[<-hW];simp[World.setCell]
  have a8:=k.o.size;have o:=h_<|(Y3_ W2).more (B':=w.heap.size) oo;have m:=h_<|n.o.res_new (A:=σ ⟨W2.heap.size,0,ν⟩) (br.alloc (lr_ _) (C_ #[] 3)) (λg hg=>by simp at hg;subst hg;simp);have p:=h_<|k.o.below<|br.alloc (lr_ _)<|C_ #[] 3;rw[a0]at o m;go_loopw [3] (λv wr=>∃(M:Nat) (ks:LI) (st':RdSt) (row':ON) (A:OA) (c:Nat),v=S_ A (η ks) c/\Ψ (Zv_ a.sg one M ks st'=Q)/\Ψ (Adv 1 0 st st')/\Ψ (Deep (d+1) st')/\Ψ (Enough a.n M st')/\Ψ (KidB ks st')/\Ψ (Mine wr w.heap.size 3 1 A (η ks) c (Qa_ ks))/\Ψ (RdI (a.res A) (d+1) st' row' wr)/\Ψ (Kr a.T row w row' wr)) (λ_ wr=>Jn_ a wr)
  ·exact⟨N,[],_,a2,_,0,rfl,HQ,ab,aD,(show Enough _ _ _ from QP_ hN _),⟨by simp,λs _=>by simp⟩,o,m,p⟩
  obtain⟨M,ks,st',row',A,c,rfl,HQ,aL,aM,aN,aR,H,G,HK⟩:=hrel;have aP:=G
  cases st' with
  |none=>
   obtain⟨R,b,AN,cN,l,hc,hb,z⟩:=G.o;obtain⟨c1,c2,c3,cf,cz⟩:=hc.csu _ hi;obtain rfl:b=τ:=hb;have y:=HQ.o;rw[Xx_]at y;subst y;have ht:=HT.o;rw[XB_]at ht;subst ht;obtain⟨d3,df,dz,P,E⟩:=Jp_ hi G.o;have az:=h_<|G.o.keepI E H.o;have aq:=h_ P.unres;have ay:=h_<|HK.o.trans E;go_wp2_with fail
   refine mb_ (Yu_ a.U hi d ν _ 18 noT A (η ks) c ks w.heap.size _ aq.o az.o a5.o) ?_;rintro w9 ⟨Y,h9,k9⟩;go_wp2;go_ret;exact⟨rfl,Y,h9,ay.o.trans k9⟩
  |some t=>
   obtain⟨M,rfl⟩:∃M',M=M'+1:=⟨M-1,by
    have h1:=aN.o t rfl;have h2:=(G.o.le rfl).1;have:(a.res A).n=a.n:=rfl;omega⟩
   obtain⟨R,b,AN,cN,l,hc,hb,z⟩:=G.o;obtain⟨c1,c2,c3,cf,cz⟩:=hc.csu _ hi;obtain⟨rfl,_,_⟩:=hb;have D:=h_<|X2_ _ hi (d+1) (σ t) row' ⟨#[125]⟩ wr G.o;have y:=HQ.o;unfold Zv_ at y;rw[in_ (show ¬(σ t).isNone=τ by simp)]at y;rcases bft (isM a.sg (σ t) ⟨#[125]⟩)with Z|Z
   ·rw[ip_ Z]at y;subst y;have ht:=HT.o;rw[show Qn_ a.sg (ks,σ t).2 ⟨#[125]⟩=Qf_ (σ t)from Zr_ Z]at ht;subst ht;rw[Z,Qy_ Z]at D;go_wp2_with fail;refine mb_ D.o ?_;rintro w2 ⟨row2,h2,S⟩;have q:=h_<|G.o.keepI S H.o;have k:=h_<|HK.o.trans S;replace H:=q;replace HK:=k;replace G:=h_ h2;obtain⟨d3,df,dz,P,E⟩:=Jp_ hi G.o;have az:=h_<|G.o.keepI E H.o;have aq:=h_ P.unres;have ay:=h_<|HK.o.trans E;go_wp2_with fail
    refine mb_ (Yu_ a.U hi d (Qf_ (σ t)) _ 18 noT A (η ks) c ks w.heap.size _ aq.o az.o a5.o) ?_;rintro w9 ⟨Y,h9,k9⟩;go_wp2;go_ret;exact⟨rfl,Y,h9,ay.o.trans k9⟩
   rw[in_ (by rw[Z];decide)]at y;rw[Z,QD_ Z]at D;have HX:=h_ (λ(row:ON) (W:Ω) h=>VO_ (a.res A) hi (d+1) t row W h);have ak:XI_ a.sg (σ t) ks=((Qx_ a.sg (σ t) 0).2.2.2&&decide (0<η ks)):=rfl;rw[ak]at y;have aZ:(a.res A).sg=a.sg:=rfl;rw[aZ]at HX;generalize Qx_ a.sg (σ t) 0=x at HX y ak;obtain⟨xk,xt,xp,xz⟩:=x;dsimp only at HX y ak;have bz:=aR.o.2 t rfl;have bN:=(G.o.le rfl).2;have bM:=aR.o.1;have j:=aK.o (xz&&decide (0<η ks)) (σ t);rw[ac.o]at y j;have am:=be.o (σ t);have HC:=h_ (λ(row:ON) (W:Ω) h=>HO.o (λx=>a.U x\/A.map (·.block)=σ x) t row W h aL.o aM.o);generalize bc (σ t)=r at y j am HC;obtain⟨kc,I⟩:=r;unfold Xa_ at y j;dsimp only at y j am HC;have af:Ψ (KidB (ks++[kc]) (Zs_ kc (xz&&decide (0<η ks)) I)):=(show KidB _ _ from⟨by rw[lA];simp;omega,λt2 e=>by
    obtain⟨bO,e2,_,h3⟩:=j t2 e;obtain rfl:=oi_ e2;rw[lA];simp;omega⟩)
   have ag:Ψ (Enough a.n M (Zs_ kc (xz&&decide (0<η ks)) I)):=aN.o.adv (i:=0) j;have ae:Ψ (Adv 1 0 st (Zs_ kc (xz&&decide (0<η ks)) I)):=(aL.o.trans j).weak oo oo;have ah:Ψ (Deep ((d+1)) (Zs_ kc (xz&&decide (0<η ks)) I)):=aM.o.adv j;have al:(ks++[kc]).length=η ks+1:=sm_;have ai:=h_ y;have F:=h_ j
   cases xz with
   |false=>
    rw[φa]at af ag ae ah ai F;go_wp2_with fail;refine mb_ D.o ?_;rintro w2 ⟨row2,h2,S⟩;have n:=h_ h2;have q:=h_<|G.o.keepI S H.o;have k:=h_<|HK.o.trans S;go_wp2_with fail
    refine mb_ (HX.o _ _ n.o) ?_;intro w3 g3;have m:=h_<|n.o.next g3;have o:=h_<|q.o.next g3;have p:=h_<|k.o.below g3;go_wp2_with fail
    refine mb_ (HC.o _ _ m.o) ?_;rintro w4 ⟨V,h4,k4⟩;have L:=h_<|m.o.keepI k4 o.o;have C:=h_ h4;have K:=h_<|p.o.trans k4;have B:=h_<|Ze_ (a.res A) hi (d+1) I V kc am φ w4 C.o;unfold QA_ at B;go_wp2_with fail
    refine mb_ B.o ?_;rintro w5 ⟨X,h5,k5⟩;have H:=h_<|C.o.keepI k5 L.o;have ar:=h_ h5;have av:=h_<|K.o.trans k5;go_wp2_with (at_builtin;refine KA_ (.tmp 48) (.tmp 50) ar av H a3 rfl rfl rfl rfl oo ?_;intro A6 c6 w6 J ax O)
    replace H:=O;go_wp2;go_roundw
    ·exact⟨M,ks++[kc],_,X,A6,c6,by rw[al],ai,ae,ah,ag,af,by rw[al];exact H,J,ax⟩
    exact ZG_ hi aP.o J.o<|F.o.weak (i':=1) (j':=0) oo oo
   |true=>
    rw[τb]at af ag ae ah ai F;go_wp2_with fail;refine mb_ D.o ?_;rintro w2 ⟨row2,h2,S⟩;have n:=h_ h2;have q:=h_<|G.o.keepI S H.o;have k:=h_<|HK.o.trans S;go_wp2_with fail
    refine mb_ (HX.o _ _ n.o) ?_;intro w3 g3;have m:=h_<|n.o.next g3;have o:=h_<|q.o.next g3;have p:=h_<|k.o.below g3;go_wp2_with fail
    refine mb_ (HC.o _ _ m.o) ?_;rintro w4 ⟨V,h4,k4⟩;have L:=h_<|m.o.keepI k4 o.o;have C:=h_ h4;have K:=h_<|p.o.trans k4;have B:=h_<|Ze_ (a.res A) hi (d+1) I V kc am (decide (0<η ks)) w4 C.o;unfold QA_ at B;go_wp2_with fail
    refine mb_ B.o ?_;rintro w5 ⟨X,h5,k5⟩;have H:=h_<|C.o.keepI k5 L.o;have ar:=h_ h5;have av:=h_<|K.o.trans k5;go_wp2_with (at_builtin;refine KA_ (.tmp 48) (.tmp 50) ar av H a3 rfl rfl rfl rfl oo ?_;intro A6 c6 w6 J ax O)
    replace H:=O;go_wp2;go_roundw
    ·exact⟨M,ks++[kc],_,X,A6,c6,by rw[al],ai,ae,ah,ag,af,by rw[al];exact H,J,ax⟩
    exact ZG_ hi aP.o J.o<|F.o.weak (i':=1) (j':=0) oo oo
 have aY:(20:Int)<(d:Int)+1:=oo;have bv:decide ((20:Int)<(d:Int)+1)=τ:=dt_ aY;have bK:=bn.o bh;rw[bK]at HQ ab aD;go_in;go_wp2_with fail;refine pst (a6.o) bo ?_;intro w1 a2 aO aQ;have a7:=aQ.o.size;obtain⟨R,b,AN,cN,l,hc,hb,z⟩:=id aO.o;obtain⟨c0,c1,c2,c3,c4,cf,cz⟩:=hc.cs hi;have ap:=h_<|QdI_ hi aO.o;go_upto_region 6 with fail
 have n:=h_ ap.o.1;have k:=h_<|aQ.o.trans ap.o.2;generalize hW:(w1.setCell ⟨a.T,3,ν⟩ (I_ j_ ((d:Int)+1))).setCell ⟨a.T,2,ν⟩ (B_ τ)=W2 at n k |-
 have a0:W2.heap.size=w1.heap.size:=by rw[<-hW];simp[World.setCell]
 have a8:=k.o.size;have o:=h_<|(Y3_ W2).more (B':=w.heap.size) oo;have m:=h_<|n.o.res_new (A:=σ ⟨W2.heap.size,0,ν⟩) (br.alloc (lr_ _) (C_ #[] 3)) (λg hg=>by simp at hg;subst hg;simp);have p:=h_<|k.o.below<|br.alloc (lr_ _)<|C_ #[] 3;rw[a0]at o m;go_loopw [3] (λv wr=>∃(M:Nat) (ks:LI) (st':RdSt) (row':ON) (A:OA) (c:Nat),v=S_ A (η ks) c/\Ψ (Zv_ a.sg one M ks st'=Q)/\Ψ (Adv 1 0 st st')/\Ψ (Deep (d+1) st')/\Ψ (Enough a.n M st')/\Ψ (KidB ks st')/\Ψ (Mine wr w.heap.size 3 1 A (η ks) c (Qa_ ks))/\Ψ (RdI (a.res A) (d+1) st' row' wr)/\Ψ (Kr a.T row w row' wr)) (λ_ wr=>Jn_ a wr)
 ·exact⟨N,[],_,a2,_,0,rfl,HQ,ab,aD,(show Enough _ _ _ from QP_ hN _),⟨by simp,λs _=>by simp⟩,o,m,p⟩
 obtain⟨M,ks,st',row',A,c,rfl,HQ,aL,aM,aN,aR,H,G,HK⟩:=hrel;have aP:=G
 cases st' with
 |none=>
  obtain⟨R,b,AN,cN,l,hc,hb,z⟩:=G.o;obtain⟨c1,c2,c3,cf,cz⟩:=hc.csu _ hi;obtain rfl:b=τ:=hb;have y:=HQ.o;rw[Xx_]at y;subst y;have ht:=HT.o;rw[XB_]at ht;subst ht;obtain⟨d3,df,dz,P,E⟩:=Jp_ hi G.o;have az:=h_<|G.o.keepI E H.o;have aq:=h_ P.unres;have ay:=h_<|HK.o.trans E;go_wp2_with fail
  refine mb_ (Yu_ a.U hi d ν _ 18 noT A (η ks) c ks w.heap.size _ aq.o az.o a5.o) ?_;rintro w9 ⟨Y,h9,k9⟩;go_wp2;go_ret;exact⟨rfl,Y,h9,ay.o.trans k9⟩
 |some t=>
  obtain⟨M,rfl⟩:∃M',M=M'+1:=⟨M-1,by
   have h1:=aN.o t rfl;have h2:=(G.o.le rfl).1;have:(a.res A).n=a.n:=rfl;omega⟩
  obtain⟨R,b,AN,cN,l,hc,hb,z⟩:=G.o;obtain⟨c1,c2,c3,cf,cz⟩:=hc.csu _ hi;obtain⟨rfl,_,_⟩:=hb;have D:=h_<|X2_ _ hi (d+1) (σ t) row' ⟨#[125]⟩ wr G.o;have y:=HQ.o;unfold Zv_ at y;rw[in_ (show ¬(σ t).isNone=τ by simp)]at y;rcases bft (isM a.sg (σ t) ⟨#[125]⟩)with Z|Z
  ·rw[ip_ Z]at y;subst y;have ht:=HT.o;rw[show Qn_ a.sg (ks,σ t).2 ⟨#[125]⟩=Qf_ (σ t)from Zr_ Z]at ht;subst ht;rw[Z,Qy_ Z]at D;go_wp2_with fail;refine mb_ D.o ?_;rintro w2 ⟨row2,h2,S⟩;have q:=h_<|G.o.keepI S H.o;have k:=h_<|HK.o.trans S;replace H:=q;replace HK:=k;replace G:=h_ h2;obtain⟨d3,df,dz,P,E⟩:=Jp_ hi G.o;have az:=h_<|G.o.keepI E H.o;have aq:=h_ P.unres;have ay:=h_<|HK.o.trans E;go_wp2_with fail
   refine mb_ (Yu_ a.U hi d (Qf_ (σ t)) _ 18 noT A (η ks) c ks w.heap.size _ aq.o az.o a5.o) ?_;rintro w9 ⟨Y,h9,k9⟩;go_wp2;go_ret;exact⟨rfl,Y,h9,ay.o.trans k9⟩
  rw[in_ (by rw[Z];decide)]at y;rw[Z,QD_ Z]at D;have HX:=h_ (λ(row:ON) (W:Ω) h=>VO_ (a.res A) hi (d+1) t row W h);have ak:XI_ a.sg (σ t) ks=((Qx_ a.sg (σ t) 0).2.2.2&&decide (0<η ks)):=rfl;rw[ak]at y;have aZ:(a.res A).sg=a.sg:=rfl;rw[aZ]at HX;generalize Qx_ a.sg (σ t) 0=x at HX y ak;obtain⟨xk,xt,xp,xz⟩:=x;dsimp only at HX y ak;have bz:=aR.o.2 t rfl;have bN:=(G.o.le rfl).2;have bM:=aR.o.1;have j:=aK.o (xz&&decide (0<η ks)) (σ t);rw[ac.o]at y j;have am:=be.o (σ t);have HC:=h_ (λ(row:ON) (W:Ω) h=>HO.o (λx=>a.U x\/A.map (·.block)=σ x) t row W h aL.o aM.o);generalize bc (σ t)=r at y j am HC;obtain⟨kc,I⟩:=r;unfold Xa_ at y j;dsimp only at y j am HC;have af:Ψ (KidB (ks++[kc]) (Zs_ kc (xz&&decide (0<η ks)) I)):=(show KidB _ _ from⟨by rw[lA];simp;omega,λt2 e=>by
   obtain⟨bO,e2,_,h3⟩:=j t2 e;obtain rfl:=oi_ e2;rw[lA];simp;omega⟩)
  have ag:Ψ (Enough a.n M (Zs_ kc (xz&&decide (0<η ks)) I)):=aN.o.adv (i:=0) j;have ae:Ψ (Adv 1 0 st (Zs_ kc (xz&&decide (0<η ks)) I)):=(aL.o.trans j).weak oo oo;have ah:Ψ (Deep ((d+1)) (Zs_ kc (xz&&decide (0<η ks)) I)):=aM.o.adv j;have al:(ks++[kc]).length=η ks+1:=sm_;have ai:=h_ y;have F:=h_ j
  cases xz with
  |false=>
   rw[φa]at af ag ae ah ai F;go_wp2_with fail;refine mb_ D.o ?_;rintro w2 ⟨row2,h2,S⟩;have n:=h_ h2;have q:=h_<|G.o.keepI S H.o;have k:=h_<|HK.o.trans S;go_wp2_with fail
   refine mb_ (HX.o _ _ n.o) ?_;intro w3 g3;have m:=h_<|n.o.next g3;have o:=h_<|q.o.next g3;have p:=h_<|k.o.below g3;go_wp2_with fail
   refine mb_ (HC.o _ _ m.o) ?_;rintro w4 ⟨V,h4,k4⟩;have L:=h_<|m.o.keepI k4 o.o;have C:=h_ h4;have K:=h_<|p.o.trans k4;have B:=h_<|Ze_ (a.res A) hi (d+1) I V kc am φ w4 C.o;unfold QA_ at B;go_wp2_with fail
   refine mb_ B.o ?_;rintro w5 ⟨X,h5,k5⟩;have H:=h_<|C.o.keepI k5 L.o;have ar:=h_ h5;have av:=h_<|K.o.trans k5;go_wp2_with (at_builtin;refine KA_ (.tmp 48) (.tmp 50) ar av H a3 rfl rfl rfl rfl oo ?_;intro A6 c6 w6 J ax O)
   replace H:=O;go_wp2;go_roundw
   ·exact⟨M,ks++[kc],_,X,A6,c6,by rw[al],ai,ae,ah,ag,af,by rw[al];exact H,J,ax⟩
   exact ZG_ hi aP.o J.o<|F.o.weak (i':=1) (j':=0) oo oo
  |true=>
   rw[τb]at af ag ae ah ai F;go_wp2_with fail;refine mb_ D.o ?_;rintro w2 ⟨row2,h2,S⟩;have n:=h_ h2;have q:=h_<|G.o.keepI S H.o;have k:=h_<|HK.o.trans S;go_wp2_with fail
   refine mb_ (HX.o _ _ n.o) ?_;intro w3 g3;have m:=h_<|n.o.next g3;have o:=h_<|q.o.next g3;have p:=h_<|k.o.below g3;go_wp2_with fail
   refine mb_ (HC.o _ _ m.o) ?_;rintro w4 ⟨V,h4,k4⟩;have L:=h_<|m.o.keepI k4 o.o;have C:=h_ h4;have K:=h_<|p.o.trans k4;have B:=h_<|Ze_ (a.res A) hi (d+1) I V kc am (decide (0<η ks)) w4 C.o;unfold QA_ at B;go_wp2_with fail
   refine mb_ B.o ?_;rintro w5 ⟨X,h5,k5⟩;have H:=h_<|C.o.keepI k5 L.o;have ar:=h_ h5;have av:=h_<|K.o.trans k5;go_wp2_with (at_builtin;refine KA_ (.tmp 48) (.tmp 50) ar av H a3 rfl rfl rfl rfl oo ?_;intro A6 c6 w6 J ax O)
   replace H:=O;go_wp2;go_roundw
   ·exact⟨M,ks++[kc],_,X,A6,c6,by rw[al],ai,ae,ah,ag,af,by rw[al];exact H,J,ax⟩
   exact ZG_ hi aP.o J.o<|F.o.weak (i':=1) (j':=0) oo oo
def Qea_ (h:Kp_ s y 0=τ):setB s y=(((Qx_ s y 1).2.1.toList==[61])&&((Qx_ s y 1).1==4)):=by unfold setB;rw[h,τb]
def QhK_ {sg:PS} (h:setB s (σ sg)=τ):isM s (Qf_ (σ sg)) ⟨#[61]⟩=τ:=by
 unfold setB at h;rw[τa,τa]at h;unfold isM;have e:Qx_ s (Qf_ (σ sg)) 0=Qx_ s (σ sg) 1:=rfl;rw[e,h.2.2,τb,show(⟨#[61]⟩:BA).toList=[61]by rw[ByteArray.toList_eq]];exact h.2.1
def Qeb_ (h:setB s y=τ):Kp_ s y 0=τ:=by
 unfold setB at h;rw[τa]at h;exact h.1
def Qb7_ (hi:a.imp=φ) (N f:Nat) (hN:a.n<N) (HE:SC a N f) (d:Nat) (st:RdSt) (row:ON) (w:Ω) (hI:RdI a d st row w) (hn:Need a.n st 12 (f+1)) (hd:d+(f+1)<=100000) (G:Deep d st):
  Δ π 94 #[P_ (σ ⟨a.T,0,ν⟩)] w (QA_ a d row w (I_ j_ (ZJ_ a.sg (Qd_ a.sg N f) d φ st).1) (ZJ_ a.sg (Qd_ a.sg N f) d φ st).2):=by
 obtain⟨i0,co⟩:=iq_ QY_;have o:=h_ hI;have ae:=h_<|Kr.refl a.T row w;have a2:=h_ hI.lo;have aY:=h_ hI.lo.1;have Q:=hI.ok.len;unfold QA_ ZJ_;have T1:=h_ (λ(W:Ω) h=>Yn_ a hi d st row 5 dc_ dc_ W h);by_cases g1:(Qx_ a.sg st 0).1=5
 ·rw[ip_ g1];rw[show((Qx_ a.sg st 0).1==5)=τ from by rw[g1];decide]at T1;have X2:=h_ (λ(W:Ω) h=>Vy_ a hi d st row 5 dc_ dc_ W h g1);unfold QA_ at X2;have bo:=h_ (qI_ (sg:=a.sg) st);generalize Xm_ a.sg φ st=r at bo |-
  obtain⟨k,st2⟩:=r;generalize (Qx_ a.sg st 0).2.1=tx at X2 bo;dsimp only;go_in;go_wp2_with fail;refine mb_ (T1.o _ o.o) ?_;intro w1 h1;have q:=h_<|o.o.next h1;have x:=h_<|ae.o.below h1;go_wp2_with fail
  refine pst (X2.o w1 q.o) x ?_;intro w2 row2 p z;have bO:=h_ p.o.lo;have HP:=h_<|Yu_ a.U hi d (Qf_ st) row2 19 tx _ 0 0 [] w2.heap.size (w2.alloc (C_ #[] 3)) (p.o.next bra) (Y3_ w2) bO.o;rw[bo.o]at HP;dsimp only at HP;go_wp2_with fail
  refine pst (HP.o) z ?_;intro w3 R t j;go_wp2;go_ret;exact⟨rfl,R,t.o,j.o⟩
 rw[in_ g1];rw[show((Qx_ a.sg st 0).1==5)=φ from bn_.2 g1]at T1;have T2:=h_ (λ(row:ON) (W:Ω) h=>Ug_ a.U hi d st row ⟨#[118,97,114]⟩ W h);rcases bft (isW a.sg st ⟨#[118,97,114]⟩)with g2|g2
 ·rw[ip_ g2];rw[g2,K4_ g2]at T2;obtain⟨s,rfl,ad⟩:=Wa_ g2;have T:s.at_<a.n:=oo;have Y:=h_ (λ(row:ON) (W:Ω) h=>YS_ a hi N f HE d (Qf_ (σ s)) row W h (hn.next T ((((Qh_ (σ s)).trans (Jy_ (sg:=a.sg) _)).trans (Qh_ _)).weak (i':=1) (j':=0) oo oo) oo) oo (G.adv (Qh_ _)));unfold QA_ at Y;generalize Jx_ a.sg (Qd_ a.sg N f) d φ (Qf_ (σ s))=r at Y |-
  obtain⟨k,st2⟩:=r;dsimp only at Y |-
  go_in;go_wp2_with fail;refine mb_ (T1.o _ o.o) ?_;intro w1 h1;have q:=h_<|o.o.next h1;have x:=h_<|ae.o.below h1;go_wp2_with fail
  refine pst (T2.o row w1 q.o) x ?_;intro w2 row2 p z;go_wp2_with fail;refine pst (Y.o row2 w2 p.o) z ?_;intro w3 R t j;go_wp2;go_ret;exact⟨rfl,R,t.o,j.o⟩
 rw[in_ (by rw[g2];decide)];rw[g2,Zp_ g2]at T2;have T3:=h_ (λ(row:ON) (W:Ω) h=>Ug_ a.U hi d st row ⟨#[114,101,116,117,114,110]⟩ W h);rcases bft (isW a.sg st ⟨#[114,101,116,117,114,110]⟩)with g3|g3
 ·rw[ip_ g3];rw[g3,K4_ g3]at T3;obtain⟨s,rfl,ad⟩:=Wa_ g3;have T:s.at_<a.n:=oo;have Y:=h_ (λ(U:Nat->Prop) (row:ON) (W:Ω) h=>HE.value U d (Qf_ (σ s)) row W h (hn.next T (Qh_ (σ s)) oo) oo (G.adv (Qh_ _)));unfold PosS at Y;unfold Yp_;generalize Qd_ a.sg N f .value d (Qf_ (σ s))=r at Y |-
  obtain⟨k,st2⟩:=r;dsimp only at Y |-
  generalize Qf_ (σ s)=bD at Y T3 |-
  have T9:=h_ (λ(U:Nat->Prop) (row:ON) (W:Ω) h=>QiX_ U hi d bD row 4 dc_ ⟨#[59]⟩ W h);rw[JO_]at T9;rcases bft (isM a.sg bD ⟨#[59]⟩)with g9|g9
  ·rw[ip_ g9];rw[g9]at T9;go_in;go_wp2_with fail;refine mb_ (T1.o _ o.o) ?_;intro w1 h1;have q:=h_<|o.o.next h1;have x:=h_<|ae.o.below h1;go_wp2_with fail
   refine pst (T2.o row w1 q.o) x ?_;intro w2 row2 p z;go_wp2_with fail;refine pst (T3.o row2 w2 p.o) z ?_;intro w3 R t j;have cg:=j.o.size;have HM:=h_<|(Y3_ w3).more (B':=w.heap.size) oo;have ay:=h_<|t.o.next<|br.alloc (lr_ _)<|C_ #[] 3;have a0:=h_<|j.o.below<|br.alloc (lr_ _)<|C_ #[] 3;go_wp2_with fail
   refine mb_ (T9.o _ _ _ ay.o) ?_;intro w4 h4;have E:=h_<|ay.o.next h4;have J:=h_<|a0.o.below h4;have a3:=h_<|HM.o.next h4;go_wp2_with fail
   refine mb_ (KN_ a hi d bD R ⟨#[59]⟩ w4 E.o) ?_;rintro K ⟨l,h5,k5⟩;replace a3:=VE_ E k5 a3;have F:=QS_ J k5;have v:=h_ h5;go_wp2_with fail;refine pst (Yu_ a.U hi d _ l 15 noT _ 0 0 [] w.heap.size K v.o a3.o a2.o) F ?_;intro w6 aQ aq am;go_wp2;go_ret;exact⟨rfl,aQ,aq.o,am.o⟩
  rw[in_ (by rw[g9];decide)];rw[g9]at T9;go_in;go_wp2_with fail;refine mb_ (T1.o _ o.o) ?_;intro w1 h1;have q:=h_<|o.o.next h1;have x:=h_<|ae.o.below h1;go_wp2_with fail
  refine pst (T2.o row w1 q.o) x ?_;intro w2 row2 p z;go_wp2_with fail;refine pst (T3.o row2 w2 p.o) z ?_;intro w3 R t j;have cg:=j.o.size;have ca:=h_<|(Y3_ w3).more (B':=w.heap.size) oo;have ay:=h_<|t.o.res_new (A:=σ ⟨w3.heap.size,0,ν⟩) (br.alloc (lr_ _) (C_ #[] 3)) (λg hg=>by simp at hg;subst hg;simp);have a0:=h_<|j.o.below<|br.alloc (lr_ _)<|C_ #[] 3;go_wp2_with fail
  refine mb_ (T9.o _ _ _ ay.o) ?_;intro w4 h4;have E:=h_<|ay.o.next h4;have J:=h_<|a0.o.below h4;have a3:=h_<|ca.o.next h4;go_wp2_with fail
  refine mb_ (Y.o _ _ _ E.o) ?_;rintro K ⟨l,h5,k5⟩;have HM:=h_<|E.o.keepI k5 a3.o;have v:=h_ h5;have F:=h_<|J.o.trans k5;go_wp2_with (at_builtin;refine KA_ (.tmp 29) (.tmp 32) v F HM aY rfl rfl rfl rfl oo ?_;intro A6 c6 w6 aq am a6)
  replace HM:=a6;have aA:=h_ aq.o.unres;go_wp2_with fail;refine mb_ (KN_ a hi d st2 l ⟨#[59]⟩ w6 aA.o) ?_;rintro w7 ⟨H,h7,k7⟩;have aH:=h_<|aA.o.keepI k7 HM.o;have I:=h_ h7;have O:=h_<|am.o.trans k7;go_wp2_with fail
  refine pst (Yu_ a.U hi d _ H 15 noT A6 (0+1) c6 [k] w.heap.size w7 I.o aH.o a2.o) O ?_;intro w8 D C P;go_wp2;go_ret;exact⟨rfl,D,C.o,P.o⟩
 rw[in_ (by rw[g3];decide)];rw[g3,Zp_ g3]at T3;have T4:=h_ (λ(row:ON) (W:Ω) h=>Ug_ a.U hi d st row ⟨#[105,102]⟩ W h);rcases bft (isW a.sg st ⟨#[105,102]⟩)with g4|g4
 ·rw[ip_ g4];rw[g4,K4_ g4]at T4;obtain⟨s,rfl,ad⟩:=Wa_ g4;have T:s.at_<a.n:=oo;have b:=(Qh_ (σ s)).trans (Yy_ (sg:=a.sg) (λm d st=>QB_ (sg:=a.sg) (N:=N) f m d st) d (Qf_ (σ s)));have HH:=h_ (λ(row:ON) (W:Ω) h=>vL_ a hi N f HE d (Qf_ (σ s)) row W h (hn.next T ((Qh_ (σ s)).trans (Qq_ (sg:=a.sg) _ _)) oo) oo (G.adv (Qh_ _)));unfold QA_ at HH;unfold ifS;dsimp only;generalize JJ_ a.sg (Qd_ a.sg N f) d (Qf_ (σ s))=r at b HH |-
  obtain⟨k1,st2⟩:=r;dsimp only at b HH |-
  have Y:=h_ (λ(U:Nat->Prop) (row:ON) (W:Ω) h=>HE.block U d st2 row W h (hn.next T (b.weak (i':=1) (j':=0) oo oo) oo) oo (G.adv b));unfold PosS at Y;have aj:=b.trans<|QB_ (sg:=a.sg) (N:=N) f .block d st2;generalize Qd_ a.sg N f .block d st2=r at Y aj |-
  obtain⟨k2,aE⟩:=r;dsimp only at Y aj |-
  have T9:=h_ (λ(U:Nat->Prop) (row:ON) (W:Ω) h=>Ug_ U hi d aE row ⟨#[101,108,115,101]⟩ W h);rcases bft (isW a.sg aE ⟨#[101,108,115,101]⟩)with g9|g9
  ·rw[ip_ g9];rw[g9,K4_ g9]at T9;have aL:=aj.trans (Qh_ aE);have bg:=h_ (λ(U:Nat->Prop) (row:ON) (W:Ω) h=>HE.block U d (Qf_ aE) row W h (hn.next T (aL.weak (i':=1) (j':=0) oo oo) oo) oo (G.adv aL));unfold PosS at bg;generalize Qd_ a.sg N f .block d (Qf_ aE)=r at bg |-
   obtain⟨k3,cl⟩:=r;dsimp only at bg |-
   go_in;go_wp2_with fail;refine mb_ (T1.o _ o.o) ?_;intro w1 h1;have q:=h_<|o.o.next h1;have x:=h_<|ae.o.below h1;go_wp2_with fail
   refine pst (T2.o row w1 q.o) x ?_;intro w2 row2 p z;go_wp2_with fail;refine pst (T3.o row2 w2 p.o) z ?_;intro w3 R t j;go_wp2_with fail;refine pst (T4.o R w3 t.o) j ?_;intro w4 B E J;go_wp2_with fail;refine pst (HH.o B w4 E.o) J ?_;intro K l v F;have ch:=F.o.size;have a4:=h_<|(GW_ K k1).more (B':=w.heap.size) oo;have az:=h_<|v.o.res_new (A:=σ ⟨K.heap.size,0,ν⟩) (br.alloc (lr_ _) (C_ #[I_ j_ k1] 3)) (λg hg=>by simp at hg;subst hg;simp);have a1:=h_<|F.o.below<|br.alloc (lr_ _)<|C_ #[I_ j_ k1] 3;go_wp2_with fail
   refine mb_ (Y.o _ _ _ az.o) ?_;rintro w6 ⟨aQ,h6,k6⟩;have HM:=h_<|az.o.keepI k6 a4.o;have aq:=h_ h6;have am:=h_<|a1.o.trans k6;go_wp2_with (at_builtin;refine KA_ (.tmp 45) (.tmp 48) aq am HM aY rfl rfl rfl rfl oo ?_;intro A7 c7 w7 I O aH)
   replace HM:=aH;go_wp2_with fail;refine mb_ (T9.o _ _ _ I.o) ?_;rintro w8 ⟨D,h8,k8⟩;have aI:=h_<|I.o.keepI k8 HM.o;have C:=h_ h8;have P:=h_<|O.o.trans k8;go_wp2_with fail
   refine mb_ (bg.o _ _ _ C.o) ?_;rintro w9 ⟨X,h9,k9⟩;replace HM:=h_ (C.o.keepI k9 aI.o);have ag:=h_ h9;have ah:=h_<|P.o.trans k9;go_wp2_with (at_builtin;refine KA_ (.tmp 52) (.tmp 55) ag ah HM aY rfl rfl rfl rfl oo ?_;intro b9 cf bb aN aZ bi)
   replace HM:=bi;have bp:=h_ aN.o.unres;go_wp2_with fail;refine mb_ (Yu_ a.U hi d cl X 16 noT b9 (1+1+1) cf [k1,k2,k3] w.heap.size bb bp.o HM.o a2.o) ?_;rintro bE ⟨aa,a7,ba⟩;go_wp2;go_ret;exact⟨rfl,aa,a7,aZ.o.trans ba⟩
  rw[in_ (by rw[g9];decide)];rw[g9,Zp_ g9]at T9;go_in;go_wp2_with fail;refine mb_ (T1.o _ o.o) ?_;intro w1 h1;have q:=h_<|o.o.next h1;have x:=h_<|ae.o.below h1;go_wp2_with fail
  refine pst (T2.o row w1 q.o) x ?_;intro w2 row2 p z;go_wp2_with fail;refine pst (T3.o row2 w2 p.o) z ?_;intro w3 R t j;go_wp2_with fail;refine pst (T4.o R w3 t.o) j ?_;intro w4 B E J;go_wp2_with fail;refine pst (HH.o B w4 E.o) J ?_;intro K l v F;have ch:=F.o.size;have a4:=h_<|(GW_ K k1).more (B':=w.heap.size) oo;have az:=h_<|v.o.res_new (A:=σ ⟨K.heap.size,0,ν⟩) (br.alloc (lr_ _) (C_ #[I_ j_ k1] 3)) (λg hg=>by simp at hg;subst hg;simp);have a1:=h_<|F.o.below<|br.alloc (lr_ _)<|C_ #[I_ j_ k1] 3;go_wp2_with fail
  refine mb_ (Y.o _ _ _ az.o) ?_;rintro w6 ⟨aQ,h6,k6⟩;have HM:=h_<|az.o.keepI k6 a4.o;have aq:=h_ h6;have am:=h_<|a1.o.trans k6;go_wp2_with (at_builtin;refine KA_ (.tmp 45) (.tmp 48) aq am HM aY rfl rfl rfl rfl oo ?_;intro A7 c7 w7 I O aH)
  replace HM:=aH;go_wp2_with fail;refine mb_ (T9.o _ _ _ I.o) ?_;rintro w8 ⟨D,h8,k8⟩;have aI:=h_<|I.o.keepI k8 HM.o;have C:=h_ h8.unres;have P:=h_<|O.o.trans k8;go_wp2_with fail
  refine mb_ (Yu_ a.U hi d aE D 16 noT A7 (1+1) c7 [k1,k2] w.heap.size w8 C.o aI.o a2.o) ?_;rintro bE ⟨aa,a7,ba⟩;go_wp2;go_ret;exact⟨rfl,aa,a7,P.o.trans ba⟩
 rw[in_ (by rw[g4];decide)];rw[g4,Zp_ g4]at T4;have T5:=h_ (λ(row:ON) (W:Ω) h=>Ug_ a.U hi d st row ⟨#[119,104,105,108,101]⟩ W h);rcases bft (isW a.sg st ⟨#[119,104,105,108,101]⟩)with g5|g5
 ·rw[ip_ g5];rw[g5,K4_ g5]at T5;obtain⟨s,rfl,ad⟩:=Wa_ g5;have T:s.at_<a.n:=oo;have b:=(Qh_ (σ s)).trans (Yy_ (sg:=a.sg) (λm d st=>QB_ (sg:=a.sg) (N:=N) f m d st) d (Qf_ (σ s)));have HH:=h_ (λ(row:ON) (W:Ω) h=>vL_ a hi N f HE d (Qf_ (σ s)) row W h (hn.next T ((Qh_ (σ s)).trans (Qq_ (sg:=a.sg) _ _)) oo) oo (G.adv (Qh_ _)));unfold QA_ at HH;unfold z6_;dsimp only;generalize JJ_ a.sg (Qd_ a.sg N f) d (Qf_ (σ s))=r at b HH |-
  obtain⟨k1,st2⟩:=r;dsimp only at b HH |-
  have Y:=h_ (λ(U:Nat->Prop) (row:ON) (W:Ω) h=>HE.block U d st2 row W h (hn.next T (b.weak (i':=1) (j':=0) oo oo) oo) oo (G.adv b));unfold PosS at Y;generalize Qd_ a.sg N f .block d st2=r at Y |-
  obtain⟨k2,aE⟩:=r;dsimp only at Y |-
  go_in;go_wp2_with fail;refine mb_ (T1.o _ o.o) ?_;intro w1 h1;have q:=h_<|o.o.next h1;have x:=h_<|ae.o.below h1;go_wp2_with fail
  refine pst (T2.o row w1 q.o) x ?_;intro w2 row2 p z;go_wp2_with fail;refine pst (T3.o row2 w2 p.o) z ?_;intro w3 R t j;go_wp2_with fail;refine pst (T4.o R w3 t.o) j ?_;intro w4 B E J;go_wp2_with fail;refine pst (T5.o B w4 E.o) J ?_;intro K l v F;go_wp2_with fail;refine pst (HH.o l K v.o) F ?_;intro w6 aQ aq am;have cp:=am.o.size;have a6:=h_<|(GW_ w6 k1).more (B':=w.heap.size) oo;have aA:=h_<|aq.o.res_new (A:=σ ⟨w6.heap.size,0,ν⟩) (br.alloc (lr_ _) (C_ #[I_ j_ k1] 3)) (λg hg=>by simp at hg;subst hg;simp);have bN:=h_<|am.o.below<|br.alloc (lr_ _)<|C_ #[I_ j_ k1] 3;go_wp2_with fail
  refine mb_ (Y.o _ _ _ aA.o) ?_;rintro w7 ⟨H,h7,k7⟩;have HM:=h_<|aA.o.keepI k7 a6.o;have I:=h_ h7;have O:=h_<|bN.o.trans k7;go_wp2_with (at_builtin;refine KA_ (.tmp 66) (.tmp 69) I O HM aY rfl rfl rfl rfl oo ?_;intro A8 c8 w8 C P aI)
  replace HM:=aI;have bL:=h_ C.o.unres;go_wp2_with fail;refine mb_ (Yu_ a.U hi d aE H 17 noT A8 (1+1) c8 [k1,k2] w.heap.size w8 bL.o HM.o a2.o) ?_;rintro bE ⟨aa,a7,ba⟩;go_wp2;go_ret;exact⟨rfl,aa,a7,P.o.trans ba⟩
 rw[in_ (by rw[g5];decide)];rw[g5,Zp_ g5]at T5;have TQ:=h_ (λ(row:ON) (W:Ω) h=>jw_ a hi d st row W h);rcases bft (setB a.sg st)with g6|g6
 ·rw[ip_ g6];have gn:=Qeb_ g6;rw[gn]at TQ;obtain⟨s,rfl,ad⟩:=Z7_ gn;have T:s.at_<a.n:=oo;have b0:=QhK_ g6;rw[Qea_ gn]at g6;rw[τa]at g6;have aV:s.at_+1<η a.sg:=by
   rcases Nat.lt_or_ge (s.at_+1) (η a.sg) with h|h
   ·exact h
   have:=g6.2;rw[ZO_ (i:=1) h]at this;exact absurd this dc_
  obtain⟨y,hy⟩:∃y,a.sg[s.at_+1]? =σ y:=⟨_,List.getElem?_eq_getElem aV⟩;rw[GE_ (i:=1) hy]at g6;obtain⟨yk,yt,yp,yz⟩:=y;dsimp only at g6;obtain⟨q1,q2⟩:=g6;have b:=(Qh_ (σ s)).trans (Qh_ (Qf_ (σ s)));have bZ:nmS a.sg (σ s)=Qf_ (σ s):=ip_ gn;have HX:=h_ (λ(row:ON) (W:Ω) h=>YU_ a.U hi d (σ s) row W h);rw[bZ]at HX;have bP:=h_ (λ(row:ON) (W:Ω) h=>Yc_ a.U hi d (Qf_ (σ s)) row ⟨#[61]⟩ W h);rw[Zr_ b0]at bP;have Y:=h_ (λ(row:ON) (W:Ω) h=>HE.value a.U d (Qf_ (Qf_ (σ s))) row W h (hn.next T (b.weak (i':=1) (j':=0) oo oo) oo) oo (G.adv b));unfold PosS at Y;unfold setS;dsimp only;generalize Qd_ a.sg N f .value d (Qf_ (Qf_ (σ s)))=r at Y |-
  obtain⟨k,st2⟩:=r;dsimp only at Y |-
  generalize nmT a.sg (σ s)=tx at HX |-
  have HY:=h_ hy;go_in;go_wp2_with fail;refine mb_ (T1.o _ o.o) ?_;intro w1 h1;have q:=h_<|o.o.next h1;have x:=h_<|ae.o.below h1;go_wp2_with fail
  refine pst (T2.o row w1 q.o) x ?_;intro w2 row2 p z;go_wp2_with fail;refine pst (T3.o row2 w2 p.o) z ?_;intro w3 R t j;go_wp2_with fail;refine pst (T4.o R w3 t.o) j ?_;intro w4 B E J;go_wp2_with fail;refine pst (T5.o B w4 E.o) J ?_;intro K l v F;have M:RdI a d (σ s) l K:=v.o;have c:a.Ok:=M.ok;have a9:a.n<=3000:=c.most;have S:=M.old;obtain⟨L,b5,bn,bs,l5,af,V,Z⟩:=id M;obtain⟨x0,x1,x2,x3,x4,xf,xz⟩:=af.cs hi;have aU:s.at_=L:=V.2.1;have ac:=HY.o;rw[aU]at ac;have aD:L+1<a.n:=by
   have h1:L+1<η a.sg:=(gs_.1 ac).1;have h2:η a.sg=a.n:=c.len;omega
  obtain⟨b1,off,hA,bl,e0,e1,e2,e3⟩:=Yv_ (c.rd.below S) (show L+1<a.n from aD) ac;rw[hA]at x0;dsimp only at e0 e1;have aM:(L:Int)+1<(a.n:Int):=oo;have bv:decide ((L:Int)+1<(a.n:Int))=τ:=dt_ aM;have b2:((L:Int)+1).toNat=L+1:=oo;have bx:IntKind.i64.wrap ((L:Int)+1)=(L:Int)+1:=IntWalk.i64_in _ oo;have ab:=h_ (λ(n:Nat)=>v.o.next (below_drewN (Below.refl K.heap.size K) n));go_upto_region 21 with fail
  go_quiet ((go_at_call 69;exact Calls.quiet_of (TQ.o _ _ (ab.o _))));go_wp2_with fail;refine mb_ (HX.o _ _ (ab.o _)) ?_;rintro w7 ⟨H,h7,k7⟩;have I:=h_ h7;have O:=h_<|(F.o.below (below_drewN (Below.refl K.heap.size K) _)).trans k7;go_wp2_with fail
  refine pst (bP.o H w7 I.o) O ?_;intro w8 D C P;go_wp2_with fail;refine pst (Y.o D w8 C.o) P ?_;intro w9 X ag ah;go_wp2_with fail;refine pst (KN_ a hi d st2 X ⟨#[59]⟩ w9 ag.o) ah ?_;intro bb bC aN aZ;have bq:=h_ aN.o.lo;go_wp2_with fail;refine pst (Yu_ a.U hi d _ bC 13 tx (σ ⟨bb.heap.size,0,ν⟩) 1 1 [k] bb.heap.size _ (aN.o.alloc _) (GW_ bb k) bq.o) aZ ?_;intro bE aa bK bM;go_wp2;go_ret;exact⟨rfl,aa,bK.o,bM.o⟩
 rw[in_ (by rw[g6];decide)];have Y:=h_ (λ(row:ON) (W:Ω) h=>HE.value a.U d st row W h (hn.same (r':=11) oo (Adv.refl st)) oo G);unfold PosS at Y;unfold doS;dsimp only;generalize Qd_ a.sg N f .value d st=r at Y |-
 obtain⟨k,st2⟩:=r;dsimp only at Y |-
 rcases bft (Kp_ a.sg st 0)with gn|gn
 ·rw[gn]at TQ;obtain⟨s,rfl,ad⟩:=Z7_ gn;have T:s.at_<a.n:=oo;rw[Qea_ gn]at g6;rcases Nat.lt_or_ge (s.at_+1) a.n with aV|aV
  ·obtain⟨y,hy⟩:∃y,a.sg[s.at_+1]? =σ y:=⟨_,gE oo⟩;rw[GE_ (i:=1) hy]at g6;obtain⟨yk,yt,yp,yz⟩:=y;dsimp only at g6;have HY:=h_ hy;rcases bft (yk==4)with q2|q2
   ·rw[q2,τc]at g6;go_in;go_wp2_with fail;refine mb_ (T1.o _ o.o) ?_;intro w1 h1;have q:=h_<|o.o.next h1;have x:=h_<|ae.o.below h1;go_wp2_with fail
    refine pst (T2.o row w1 q.o) x ?_;intro w2 row2 p z;go_wp2_with fail;refine pst (T3.o row2 w2 p.o) z ?_;intro w3 R t j;go_wp2_with fail;refine pst (T4.o R w3 t.o) j ?_;intro w4 B E J;go_wp2_with fail;refine pst (T5.o B w4 E.o) J ?_;intro K l v F;have M:RdI a d (σ s) l K:=v.o;have c:a.Ok:=M.ok;have a9:a.n<=3000:=c.most;have S:=M.old;obtain⟨L,b5,bn,bs,l5,af,V,Z⟩:=id M;obtain⟨x0,x1,x2,x3,x4,xf,xz⟩:=af.cs hi;have aU:s.at_=L:=V.2.1;have ac:=HY.o;rw[aU]at ac;have aD:L+1<a.n:=by
     have h1:L+1<η a.sg:=(gs_.1 ac).1;have h2:η a.sg=a.n:=c.len;omega
    obtain⟨b1,off,hA,bl,e0,e1,e2,e3⟩:=Yv_ (c.rd.below S) (show L+1<a.n from aD) ac;rw[hA]at x0;dsimp only at e0 e1;have aM:(L:Int)+1<(a.n:Int):=oo;have bv:decide ((L:Int)+1<(a.n:Int))=τ:=dt_ aM;have b2:((L:Int)+1).toNat=L+1:=oo;have bx:IntKind.i64.wrap ((L:Int)+1)=(L:Int)+1:=IntWalk.i64_in _ oo;have ab:=h_ (λ(n:Nat)=>v.o.next (below_drewN (Below.refl K.heap.size K) n));go_upto_region 21 with fail
    go_quiet ((go_at_call 69;exact Calls.quiet_of (TQ.o _ _ (ab.o _))));go_wp2_with fail;refine mb_ (Y.o _ _ (ab.o _)) ?_;rintro w7 ⟨H,h7,k7⟩;have I:=h_ h7;have O:=h_<|(F.o.below (below_drewN (Below.refl K.heap.size K) _)).trans k7;go_wp2_with fail
    refine pst (KN_ a hi d st2 H ⟨#[59]⟩ w7 I.o) O ?_;intro w8 D C P;have ai:=h_ C.o.lo;go_wp2_with fail;refine pst (Yu_ a.U hi d _ D 14 noT (σ ⟨w8.heap.size,0,ν⟩) 1 1 [k] w8.heap.size _ (C.o.alloc _) (GW_ w8 k) ai.o) P ?_;intro w9 X ag ah;go_wp2;go_ret;exact⟨rfl,X,ag.o,ah.o⟩
   go_in;go_wp2_with fail;refine mb_ (T1.o _ o.o) ?_;intro w1 h1;have q:=h_<|o.o.next h1;have x:=h_<|ae.o.below h1;go_wp2_with fail
   refine pst (T2.o row w1 q.o) x ?_;intro w2 row2 p z;go_wp2_with fail;refine pst (T3.o row2 w2 p.o) z ?_;intro w3 R t j;go_wp2_with fail;refine pst (T4.o R w3 t.o) j ?_;intro w4 B E J;go_wp2_with fail;refine pst (T5.o B w4 E.o) J ?_;intro K l v F;have M:RdI a d (σ s) l K:=v.o;have c:a.Ok:=M.ok;have a9:a.n<=3000:=c.most;have S:=M.old;obtain⟨L,b5,bn,bs,l5,af,V,Z⟩:=id M;obtain⟨x0,x1,x2,x3,x4,xf,xz⟩:=af.cs hi;have aU:s.at_=L:=V.2.1;have ac:=HY.o;rw[aU]at ac;have aD:L+1<a.n:=by
    have h1:L+1<η a.sg:=(gs_.1 ac).1;have h2:η a.sg=a.n:=c.len;omega
   obtain⟨b1,off,hA,bl,e0,e1,e2,e3⟩:=Yv_ (c.rd.below S) (show L+1<a.n from aD) ac;rw[hA]at x0;dsimp only at e0 e1;have aM:(L:Int)+1<(a.n:Int):=oo;have bv:decide ((L:Int)+1<(a.n:Int))=τ:=dt_ aM;have b2:((L:Int)+1).toNat=L+1:=oo;have bx:IntKind.i64.wrap ((L:Int)+1)=(L:Int)+1:=IntWalk.i64_in _ oo;have ab:=h_ (λ(n:Nat)=>v.o.next (below_drewN (Below.refl K.heap.size K) n));go_upto_region 21 with fail
   go_quiet ((go_at_call 69;exact Calls.quiet_of (TQ.o _ _ (ab.o _))));go_wp2_with fail;refine mb_ (Y.o _ _ (ab.o _)) ?_;rintro w7 ⟨H,h7,k7⟩;have I:=h_ h7;have O:=h_<|(F.o.below (below_drewN (Below.refl K.heap.size K) _)).trans k7;go_wp2_with fail
   refine pst (KN_ a hi d st2 H ⟨#[59]⟩ w7 I.o) O ?_;intro w8 D C P;have ai:=h_ C.o.lo;go_wp2_with fail;refine pst (Yu_ a.U hi d _ D 14 noT (σ ⟨w8.heap.size,0,ν⟩) 1 1 [k] w8.heap.size _ (C.o.alloc _) (GW_ w8 k) ai.o) P ?_;intro w9 X ag ah;go_wp2;go_ret;exact⟨rfl,X,ag.o,ah.o⟩
  go_in;go_wp2_with fail;refine mb_ (T1.o _ o.o) ?_;intro w1 h1;have q:=h_<|o.o.next h1;have x:=h_<|ae.o.below h1;go_wp2_with fail
  refine pst (T2.o row w1 q.o) x ?_;intro w2 row2 p z;go_wp2_with fail;refine pst (T3.o row2 w2 p.o) z ?_;intro w3 R t j;go_wp2_with fail;refine pst (T4.o R w3 t.o) j ?_;intro w4 B E J;go_wp2_with fail;refine pst (T5.o B w4 E.o) J ?_;intro K l v F;have M:RdI a d (σ s) l K:=v.o;have c:a.Ok:=M.ok;have a9:a.n<=3000:=c.most;obtain⟨L,b5,bn,bs,l5,af,V,Z⟩:=id M;obtain⟨x0,x1,x2,x3,x4,xf,xz⟩:=af.cs hi;have aU:s.at_=L:=V.2.1;have aM:¬(L:Int)+1<(a.n:Int):=oo;have bv:decide ((L:Int)+1<(a.n:Int))=φ:=df_ aM;have bx:IntKind.i64.wrap ((L:Int)+1)=(L:Int)+1:=IntWalk.i64_in _ (by have h1:=af.2.2.2.2.1;omega);have ab:=h_ (λ(n:Nat)=>v.o.next (below_drewN (Below.refl K.heap.size K) n));go_upto_region 21 with fail
  go_quiet ((go_at_call 69;exact Calls.quiet_of (TQ.o _ _ (ab.o _))));go_wp2_with fail;refine mb_ (Y.o _ _ (ab.o _)) ?_;rintro w7 ⟨H,h7,k7⟩;have I:=h_ h7;have O:=h_<|(F.o.below (below_drewN (Below.refl K.heap.size K) _)).trans k7;go_wp2_with fail
  refine pst (KN_ a hi d st2 H ⟨#[59]⟩ w7 I.o) O ?_;intro w8 D C P;have ai:=h_ C.o.lo;go_wp2_with fail;refine pst (Yu_ a.U hi d _ D 14 noT (σ ⟨w8.heap.size,0,ν⟩) 1 1 [k] w8.heap.size _ (C.o.alloc _) (GW_ w8 k) ai.o) P ?_;intro w9 X ag ah;go_wp2;go_ret;exact⟨rfl,X,ag.o,ah.o⟩
 rw[gn]at TQ;go_in;go_wp2_with fail;refine mb_ (T1.o _ o.o) ?_;intro w1 h1;have q:=h_<|o.o.next h1;have x:=h_<|ae.o.below h1;go_wp2_with fail
 refine pst (T2.o row w1 q.o) x ?_;intro w2 row2 p z;go_wp2_with fail;refine pst (T3.o row2 w2 p.o) z ?_;intro w3 R t j;go_wp2_with fail;refine pst (T4.o R w3 t.o) j ?_;intro w4 B E J;go_wp2_with fail;refine pst (T5.o B w4 E.o) J ?_;intro K l v F;have ab:=h_ (λ(n:Nat)=>v.o.next (below_drewN (Below.refl K.heap.size K) n));go_upto_region 21 with fail
 go_quiet ((go_at_call 69;exact Calls.quiet_of (TQ.o _ _ (ab.o _))));go_wp2_with fail;refine mb_ (Y.o _ _ (ab.o _)) ?_;rintro w7 ⟨H,h7,k7⟩;have I:=h_ h7;have O:=h_<|(F.o.below (below_drewN (Below.refl K.heap.size K) _)).trans k7;go_wp2_with fail
 refine pst (KN_ a hi d st2 H ⟨#[59]⟩ w7 I.o) O ?_;intro w8 D C P;have ai:=h_ C.o.lo;go_wp2_with fail;refine pst (Yu_ a.U hi d _ D 14 noT (σ ⟨w8.heap.size,0,ν⟩) 1 1 [k] w8.heap.size _ (C.o.alloc _) (GW_ w8 k) ai.o) P ?_;intro w9 X ag ah;go_wp2;go_ret;exact⟨rfl,X,ag.o,ah.o⟩
def sc_u (U:Nat->Prop) (h:SC x d f):SC { x with U:=U } d f:=
 ⟨λU' R st row w a=>h.value U' R st row w a,λU' R st row w a=>h.pick U' R st row w a,λU' l R st row w a=>h.chain U' l R st row w a,λU' R st row w a=>h.end_ U' R st row w a,λU' R st row w a=>h.base U' R st row w a,λU' R st row w a=>h.step U' R st row w a,λU' R st row w a=>h.block U' R st row w a⟩
def Qiz_ (hi:a.imp=φ) (hm:XC_ a.sg) (N:Nat) (g:a.n<N):∀f,SC a N f:=by
 intro f
 induction f with
 |zero=>
  exact⟨λU d st row w c b=>absurd b.1 oo,λU d st row w c b=>absurd b.1 oo,λU l d st row w c hl b=>absurd b.1 oo,λU d st row w c b=>absurd b.1 oo,λU d st row w c b=>absurd b.1 oo,λU d st row w c b=>absurd b.1 oo,λU d st row w c b=>absurd b.1 oo⟩
 |succ f e=>
  exact⟨λU d st row w c b hd R=>vd_ { a with U:=U } hi N f g (sc_u U e) d st row w c b hd R,
   λU d st row w c b hd R=>Qb5_ { a with U:=U } hi N f (sc_u U e) d st row w c b hd R,
   λU l d st row w c hl b hd R=>jT_ { a with U:=U } hi N f g (sc_u U e) l d hl st row w c b hd R,
   λU d st row w c b hd R=>Qd9_ { a with U:=U } hi N f g (sc_u U e) d st row w c b hd R,
   λU d st row w c b hd R=>QbQ_ { a with U:=U } hi hm N f g (sc_u U e) d st row w c b hd R,
   λU d st row w c b hd R=>Qb7_ { a with U:=U } hi N f g (sc_u U e) d st row w c b hd R,
   λU d st row w c b hd R=>jS_ { a with U:=U } hi N f g (sc_u U e) d st row w c b hd R⟩
def UI_ (hF:14*(d+2)<=f) (st:RdSt) (hr:i<=28):Need d st i f:=⟨oo,λs _=>by
 have:d-s.at_<=d:=Nat.sub_le _ _;omega⟩
def QcJ_:Deep 0 e:=λ_ _=>oo
def QbZ_ (hi:a.imp=φ) (N F:Nat) (hF:14*(a.n+2)<=F) (hd:F<=100000) (hN:a.n<N) (HE:SC a N F) (st:RdSt) (row:ON) (w:Ω) (v:RdI a 0 st row w):
  Δ π 52 #[P_ (σ ⟨a.T,0,ν⟩),B_ φ] w (QA_ a 0 row w (I_ j_ (V6_ a.sg (Qd_ a.sg N F) N φ st).1) (V6_ a.sg (Qd_ a.sg N F) N φ st).2):=by
 obtain⟨i0,ak⟩:=iq_ QY_;have R:=h_ v;have t:=h_<|Kr.refl a.T row w;have ac:=h_ v.lo;have T:=h_ v.lo.1;unfold QA_ V6_;have E:=h_ (λ(W:Ω) h=>Yn_ a hi 0 st row 5 dc_ dc_ W h);by_cases p:(Qx_ a.sg st 0).1=5
 ·rw[ip_ p];rw[show((Qx_ a.sg st 0).1==5)=τ from by rw[p];decide]at E;have X2:=h_ (λ(W:Ω) h=>Vy_ a hi 0 st row 5 dc_ dc_ W h p);unfold QA_ at X2;have s:=h_ (qI_ (sg:=a.sg) st);generalize Xm_ a.sg φ st=r at s |-
  obtain⟨k,st2⟩:=r;generalize (Qx_ a.sg st 0).2.1=tx at X2 s;dsimp only;go_in;go_wp2_with fail;refine mb_ (E.o _ R.o) ?_;intro w1 h1;have d:=h_<|R.o.next h1;have g:=h_<|t.o.below h1;go_wp2_with fail
  refine pst (X2.o w1 d.o) g ?_;intro w2 row2 b i;have B:=h_ b.o.lo;have HP:=h_<|Yu_ a.U hi 0 (Qf_ st) row2 19 tx _ 0 0 [] w2.heap.size (w2.alloc (C_ #[] 3)) (b.o.next bra) (Y3_ w2) B.o;rw[s.o]at HP;dsimp only at HP;go_wp2_with fail
  refine pst (HP.o) i ?_;intro w3 l f j;go_wp2;go_ret;exact⟨rfl,l,f.o,j.o⟩
 rw[in_ p];rw[show((Qx_ a.sg st 0).1==5)=φ from bn_.2 p]at E;have S:=h_ (λ(row:ON) (W:Ω) h=>Ug_ a.U hi 0 st row ⟨#[118,97,114]⟩ W h);rcases bft (isW a.sg st ⟨#[118,97,114]⟩)with o|o
 ·rw[ip_ o];rw[o,K4_ o]at S;have m:=h_ (λ(row:ON) (W:Ω) h=>YS_ a hi N F HE 0 (Qf_ st) row W h (UI_ hF _ oo) oo (QcJ_ _));unfold QA_ at m;generalize Jx_ a.sg (Qd_ a.sg N F) 0 φ (Qf_ st)=r at m |-
  obtain⟨k,st2⟩:=r;dsimp only at m |-
  go_in;go_wp2_with fail;refine mb_ (E.o _ R.o) ?_;intro w1 h1;have d:=h_<|R.o.next h1;have g:=h_<|t.o.below h1;go_wp2_with fail
  refine pst (S.o row w1 d.o) g ?_;intro w2 row2 b i;go_wp2_with fail;refine pst (m.o row2 w2 b.o) i ?_;intro w3 l f j;go_wp2;go_ret;exact⟨rfl,l,f.o,j.o⟩
 rw[in_ (by rw[o];decide)];rw[o,Zp_ o]at S;unfold VU_;dsimp only;have HX:=h_ (λ(row:ON) (W:Ω) h=>YU_ a.U hi 0 st row W h);generalize nmT a.sg st=tx at HX |-
 generalize nmS a.sg st=O at HX |-
 have Q:=h_ (λ(row:ON) (W:Ω) h=>Wn_ a hi 0 N O row W h hN);generalize QG_ a.sg (Qj_ a.sg) ⟨#[41]⟩ N [] (Qn_ a.sg O ⟨#[40]⟩)=q at Q |-
 obtain⟨ks,P⟩:=q;dsimp only at Q |-
 have m:=h_ (λ(U:Nat->Prop) (row:ON) (W:Ω) h=>HE.block U 0 (Qn_ a.sg P ⟨#[41]⟩) row W h (UI_ hF _ oo) oo (QcJ_ _));unfold PosS at m;generalize Qd_ a.sg N F .block 0 (Qn_ a.sg P ⟨#[41]⟩)=r at m |-
 obtain⟨k,st2⟩:=r;dsimp only at m |-
 go_in;go_wp2_with fail;refine mb_ (E.o _ R.o) ?_;intro w1 h1;have d:=h_<|R.o.next h1;have g:=h_<|t.o.below h1;go_wp2_with fail
 refine pst (S.o row w1 d.o) g ?_;intro w2 row2 b i;have f:=b;have j:=i;go_wp2_with fail;refine pst (HX.o row2 w2 f.o) j ?_;intro w4 K V z;go_wp2_with fail;refine(Q.o K w4 V.o).mono ?_;rintro e w5 ⟨A,n,c,rfl,rfl,m5,al,aj,h5,k5⟩;have ah:=z.o.size;have C:=h_<|m5.more (B':=w.heap.size) ah;have x:=h_ h5;have Z:=h_<|z.o.trans k5;go_wp2_with fail
 refine mb_ (m.o _ _ _ x.o) ?_;rintro w6 ⟨L,h6,k6⟩;have HM:=h_<|x.o.keepI k6 C.o;have X:=h_ h6;have aa:=h_<|Z.o.trans k6;go_wp2_with (at_builtin;refine KA_ (.tmp 67) (.tmp 70) X aa HM T rfl rfl rfl rfl oo ?_;intro A7 c7 w7 Y ab D)
 replace HM:=D;have y:=h_ Y.o.unres;go_wp2_with fail;refine mb_ (Yu_ a.U hi 0 st2 L 20 tx A7 (η ks+1) c7 (ks++[k]) w.heap.size w7 y.o HM.o ac.o) ?_;rintro w8 ⟨M,h8,k8⟩;go_wp2;go_ret;exact⟨rfl,M,h8,ab.o.trans k8⟩
def jZ_ (hi:a.imp=φ) (N F:Nat) (hF:14*(a.n+2)<=F) (hd:F<=100000) (hN:a.n<N) (HE:SC a N F) (st:RdSt) (row:ON) (w:Ω) (hI:RdI a 0 st row w):
  Δ π 52 #[P_ (σ ⟨a.T,0,ν⟩),B_ τ] w (QA_ a 0 row w (I_ j_ (Y9_ a.sg (Qd_ a.sg N F) N φ st).1) (Y9_ a.sg (Qd_ a.sg N F) N φ st).2):=by
 obtain⟨i0,bo,bs,bv,aU⟩:=info_parts QY_;have b3:=h_<|ai_ bo<|ai_ bs<|ai_ bv aU;have D:=h_ hI;have az:=h_<|Kr.refl a.T row w;have aQ:=h_ hI.lo;have aM:=h_ hI.lo.1;unfold QA_ Y9_;have T1:=h_ (λ(W:Ω) h=>Yn_ a hi 0 st row 5 dc_ dc_ W h);by_cases g1:(Qx_ a.sg st 0).1=5
 ·rw[ip_ g1];rw[show((Qx_ a.sg st 0).1==5)=τ from by rw[g1];decide]at T1;have X2:=h_ (λ(W:Ω) h=>Vy_ a hi 0 st row 5 dc_ dc_ W h g1);unfold QA_ at X2;have aN:=h_ (qI_ (sg:=a.sg) st);generalize Xm_ a.sg φ st=r at aN |-
  obtain⟨k,st2⟩:=r;generalize (Qx_ a.sg st 0).2.1=tx at X2 aN;dsimp only;go_in;go_wp2_with fail;refine mb_ (T1.o _ D.o) ?_;intro w1 h1;have O:=h_<|D.o.next h1;have V:=h_<|az.o.below h1;go_wp2_with fail
  refine pst (X2.o w1 O.o) V ?_;intro w2 row2 j p;have bi:=h_ j.o.lo;have HP:=h_<|Yu_ a.U hi 0 (Qf_ st) row2 19 tx _ 0 0 [] w2.heap.size (w2.alloc (C_ #[] 3)) (j.o.next bra) (Y3_ w2) bi.o;rw[aN.o]at HP;dsimp only at HP;go_wp2_with fail
  refine pst (HP.o) p ?_;intro w3 J o y;go_wp2;go_ret;exact⟨rfl,J,o.o,y.o⟩
 rw[in_ g1];rw[show((Qx_ a.sg st 0).1==5)=φ from bn_.2 g1]at T1;have T2:=h_ (λ(row:ON) (W:Ω) h=>Ug_ a.U hi 0 st row ⟨#[118,97,114]⟩ W h);rcases bft (isW a.sg st ⟨#[118,97,114]⟩)with g2|g2
 ·rw[ip_ g2];rw[g2,K4_ g2]at T2;have HV:=h_ (λ(row:ON) (W:Ω) h=>YS_ a hi N F HE 0 (Qf_ st) row W h (UI_ hF _ oo) oo (QcJ_ _));unfold QA_ at HV;generalize Jx_ a.sg (Qd_ a.sg N F) 0 φ (Qf_ st)=r at HV |-
  obtain⟨k,st2⟩:=r;dsimp only at HV |-
  go_in;go_wp2_with fail;refine mb_ (T1.o _ D.o) ?_;intro w1 h1;have O:=h_<|D.o.next h1;have V:=h_<|az.o.below h1;go_wp2_with fail
  refine pst (T2.o row w1 O.o) V ?_;intro w2 row2 j p;go_wp2_with fail;refine pst (HV.o row2 w2 j.o) p ?_;intro w3 J o y;go_wp2;go_ret;exact⟨rfl,J,o.o,y.o⟩
 rw[in_ (by rw[g2];decide)];rw[g2,Zp_ g2]at T2;have T3:=h_ (λ(row:ON) (W:Ω) h=>Ug_ a.U hi 0 st row ⟨#[99,108,97,115,115]⟩ W h);rcases bft (isW a.sg st ⟨#[99,108,97,115,115]⟩)with B|B
 ·rw[ip_ B];rw[B,K4_ B]at T3;have HO:Ψ (∀(U:Nat->Prop) (t:PS) (row:ON) (w:Ω),RdI { a with U:=U } 0 (σ t) row w->Adv 0 0 (ν:RdSt) ν->Deep 0 (σ t)->Δ π 52 #[P_ (σ ⟨a.T,0,ν⟩),B_ φ] w (λe w'=>e=R_ (I_ j_ (V6_ a.sg (Qd_ a.sg N F) N φ (σ t)).1)/\∃row',RdI { a with U:=U } 0 (V6_ a.sg (Qd_ a.sg N F) N φ (σ t)).2 row' w'/\Kr a.T row w row' w')):=(show ∀U t row w,_->_->_->_ from λU t row w h _ _=>QbZ_ { a with U:=U } hi N F hF hd hN (sc_u U HE) (σ t) row w h);have ag:Ψ (∀b st,V6_ a.sg (Qd_ a.sg N F) N b st=Xa_ b (V6_ a.sg (Qd_ a.sg N F) N φ st)):=(show ∀b st,_ from λb st=>QdC_ b st);have aS:Ψ (∀st,0<=(V6_ a.sg (Qd_ a.sg N F) N φ st).1):=(show ∀st,_ from λst=>Qir_ φ st);have a2:Ψ (∀b st,Adv 1 1 st (V6_ a.sg (Qd_ a.sg N F) N b st).2):=(show ∀b st,_ from λb st=>z9_ (λm d st=>QB_ F m d st) b st);unfold Vd_;dsimp only;have X:=h_ (λ(row:ON) (W:Ω) h=>YU_ a.U hi 0 (Qf_ st) row W h);generalize nmT a.sg (Qf_ st)=tx at X |-
  generalize nmS a.sg (Qf_ st)=an at X |-
  have HW:=h_ (λ(row:ON) (W:Ω) h=>Yc_ a.U hi 0 an row ⟨#[123]⟩ W h);generalize Qn_ a.sg an ⟨#[123]⟩=st2 at HW |-
  obtain⟨Q,hQ⟩:=ex_ (Zv_ a.sg (V6_ a.sg (Qd_ a.sg N F) N) N [] st2);rw[hQ];have HQ:=h_ hQ;obtain⟨T,hT⟩:=ex_ (Qn_ a.sg Q.2 ⟨#[125]⟩);rw[hT];have HT:=h_ hT;obtain⟨one,aL⟩:=ex_ (V6_ a.sg (Qd_ a.sg N F) N);rw[aL]at HQ ag a2 aS HO;obtain⟨ak,ah⟩:=ex_ (one φ);rw[ah]at ag aS HO;have aH:Ψ (Adv 0 0 (ν:RdSt) ν):=(Adv.refl ν);have a6:Ψ (Deep 0 st2):=QcJ_ _;go_in;go_wp2_with fail;refine mb_ (T1.o _ D.o) ?_;intro w1 h1;have O:=h_<|D.o.next h1;have V:=h_<|az.o.below h1;go_wp2_with fail
  refine pst (T2.o row w1 O.o) V ?_;intro w2 row2 j p;have a8:=j;have be:=p;go_wp2_with fail;refine pst (T3.o row2 w2 a8.o) be ?_;intro b0 aX a9 bf;go_wp2_with fail;refine pst (X.o aX b0 a9.o) bf ?_;intro b1 aY ba bg;go_wp2_with fail;refine pst (HW.o aY b1 ba.o) bg ?_;intro bB aZ bb aI;go_upto_region 9 with fail
  have aU:=aI.o.size;have H:=h_<|(Y3_ bB).more (B':=w.heap.size) oo;have o:=h_<|bb.o.res_new (A:=σ ⟨bB.heap.size,0,ν⟩) (br.alloc (lr_ _) (C_ #[] 3)) (λg hg=>by simp at hg;subst hg;simp);have y:=h_<|aI.o.below<|br.alloc (lr_ _)<|C_ #[] 3;go_loopw [6] (λv wr=>∃(M:Nat) (ks:LI) (st':RdSt) (row':ON) (A:OA) (c:Nat),v=S_ A (η ks) c/\Ψ (Zv_ a.sg one M ks st'=Q)/\Ψ (Adv 0 0 (ν:RdSt) ν)/\Ψ (Deep 0 st')/\Ψ (Enough a.n M st')/\Ψ (KidB ks st')/\Ψ (Mine wr w.heap.size 3 1 A (η ks) c (Qa_ ks))/\Ψ (RdI (a.res A) 0 st' row' wr)/\Ψ (Kr a.T row w row' wr)) (λ_ wr=>Jn_ a wr)
  ·exact⟨N,[],st2,aZ,_,0,rfl,HQ,aH,a6,(show Enough _ _ _ from QP_ hN _),⟨by simp,λs _=>by simp⟩,H,o,y⟩
  obtain⟨M,ks,st',row',A,c,rfl,HQ,a4,a5,a7,bh,C,HI,HK⟩:=hrel;have bd:=HI
  cases st' with
  |none=>
   obtain⟨R,b,AN,cN,l,hc,hb,ai⟩:=HI.o;obtain⟨c1,c2,c3,cf,cz⟩:=hc.csu _ hi;obtain rfl:b=τ:=hb;have I:=HQ.o;rw[Xx_]at I;subst I;have ht:=HT.o;rw[XB_]at ht;subst ht;have aO:=h_ HI.o.unres;have aR:=C;have aP:=HK;go_wp2_with fail;refine mb_ (Yu_ a.U hi 0 ν _ 21 tx A (η ks) c ks w.heap.size _ aO.o aR.o aQ.o) ?_;rintro w9 ⟨al,h9,k9⟩;go_wp2;go_ret;exact⟨rfl,al,h9,aP.o.trans k9⟩
  |some t=>
   obtain⟨M,rfl⟩:∃M',M=M'+1:=⟨M-1,by
    have h1:=a7.o t rfl;have h2:=(HI.o.le rfl).1;have:(a.res A).n=a.n:=rfl;omega⟩
   obtain⟨R,b,AN,cN,l,hc,hb,ai⟩:=HI.o;obtain⟨c1,c2,c3,cf,cz⟩:=hc.csu _ hi;obtain⟨rfl,_,_⟩:=hb;have S:=h_<|X2_ _ hi 0 (σ t) row' ⟨#[125]⟩ wr HI.o;have I:=HQ.o;unfold Zv_ at I;rw[in_ (show ¬(σ t).isNone=τ by simp)]at I;rcases bft (isM a.sg (σ t) ⟨#[125]⟩)with hM|hM
   ·rw[ip_ hM]at I;subst I;have ht:=HT.o;rw[show Qn_ a.sg (ks,σ t).2 ⟨#[125]⟩=Qf_ (σ t)from Zr_ hM]at ht;subst ht;rw[hM,Qy_ hM]at S;go_wp2_with fail;refine mb_ S.o ?_;rintro w2 ⟨row2,h2,k2⟩;have G:=h_<|HI.o.keepI k2 C.o;have p:=h_<|HK.o.trans k2;replace C:=G;replace HK:=p;replace HI:=h_ h2;have aO:=h_ HI.o.unres;have aR:=C;have aP:=HK;go_wp2_with fail
    refine mb_ (Yu_ a.U hi 0 (Qf_ (σ t)) _ 21 tx A (η ks) c ks w.heap.size _ aO.o aR.o aQ.o) ?_;rintro w9 ⟨al,h9,k9⟩;go_wp2;go_ret;exact⟨rfl,al,h9,aP.o.trans k9⟩
   rw[in_ (by rw[hM];decide)]at I;rw[hM,QD_ hM]at S;have X:=h_ (λ(row:ON) (W:Ω) h=>VO_ (a.res A) hi 0 t row W h);have aD:XI_ a.sg (σ t) ks=((Qx_ a.sg (σ t) 0).2.2.2&&decide (0<η ks)):=rfl;rw[aD]at I;have bp:(a.res A).sg=a.sg:=rfl;rw[bp]at X;generalize Qx_ a.sg (σ t) 0=x at X I aD;obtain⟨xk,xt,xp,xz⟩:=x;dsimp only at X I aD;have b2:=bh.o.2 t rfl;have b6:=(HI.o.le rfl).2;have b4:=bh.o.1;have f:=a2.o (xz&&decide (0<η ks)) (σ t);rw[ag.o]at I f;have aF:=aS.o (σ t);have HC:=h_ (λ(row:ON) (W:Ω) h=>HO.o (λx=>a.U x\/A.map (·.block)=σ x) t row W h a4.o a5.o);generalize ak (σ t)=r at I f aF HC;obtain⟨kc,am⟩:=r;unfold Xa_ at I f;dsimp only at I f aF HC;have av:Ψ (KidB (ks++[kc]) (Zs_ kc (xz&&decide (0<η ks)) am)):=(show KidB _ _ from⟨by rw[lA];simp;omega,λt2 e=>by
    obtain⟨b7,e2,_,h3⟩:=f t2 e;obtain rfl:=oi_ e2;rw[lA];simp;omega⟩)
   have ax:Ψ (Enough a.n M (Zs_ kc (xz&&decide (0<η ks)) am)):=a7.o.adv (i:=0) f;have a3:=a4;have ay:Ψ (Deep (0) (Zs_ kc (xz&&decide (0<η ks)) am)):=a5.o.adv f;have aE:(ks++[kc]).length=η ks+1:=sm_;have aA:=h_ I;have Y:=h_ f
   cases xz with
   |false=>
    rw[φa]at av ax ay aA Y;go_wp2_with fail;refine mb_ S.o ?_;rintro w2 ⟨row2,h2,k2⟩;have j:=h_ h2;have G:=h_<|HI.o.keepI k2 C.o;have p:=h_<|HK.o.trans k2;go_wp2_with fail
    refine mb_ (X.o _ _ j.o) ?_;intro w3 B;have o:=h_<|j.o.next B;have H:=h_<|G.o.next B;have y:=h_<|p.o.below B;go_wp2_with fail
    refine mb_ (HC.o _ _ o.o) ?_;rintro w4 ⟨K,h4,k4⟩;have ae:=h_<|o.o.keepI k4 H.o;have z:=h_ h4;have E:=h_<|y.o.trans k4;have L:=h_<|Ze_ (a.res A) hi 0 am K kc aF φ w4 z.o;unfold QA_ at L;go_wp2_with fail
    refine mb_ L.o ?_;rintro w5 ⟨Z,h5,k5⟩;have C:=h_<|z.o.keepI k5 ae.o;have aa:=h_ h5;have ac:=h_<|E.o.trans k5;go_wp2_with (at_builtin;refine KA_ (.tmp 55) (.tmp 57) aa ac C aM rfl rfl rfl rfl oo ?_;intro A6 c6 w6 P ad af)
    replace C:=af;go_wp2;go_roundw
    ·exact⟨M,ks++[kc],_,Z,A6,c6,by rw[aE],aA,a3,ay,ax,av,by rw[aE];exact C,P,ad⟩
    exact ZG_ hi bd.o P.o<|Y.o.weak (i':=1) (j':=0) oo oo
   |true=>
    rw[τb]at av ax ay aA Y;go_wp2_with fail;refine mb_ S.o ?_;rintro w2 ⟨row2,h2,k2⟩;have j:=h_ h2;have G:=h_<|HI.o.keepI k2 C.o;have p:=h_<|HK.o.trans k2;go_wp2_with fail
    refine mb_ (X.o _ _ j.o) ?_;intro w3 B;have o:=h_<|j.o.next B;have H:=h_<|G.o.next B;have y:=h_<|p.o.below B;go_wp2_with fail
    refine mb_ (HC.o _ _ o.o) ?_;rintro w4 ⟨K,h4,k4⟩;have ae:=h_<|o.o.keepI k4 H.o;have z:=h_ h4;have E:=h_<|y.o.trans k4;have L:=h_<|Ze_ (a.res A) hi 0 am K kc aF (decide (0<η ks)) w4 z.o;unfold QA_ at L;go_wp2_with fail
    refine mb_ L.o ?_;rintro w5 ⟨Z,h5,k5⟩;have C:=h_<|z.o.keepI k5 ae.o;have aa:=h_ h5;have ac:=h_<|E.o.trans k5;go_wp2_with (at_builtin;refine KA_ (.tmp 55) (.tmp 57) aa ac C aM rfl rfl rfl rfl oo ?_;intro A6 c6 w6 P ad af)
    replace C:=af;go_wp2;go_roundw
    ·exact⟨M,ks++[kc],_,Z,A6,c6,by rw[aE],aA,a3,ay,ax,av,by rw[aE];exact C,P,ad⟩
    exact ZG_ hi bd.o P.o<|Y.o.weak (i':=1) (j':=0) oo oo
 rw[in_ (by rw[B];decide)];rw[B,Zp_ B]at T3;unfold VU_;dsimp only;have X:=h_ (λ(row:ON) (W:Ω) h=>YU_ a.U hi 0 st row W h);generalize nmT a.sg st=tx at X |-
 generalize nmS a.sg st=an at X |-
 have HL:=h_ (λ(row:ON) (W:Ω) h=>Wn_ a hi 0 N an row W h hN);generalize QG_ a.sg (Qj_ a.sg) ⟨#[41]⟩ N [] (Qn_ a.sg an ⟨#[40]⟩)=q at HL |-
 obtain⟨ks,bA⟩:=q;dsimp only at HL |-
 have HV:=h_ (λ(U:Nat->Prop) (row:ON) (W:Ω) h=>HE.block U 0 (Qn_ a.sg bA ⟨#[41]⟩) row W h (UI_ hF _ oo) oo (QcJ_ _));unfold PosS at HV;generalize Qd_ a.sg N F .block 0 (Qn_ a.sg bA ⟨#[41]⟩)=r at HV |-
 obtain⟨k,st2⟩:=r;dsimp only at HV |-
 go_in;go_wp2_with fail;refine mb_ (T1.o _ D.o) ?_;intro w1 h1;have O:=h_<|D.o.next h1;have V:=h_<|az.o.below h1;go_wp2_with fail
 refine pst (T2.o row w1 O.o) V ?_;intro w2 row2 j p;go_wp2_with fail;refine pst (T3.o row2 w2 j.o) p ?_;intro w3 J o y;go_wp2_with fail;refine pst (X.o J w3 o.o) y ?_;intro w4 K z E;go_wp2_with fail;refine(HL.o K w4 z.o).mono ?_;rintro e w5 ⟨A,n,c,rfl,rfl,m5,b5,Z,h5,k5⟩;have bX:=E.o.size;have bj:=h_<|m5.more (B':=w.heap.size) bX;have aa:=h_ h5;have ac:=h_<|E.o.trans k5;go_wp2_with fail
 refine mb_ (HV.o _ _ _ aa.o) ?_;rintro w6 ⟨bx,h6,k6⟩;have C:=h_<|aa.o.keepI k6 bj.o;have P:=h_ h6;have ad:=h_<|ac.o.trans k6;go_wp2_with (at_builtin;refine KA_ (.tmp 67) (.tmp 70) P ad C aM rfl rfl rfl rfl oo ?_;intro A7 c7 w7 bM bN bk)
 replace C:=bk;have bc:=h_ bM.o.unres;go_wp2_with fail;refine mb_ (Yu_ a.U hi 0 st2 bx 20 tx A7 (η ks+1) c7 (ks++[k]) w.heap.size w7 bc.o C.o aQ.o) ?_;rintro w8 ⟨bz,h8,k8⟩;go_wp2;go_ret;exact⟨rfl,bz,h8,bN.o.trans k8⟩
end Go.Proofs.YtbiijipkgfpgoaaGreatDoor

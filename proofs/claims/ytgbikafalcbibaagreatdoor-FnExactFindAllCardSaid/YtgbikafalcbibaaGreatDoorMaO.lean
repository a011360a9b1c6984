/-
  Put together by program (shake.py):ParT,ParU,ParW,ParV.
-/
import Derived.Test.YtgbikafalcbibaaGreatDoorMaN
set_option maxRecDepth 100000
set_option linter.all false
set_option maxHeartbeats 25600000
open Go.Lib (hid)
open Go.Proofs.Tryz
namespace Go.Proofs.YtgbikafalcbibaaGreatDoor
open Go.RowKit
theorem qL_ {n r F:Nat} (st:RdSt) (hF:14 * (n+2)<=F) (hr:r<=13):Need n st r F:=⟨oo,fun s _=>by
 have:n - s.at_<=n:=oo;omega⟩
theorem Wn_ (R:RC) (hi:R.imp=true) (N F:Nat) (hF:14 * (R.n+2)<=F) (hd:F<=100000) (hN:R.n < N) (HE:EC R N F) (b cl:Bool) (st:RdSt) (row:ON) (w:World) (f:RdI R 0 st row w) (d:(Qu_ R.sg st 0).1=5):
  Calls prog 137 #[.pointer (some ⟨R.T,0,none⟩),.bool b,.bool cl] w (Does R 0 row w (.int .i64 (Xj_ R.sg b st).1) (Xj_ R.sg b st).2):=by
 have a:∀s,st=some s->s.at_ < R.n:=fun s e=>by
  rcases Nat.lt_or_ge s.at_ R.sg.length with q|q
  ·rw[<-f.ok.len];exact q
  ·exact absurd d (by rw[e,ZM_ (i:=0) q];decide)
 have c:=hid (fun(row:ON) (W:World) h=>vK_ R hi 0 st row b W h a);unfold Does at c |-
 generalize Xj_ R.sg b st=r at c |-
 obtain⟨k,st2⟩:=r;dsimp only at c |-
 have g:=hid f;have m:=hid (Kr.refl R.T row w);have p:=hid (Q8_ R hi 0 st row w f);have t:=q4_;generalize Qu_ R.sg st 0=x at p d;obtain⟨kd,xt,xp,xz⟩:=x;dsimp only at p d;subst d;clear f a;go_enter func137,ntmps137;go_wp2_with fail
 refine rst (p.o) g m ?_;intro w1 j n;go_wp2_with fail
 refine pst (c.o _ _ j.o) n ?_;intro w2 row2 l o;go_wp2;go_ret;exact⟨rfl,row2,l.o,o.o⟩
theorem zE_ (R:RC) (hi:R.imp=true) (N F:Nat) (hF:14 * (R.n+2)<=F) (hd:F<=100000) (hN:R.n < N) (HE:EC R N F) (b cl:Bool) (st:RdSt) (row:ON) (w:World) (i:RdI R 0 st row w) (v:(Qu_ R.sg st 0).1≠5) (e:isW R.sg st ⟨#[118,97,114]⟩=true):
  Calls prog 137 #[.pointer (some ⟨R.T,0,none⟩),.bool b,.bool cl] w (Does R 0 row w (.int .i64 (Ji_ R.sg (Qd_ R.sg N F) 0 b (Qe_ st)).1) (Ji_ R.sg (Qd_ R.sg N F) 0 b (Qe_ st)).2):=by
 obtain⟨s,es,d⟩:=U7_ e;subst es;have y:s.at_ < R.n:=by rw[<-i.ok.len];exact d
 have g:=hid (fun(row:ON) (W:World) h=>Gh_ R hi N F HE 0 b s row W h y (qL_ (r:=12) (F:=F+1) (some s) oo oo) oo);unfold Does at g |-
 generalize Ji_ R.sg (Qd_ R.sg N F) 0 b (Qe_ (some s))=r at g |-
 obtain⟨k,st2⟩:=r;dsimp only at g |-
 have j:=hid i;have n:=hid (Kr.refl R.T row w);have t:=hid (Q8_ R hi 0 (some s) row w i);have A:=q4_;have c:=hid (fun(W:World) h=>Qr_ R hi 0 (some s) row ⟨#[118,97,114]⟩ W h);rw[e]at c;generalize Qu_ R.sg (some s) 0=x at t v;obtain⟨kd,xt,xp,xz⟩:=x;dsimp only at t v;have z:(kd==5)=false:=by rw[beq_eq_false_iff_ne];exact v
 clear i d;go_enter func137,ntmps137;go_wp2_with fail
 refine rst (t.o) j n ?_;intro w1 a o;go_wp2_with fail
 refine rst (c.o _ a.o) a o ?_;intro w2 l p;go_wp2_with fail
 refine pst (g.o _ _ l.o) p ?_;intro w3 f m q;go_wp2;go_ret;exact⟨rfl,f,m.o,q.o⟩
theorem qJ_ (R:RC) (hi:R.imp=true) (N F:Nat) (hF:14 * (R.n+2)<=F) (hd:F<=100000) (hN:R.n < N) (HE:EC R N F) (b cl:Bool) (st:RdSt) (row:ON) (w:World) (t:RdI R 0 st row w) (h5:(Qu_ R.sg st 0).1≠5) (ag:isW R.sg st ⟨#[118,97,114]⟩=false) (af:cl=false):
  Calls prog 137 #[.pointer (some ⟨R.T,0,none⟩),.bool b,.bool cl] w (Does R 0 row w (.int .i64 (VH_ R.sg (Qd_ R.sg N F) N b st).1) (VH_ R.sg (Qd_ R.sg N F) N b st).2):=by
 obtain⟨i0,v,y,z,B⟩:=info_parts QB_;have am:=hid (And.intro v (And.intro y (And.intro z B)));clear v y z B;have ac:=hid t.lo;have J:=hid t.lo.1;have a:=hid (fun(row:ON) (W:World) h=>JV_ R hi 0 st row W h);unfold Does at a |-
 unfold VH_;dsimp only;generalize nmT R.sg st=nt at a |-
 generalize nmS R.sg st=f at a |-
 have H:=hid (fun(row:ON) (W:World) h=>We_ R.U hi 0 (Qk_ R.sg f ⟨#[40]⟩) row ⟨#[41]⟩ N W h hN);generalize QF_ R.sg (Qi_ R.sg) ⟨#[41]⟩ N [] (Qk_ R.sg f ⟨#[40]⟩)=q at H |-
 obtain⟨ks,g⟩:=q;dsimp only at H |-
 have o:=hid (fun(U:Nat->Prop) (row:ON) (W:World) h=>HE.block U 0 (Qk_ R.sg g ⟨#[41]⟩) row W h (qL_ _ hF oo) oo);unfold Does at o;generalize Qd_ R.sg N F .block 0 (Qk_ R.sg g ⟨#[41]⟩)=r at o |-
 obtain⟨k,aj⟩:=r;dsimp only at o |-
 have K:=hid t;have S:=hid (Kr.refl R.T row w);have HX:=hid (Q8_ R hi 0 st row w t);have ao:=q4_;have p:=hid (fun(W:World) h=>Qr_ R hi 0 st row ⟨#[118,97,114]⟩ W h);rw[ag]at p;generalize Qu_ R.sg st 0=x at HX h5;obtain⟨kd,xt,xp,xz⟩:=x;dsimp only at HX h5;have an:(kd==5)=false:=by rw[beq_eq_false_iff_ne];exact h5
 clear t;subst af;go_enter func137,ntmps137;go_wp2_with fail
 refine rst (HX.o) K S ?_;intro w1 i T;go_wp2_with fail
 refine rst (p.o _ i.o) i T ?_;intro w2 L V;go_wp2_with fail
 refine pst (a.o _ _ L.o) V ?_;intro w3 C M X;go_wp2_with fail
 refine pst (ZP_ R hi 0 f C ⟨#[40]⟩ w3 M.o) X ?_;intro w4 ak O m;go_wp2_with fail
 refine(H.o _ _ O.o).mono ?_;rintro e w5 ⟨A,c,rfl,m2,ap,D,h2,k2⟩;have Y:=QQ_ m k2;have j:=hid h2;have d:=hid (m2.more (B':=w.heap.size) m.o.size);clear h2 k2 m2 H;go_wp2_with fail
 refine(vQ_ _ hi 0 g D ⟨#[41]⟩ w5 j.o).mono ?_;rintro e w6 ⟨rfl,al,h3,k3⟩;replace d:=hid (j.o.keepI k3 d.o);have l:=hid h3;have Z:=hid (Y.o.trans k3);clear h3 k3;go_wp2_with fail
 refine(o.o _ _ _ l.o).mono ?_;rintro e w7 ⟨rfl,E,s,k5⟩;replace d:=hid (l.o.keepI k5 d.o);have P:=hid s;have aa:=hid (Z.o.trans k5);clear s k5 o;go_wp2_with (at_builtin;refine Kn_ (.tmp 47) (.tmp 49) P aa d J rfl rfl rfl rfl oo ?_;intro A8 c8 w8 Q ab n)
 replace d:=n;clear n;have hA:=vV_ R hi 0 aj E 20 nt A8 (ks.length+1) c8 (ks++[k]) b w.heap.size w8 Q.o.unres d.o ac.o;unfold Does at hA;have I:=hid hA;clear hA;go_wp2_with fail
 refine I.o.mono ?_;rintro e w9 ⟨rfl,G,h8,k8⟩;go_wp2;go_ret;exact⟨rfl,G,h8,ab.o.trans k8⟩
theorem qK_ (R:RC) (hi:R.imp=true) (N F:Nat) (hF:14 * (R.n+2)<=F) (hd:F<=100000) (hN:R.n < N) (HE:EC R N F) (b cl:Bool) (st:RdSt) (row:ON) (w:World) (z:RdI R 0 st row w) (h5:(Qu_ R.sg st 0).1≠5) (aj:isW R.sg st ⟨#[118,97,114]⟩=false) (ak:isW R.sg st ⟨#[99,108,97,115,115]⟩=false) (ai:cl=true):
  Calls prog 137 #[.pointer (some ⟨R.T,0,none⟩),.bool b,.bool cl] w (Does R 0 row w (.int .i64 (VH_ R.sg (Qd_ R.sg N F) N b st).1) (VH_ R.sg (Qd_ R.sg N F) N b st).2):=by
 obtain⟨i0,B,C,D,E⟩:=info_parts QB_;have aq:=hid (And.intro B (And.intro C (And.intro D E)));clear B C D E;have af:=hid z.lo;have L:=hid z.lo.1;have a:=hid (fun(row:ON) (W:World) h=>JV_ R hi 0 st row W h);unfold Does at a |-
 unfold VH_;dsimp only;generalize nmT R.sg st=nt at a |-
 generalize nmS R.sg st=g at a |-
 have J:=hid (fun(row:ON) (W:World) h=>We_ R.U hi 0 (Qk_ R.sg g ⟨#[40]⟩) row ⟨#[41]⟩ N W h hN);generalize QF_ R.sg (Qi_ R.sg) ⟨#[41]⟩ N [] (Qk_ R.sg g ⟨#[40]⟩)=q at J |-
 obtain⟨ks,i⟩:=q;dsimp only at J |-
 have s:=hid (fun(U:Nat->Prop) (row:ON) (W:World) h=>HE.block U 0 (Qk_ R.sg i ⟨#[41]⟩) row W h (qL_ _ hF oo) oo);unfold Does at s;generalize Qd_ R.sg N F .block 0 (Qk_ R.sg i ⟨#[41]⟩)=r at s |-
 obtain⟨k,an⟩:=r;dsimp only at s |-
 have M:=hid z;have V:=hid (Kr.refl R.T row w);have HX:=hid (Q8_ R hi 0 st row w z);have av:=q4_;have t:=hid (fun(W:World) h=>Qr_ R hi 0 st row ⟨#[118,97,114]⟩ W h);rw[aj]at t;have v:=hid (fun(W:World) h=>Qr_ R hi 0 st row ⟨#[99,108,97,115,115]⟩ W h);rw[ak]at v;generalize Qu_ R.sg st 0=x at HX h5;obtain⟨kd,xt,xp,xz⟩:=x;dsimp only at HX h5;have ar:(kd==5)=false:=by rw[beq_eq_false_iff_ne];exact h5
 clear z;subst ai;go_enter func137,ntmps137;go_wp2_with fail
 refine rst (HX.o) M V ?_;intro w1 j X;go_wp2_with fail
 refine rst (t.o _ j.o) j X ?_;intro w2 l Y;go_wp2_with fail
 refine rst (v.o _ l.o) l Y ?_;intro w3 O Z;go_wp2_with fail
 refine pst (a.o _ _ O.o) Z ?_;intro w4 G P aa;go_wp2_with fail
 refine pst (ZP_ R hi 0 g G ⟨#[40]⟩ w4 P.o) aa ?_;intro w5 ao Q o;go_wp2_with fail
 refine(J.o _ _ Q.o).mono ?_;rintro e w6 ⟨A,c,rfl,m2,ax,H,h2,k2⟩;have ab:=QQ_ o k2;have m:=hid h2;have d:=hid (m2.more (B':=w.heap.size) o.o.size);clear h2 k2 m2 J;go_wp2_with fail
 refine(vQ_ _ hi 0 i H ⟨#[41]⟩ w6 m.o).mono ?_;rintro e w7 ⟨rfl,ap,h3,k3⟩;replace d:=hid (m.o.keepI k3 d.o);have n:=hid h3;have ac:=hid (ab.o.trans k3);clear h3 k3;go_wp2_with fail
 refine(s.o _ _ _ n.o).mono ?_;rintro e w8 ⟨rfl,I,y,k5⟩;replace d:=hid (n.o.keepI k5 d.o);have S:=hid y;have ad:=hid (ac.o.trans k5);clear y k5 s;go_wp2_with (at_builtin;refine Kn_ (.tmp 47) (.tmp 49) S ad d L rfl rfl rfl rfl oo ?_;intro A9 c9 w9 T ae p)
 replace d:=p;clear p;have hA:=vV_ R hi 0 an I 20 nt A9 (ks.length+1) c9 (ks++[k]) b w.heap.size w9 T.o.unres d.o af.o;unfold Does at hA;have K:=hid hA;clear hA;go_wp2_with fail
 refine K.o.mono ?_;rintro e ay ⟨rfl,f,h8,k8⟩;go_wp2;go_ret;exact⟨rfl,f,h8,ae.o.trans k8⟩
theorem QaO_ (R:RC) (hi:R.imp=true) (N F:Nat) (e:14 * (R.n+2)<=F) (hd:F<=100000) (g:R.n < N) (d:EC R N F) (b:Bool) (st:RdSt) (row:ON) (w:World) (f:RdI R 0 st row w):
  Calls prog 137 #[.pointer (some ⟨R.T,0,none⟩),.bool b,.bool false] w (Does R 0 row w (.int .i64 (VS_ R.sg (Qd_ R.sg N F) N b st).1) (VS_ R.sg (Qd_ R.sg N F) N b st).2):=by
 by_cases a:(Qu_ R.sg st 0).1=5
 ·rw[show VS_ R.sg (Qd_ R.sg N F) N b st=Xj_ R.sg b st from if_pos a];exact Wn_ R hi N F e hd g d b false st row w f a
 ·rcases bft (isW R.sg st ⟨#[118,97,114]⟩)with c|c
  ·rw[show VS_ R.sg (Qd_ R.sg N F) N b st=Ji_ R.sg (Qd_ R.sg N F) 0 b (Qe_ st)by unfold VS_;rw[if_neg a,if_pos c]];exact zE_ R hi N F e hd g d b false st row w f a c
  ·rw[show VS_ R.sg (Qd_ R.sg N F) N b st=VH_ R.sg (Qd_ R.sg N F) N b st by unfold VS_;rw[if_neg a,if_neg (by rw[c];decide)]];exact qJ_ R hi N F e hd g d b false st row w f a c rfl
theorem v3_ (R:RC) (hi:R.imp=true) (N F:Nat) (hF:14 * (R.n+2)<=F) (hd:F<=100000) (hN:R.n < N) (HE:EC R N F) (bl:Bool) (s:PS) (row:ON) (w:World) (hI:RdI R 0 (some s) row w) (aX:s.at_ < R.n):
  Calls prog 176 #[.pointer (some ⟨R.T,0,none⟩),.bool bl] w (Does R 0 row w (.int .i64 (YW_ R.sg (Qd_ R.sg N F) N bl (Qe_ (some s))).1) (YW_ R.sg (Qd_ R.sg N F) N bl (Qe_ (some s))).2):=by
 obtain⟨i0,aH,aI,aJ,aK⟩:=info_parts QB_;have a3:=hid (And.intro aH (And.intro aI (And.intro aJ aK)));clear aH aI aJ aK;have ay:=hid hI;have aA:=hid (Kr.refl R.T row w);have aQ:=hid hI.lo;have ax:=hid hI.lo.1;have HL:=hid (fun t (e:(some s)=some t)=>show t.at_ < R.n by obtain rfl:=Option.some.inj e;exact aX);have V:=hid (fun(row:ON) (W:World) h=>JV_ R hi 0 (Qe_ (some s)) row W h);have HO:Hid (QdB_ R 0 (some s) (VS_ R.sg (Qd_ R.sg N F) N) (fun w b Q=>Calls prog 137 #[.pointer (some ⟨R.T,0,none⟩),.bool b,.bool false] w Q)):=(show QdB_ _ _ _ _ _ from fun U b t row w h ha=>QaO_ { R with U:=U } hi N F hF hd hN (ec_u U HE) b (some t) row w h);have av:Hid (∀b st,Adv 1 1 st (VS_ R.sg (Qd_ R.sg N F) N b st).2):=(show ∀b st,_ from fun b st=>z1_ (fun m d st=>Qy_ F m d st) b st);unfold Does at V |-
 unfold YW_;dsimp only;generalize VS_ R.sg (Qd_ R.sg N F) N=one at HO av |-
 generalize nmT R.sg (Qe_ (some s))=nt at V |-
 have O:=((Qh_ (some s)).trans (Jm_ (sg:=R.sg) (Qe_ (some s)))).trans (Qo_ (sg:=R.sg) (nmS R.sg (Qe_ (some s))) ⟨#[123]⟩);generalize nmS R.sg (Qe_ (some s))=ab at V O |-
 obtain⟨Q,hQ⟩:=ex_ (Zo_ R.sg one N [] (Qk_ R.sg ab ⟨#[123]⟩));rw[hQ];have HQ:=hid hQ;have G:Hid (Adv 1 0 (some s) (Qk_ R.sg ab ⟨#[123]⟩)):=O.weak oo oo;have a4:=fld3;clear hI O hQ;go_enter func176,ntmps176;go_wp2_with fail
 refine pst (Zi_ R hi 0 (some s) row w ay.o HL.o) aA ?_;intro w1 a2 az aB;go_wp2_with fail
 refine pst (V.o _ _ az.o) aB ?_;intro w2 row2 j o;go_wp2_with fail
 refine pst (ZP_ R hi 0 ab row2 ⟨#[123]⟩ w2 j.o) o ?_;intro w3 aL k y;generalize Qk_ R.sg ab ⟨#[123]⟩=st2 at HQ G k;go_upto_region 5 with fail
 go_loopw [6] (fun v wr=>∃(M:Nat) (ks:LI) (st':RdSt) (row':ON) (A:OA) (c:Nat),v=.slice A ks.length c/\Hid (Zo_ R.sg one M ks st'=Q)/\Hid (Adv 1 0 (some s) st')/\Hid (Enough R.n M st')/\Hid (KidB ks st')/\Hid (Mine wr w.heap.size 3 1 A ks.length c (Qa_ ks))/\Hid (RdI (R.res A) 0 st' row' wr)/\Hid (Kr R.T row w row' wr)) (fun _ wr=>ZY_ R wr)
 case atStart=>exact⟨N,[],st2,aL,none,0,rfl,HQ,G,(show Enough _ _ _ from QL_ hN _),⟨by simp,fun s _=>by simp⟩,Mine.mk_nil _ _ _ _,k.o.res_new br (fun g hg=>by cases hg),y⟩
 case round=>
  clear HQ G ay az j k aA aB o y;obtain⟨M,ks,st',row',A,c,rfl,HQ,af,ai,aC,E,I,HK⟩:=hrel;have C:=hid (fun(row:ON) (W:World) (hI:RdI R 0 st' row W) (hm:Mine W w.heap.size 3 1 A ks.length c (Qa_ ks))=>Ku_ R hi 0 st' row ⟨#[125]⟩ 21 nt A ks.length c ks bl w.heap.size W hI hm aQ.o);unfold Does at C
  cases st' with
  |none=>
   obtain⟨a,b,AN,cN,l,hc,hb,S⟩:=I.o;obtain⟨c2,c3,c4,cf,cz⟩:=hc.cu _ hi;obtain rfl:b=true:=hb;have p:=HQ.o;rw[Xs_]at p;subst p;clear hc c2 c3 S HQ;go_wp2_with fail
   refine(C.o _ _ I.o.unres E.o).mono ?_;rintro e w4 ⟨rfl,n,Z,T⟩;clear c4 cf cz;go_wp2;go_ret;exact⟨rfl,n,Z,HK.o.trans T⟩
  |some t=>
   obtain⟨M,rfl⟩:∃M',M=M'+1:=⟨M - 1,by
    have h1:=ai.o t rfl;have h2:=(I.o.le rfl).1;have:(R.res A).n=R.n:=rfl;omega⟩
   obtain⟨a,b,AN,cN,l,hc,hb,S⟩:=I.o;obtain⟨c2,c3,c4,cf,cz⟩:=hc.cu _ hi;obtain⟨rfl,_,_⟩:=hb;have z:=hid (is_u _ hi 0 (some t) row' ⟨#[125]⟩ wr I.o);have p:=HQ.o;unfold Zo_ at p;rw[if_neg (show ¬(some t).isNone=true by simp)]at p;clear hc c2 c3 S HQ;rcases bft (isM R.sg (some t) ⟨#[125]⟩)with hM|hM
   ·rw[if_pos hM]at p;subst p;rw[hM]at z;clear hM;go_wp2_with fail
    refine z.o.mono ?_;rintro e w2 ⟨rfl,D⟩;have j:=hid (I.o.next D);have B:=hid (E.o.next D);have o:=hid (HK.o.below D);clear c4 cf cz D;go_wp2_with fail
    refine(C.o _ _ j.o.unres B.o).mono ?_;rintro e w4 ⟨rfl,n,Z,T⟩;go_wp2;go_ret;exact⟨rfl,n,Z,o.o.trans T⟩
   ·rw[if_neg (by rw[hM];decide)]at p;rw[hM]at z;have HX:=hid (fun(row:ON) (W:World) h=>QcI_ (R:=R) (fun x=>R.U x\/A.map (·.block)=some x) hi 0 (some t) row W h);have aa:XE_ R.sg (some t) ks=((Qu_ R.sg (some t) 0).2.2.2&&decide (0 < ks.length)):=rfl;rw[aa]at p;generalize Qu_ R.sg (some t) 0=x at HX p aa;obtain⟨xk,xt,xp,xz⟩:=x;dsimp only at HX p aa;clear hM aa C;have a1:=aC.o.2 t rfl;have a6:=(I.o.le rfl).2;have a5:=aC.o.1;have X:Hid (∀bb:Bool,(xz&&decide (0 < ks.length))=bb->∃r:PR,Zo_ R.sg one M (ks++[r.1]) r.2=Q/\Adv 1 1 (some t) r.2/\∀(row:ON) (W:World),RdI { R with U:=fun x=>R.U x\/A.map (·.block)=some x } 0 (some t) row W->Calls prog 137 #[.pointer (some ⟨R.T,0,none⟩),.bool bb,.bool false] W (fun e w'=>e=.returned (.int .i64 r.1)/\∃row',RdI { R with U:=fun x=>R.U x\/A.map (·.block)=some x } 0 r.2 row' w'/\Kr R.T row W row' w')):=(show ∀bb,_->_ from fun bb e=>⟨one bb (some t),by rw[<-e];exact p,av.o bb (some t),fun row W h=>HO.o _ bb t row W h af.o⟩);clear p
    cases xz with
    |false=>
     obtain⟨r,p,f,hC⟩:=X.o false rfl;obtain⟨kc,q⟩:=r;dsimp only at p f hC;have am:=hid p;have HC:=hid hC;have H:=hid f;have ag:Hid (KidB (ks++[kc]) q):=(show KidB _ _ from⟨by rw[lA];simp;omega,fun t2 e=>by
      obtain⟨aY,e2,_,h3⟩:=f t2 e;obtain rfl:=Option.some.inj e2;rw[lA];simp;omega⟩)
     have ah:Hid (Enough R.n M q):=ai.o.adv (i:=0) f;have ae:Hid (Adv 1 0 (some s) q):=(af.o.trans f).weak oo oo;have P:(ks++[kc]).length=ks.length+1:=(by simp);clear p hC f X;go_wp2_with fail
     refine z.o.mono ?_;rintro e w2 ⟨rfl,D⟩;have j:=hid (I.o.next D);have B:=hid (E.o.next D);have o:=hid (HK.o.below D);clear c4 cf cz D z;go_wp2_with fail
     refine(HX.o _ _ j.o).mono ?_;rintro e w3 ⟨rfl,Y⟩;have k:=hid (j.o.next Y);have K:=hid (B.o.next Y);have y:=hid (o.o.below Y);clear Y HX j B o;go_wp2_with fail
     refine(HC.o _ _ k.o).mono ?_;rintro e w4 ⟨rfl,n,Z,T⟩;have E:=hid (k.o.keepI T K.o);have aj:=hid Z;have ak:=hid (y.o.trans T);clear Z T k K y;go_wp2_with (at_builtin;refine Kn_ (.tmp 34) (.tmp 36) aj ak E ax rfl rfl rfl rfl oo ?_;intro A5 c5 w5 J al L)
     replace E:=L;clear L;go_wp2;go_roundw
     case rel=>exact⟨M,ks++[kc],q,n,A5,c5,by rw[P],am,ae,ah,ag,by rw[P];exact E,J,al⟩
     case measure=>exact G5_ hi I.o J.o (H.o.weak (i':=1) (j':=0) oo oo)
    |true=>
     obtain⟨r,p,f,hC⟩:=X.o _ rfl;obtain⟨kc,q⟩:=r;dsimp only at p f hC;rw[Bool.true_and]at hC;have am:=hid p;have HC:=hid hC;have H:=hid f;have ag:Hid (KidB (ks++[kc]) q):=(show KidB _ _ from⟨by rw[lA];simp;omega,fun t2 e=>by
      obtain⟨aY,e2,_,h3⟩:=f t2 e;obtain rfl:=Option.some.inj e2;rw[lA];simp;omega⟩)
     have ah:Hid (Enough R.n M q):=ai.o.adv (i:=0) f;have ae:Hid (Adv 1 0 (some s) q):=(af.o.trans f).weak oo oo;have P:(ks++[kc]).length=ks.length+1:=(by simp);clear p hC f X;go_wp2_with fail
     refine z.o.mono ?_;rintro e w2 ⟨rfl,D⟩;have j:=hid (I.o.next D);have B:=hid (E.o.next D);have o:=hid (HK.o.below D);clear c4 cf cz D z;go_wp2_with fail
     refine(HX.o _ _ j.o).mono ?_;rintro e w3 ⟨rfl,Y⟩;have k:=hid (j.o.next Y);have K:=hid (B.o.next Y);have y:=hid (o.o.below Y);clear Y HX j B o;go_wp2_with fail
     refine(HC.o _ _ k.o).mono ?_;rintro e w4 ⟨rfl,n,Z,T⟩;have E:=hid (k.o.keepI T K.o);have aj:=hid Z;have ak:=hid (y.o.trans T);clear Z T k K y;go_wp2_with (at_builtin;refine Kn_ (.tmp 34) (.tmp 36) aj ak E ax rfl rfl rfl rfl oo ?_;intro A5 c5 w5 J al L)
     replace E:=L;clear L;go_wp2;go_roundw
     case rel=>exact⟨M,ks++[kc],q,n,A5,c5,by rw[P],am,ae,ah,ag,by rw[P];exact E,J,al⟩
     case measure=>exact G5_ hi I.o J.o (H.o.weak (i':=1) (j':=0) oo oo)
theorem xn_ (R:RC) (hi:R.imp=true) (N F:Nat) (hF:14 * (R.n+2)<=F) (hd:F<=100000) (hN:R.n < N) (HE:EC R N F) (b:Bool) (st:RdSt) (row:ON) (w:World) (l:RdI R 0 st row w) (A:(Qu_ R.sg st 0).1≠5) (C:isW R.sg st ⟨#[118,97,114]⟩=false) (g:isW R.sg st ⟨#[99,108,97,115,115]⟩=true):
  Calls prog 137 #[.pointer (some ⟨R.T,0,none⟩),.bool b,.bool true] w (Does R 0 row w (.int .i64 (YW_ R.sg (Qd_ R.sg N F) N b (Qe_ st)).1) (YW_ R.sg (Qd_ R.sg N F) N b (Qe_ st)).2):=by
 obtain⟨s,es,f⟩:=U7_ g;subst es;have B:s.at_ < R.n:=by rw[<-l.ok.len];exact f
 have j:=hid (fun(row:ON) (W:World) h=>v3_ R hi N F hF hd hN HE b s row W h B);unfold Does at j |-
 generalize YW_ R.sg (Qd_ R.sg N F) N b (Qe_ (some s))=r at j |-
 obtain⟨k,st2⟩:=r;dsimp only at j |-
 have m:=hid l;have p:=hid (Kr.refl R.T row w);have z:=hid (Q8_ R hi 0 (some s) row w l);have E:=q4_;have d:=hid (fun(W:World) h=>Qr_ R hi 0 (some s) row ⟨#[118,97,114]⟩ W h);rw[C]at d;have e:=hid (fun(W:World) h=>Qr_ R hi 0 (some s) row ⟨#[99,108,97,115,115]⟩ W h);rw[g]at e;generalize Qu_ R.sg (some s) 0=x at z A;obtain⟨kd,xt,xp,xz⟩:=x;dsimp only at z A;have D:(kd==5)=false:=by rw[beq_eq_false_iff_ne];exact A
 clear l f;go_enter func137,ntmps137;go_wp2_with fail
 refine rst (z.o) m p ?_;intro w1 a q;go_wp2_with fail
 refine rst (d.o _ a.o) a q ?_;intro w2 c t;go_wp2_with fail
 refine rst (e.o _ c.o) c t ?_;intro w3 n v;go_wp2_with fail
 refine pst (j.o _ _ n.o) v ?_;intro w4 i o y;go_wp2;go_ret;exact⟨rfl,i,o.o,y.o⟩
theorem QaP_ (R:RC) (hi:R.imp=true) (N F:Nat) (e:14 * (R.n+2)<=F) (hd:F<=100000) (g:R.n < N) (d:EC R N F) (b:Bool) (st:RdSt) (row:ON) (w:World) (f:RdI R 0 st row w):
  Calls prog 137 #[.pointer (some ⟨R.T,0,none⟩),.bool b,.bool true] w (Does R 0 row w (.int .i64 (YU_ R.sg (Qd_ R.sg N F) N b st).1) (YU_ R.sg (Qd_ R.sg N F) N b st).2):=by
 by_cases a:(Qu_ R.sg st 0).1=5
 ·rw[show YU_ R.sg (Qd_ R.sg N F) N b st=Xj_ R.sg b st from if_pos a];exact Wn_ R hi N F e hd g d b true st row w f a
 ·rcases bft (isW R.sg st ⟨#[118,97,114]⟩)with c|c
  ·rw[show YU_ R.sg (Qd_ R.sg N F) N b st=Ji_ R.sg (Qd_ R.sg N F) 0 b (Qe_ st)by unfold YU_;rw[if_neg a,if_pos c]];exact zE_ R hi N F e hd g d b true st row w f a c
  ·rcases bft (isW R.sg st ⟨#[99,108,97,115,115]⟩)with h1|h1
   ·rw[show YU_ R.sg (Qd_ R.sg N F) N b st=YW_ R.sg (Qd_ R.sg N F) N b (Qe_ st)by unfold YU_;rw[if_neg a,if_neg (by rw[c];decide),if_pos h1]];exact xn_ R hi N F e hd g d b st row w f a c h1
   ·rw[show YU_ R.sg (Qd_ R.sg N F) N b st=VH_ R.sg (Qd_ R.sg N F) N b st by unfold YU_;rw[if_neg a,if_neg (by rw[c];decide),if_neg (by rw[h1];decide)]];exact qK_ R hi N F e hd g d b true st row w f a c h1 rfl
theorem QfH_:(prog.info? 135).map (fun i=>(i.zero,i.size,i.bytes))=some (some (.agg #[.int .i64 0,.int .i64 0]),2,16):=by kernel_rfl
theorem Qdo_ (a b:Int):∀u∈[Value.int .i64 a,.int .i64 b],u.oneCell'=true:=by
 intro u hu;simp at hu;rcases hu with rfl|rfl<;>rfl
theorem RC.ty_two (R:RC):R.ty≠135:=by unfold RC.ty;cases R.imp<;>decide
abbrev RC.mem (R:RC) (v:Value):RC:={ R with M:=v }
section
variable {R:RC} {a d:Nat} {b:Bool} {AN:OA} {cN:Nat} {l:List Nd} {st:RdSt} {row:ON} {w w1 w3:World}
theorem RdI.members (hi:R.imp=true) (h:RdI R d st row w) {B:Nat} {e:TypeId} {T n c n':Nat} {A:OA} {xs ys:List Value} {v':Value} (C:e≠R.ty) (K:e≠36) (L:e≠3) (hm:Mine w B e T A n c xs) (hB:R.w0.heap.size<=B) (G:Below w.heap.size w w1)
  (F:w3.ownsRow B e T v' n' ys) (s:w1.grownBy w3 (Value.slice A n c).ownBlock):
  ∃A' c',v'=.slice A' n' c'/\RdI (R.mem v') d st row (w3.setCell ⟨R.T,6,none⟩ v')/\Mine (w3.setCell ⟨R.T,6,none⟩ v') B e T A' n' c' ys/\(∃v6,w3.cell? ⟨R.T,6,none⟩=some v6)/\(∀i,w3.frozen? ⟨R.T,i,none⟩=false)/\R.T < w3.heap.size/\∃cs,Blk w3 R.T R.ty cs:=by
 obtain⟨A',c',rfl,m3⟩:=Mine.of F;rw[Qw_]at s;obtain⟨a,b,AN,cN,l,hc,h2⟩:=h;have P:=hm.next G;obtain⟨c1,c2,I,c4,c5,c6,y⟩:=hc.next G;have r:∀g t cs,Blk w1 g t cs->t≠e->some g≠A.map (·.block):=fun g t cs hk ht e=>by
  obtain⟨U,O⟩:=QP_ P e.symm;exact KM_ hk O ht rfl
 have f:=c1.grown s (r _ _ _ c1 (Ne.symm C));have m:∀v,(R.cells a d b (.slice AN l.length cN)).setIfInBounds 6 v=(R.mem v).cells a d b (.slice AN l.length cN):=fun v=>by
  unfold RC.cells;rw[if_pos hi,if_pos (show(R.mem v).imp=true from hi)];simp
 have D:∀x∈l,KidsIn w3 R.w0.heap.size R.U x:=fun x H=>by
  refine⟨(I.1 x H).1,?_⟩;have hy:=(I.1 x H);have k:=hy.2.len;rcases hy.2.own with⟨o,z,J⟩|⟨g',o,p,Q,q,rest,j,hs⟩
  ·rw[o,z,J];exact⟨by rw[k,z],.inl ⟨rfl,rfl⟩⟩
  ·rw[o];exact Mine.mk_own ⟨rest,j.grown s (r _ _ _ j (Ne.symm L)),hs⟩ k p Q q
 have S:Mine w3 R.w0.heap.size 36 4 AN l.length cN (l.flatMap Qq_):=by
  have k:=c2.len;rcases c2.own with⟨o,z,J⟩|⟨g',o,p,Q,q,rest,j,hs⟩
  ·rw[o,z,J];exact⟨by rw[k,z],.inl ⟨rfl,rfl⟩⟩
  ·rw[o];exact Mine.mk_own ⟨rest,j.grown s (r _ _ _ j (Ne.symm K)),hs⟩ k p Q q
 have E:Below R.w0.heap.size R.w0 w3:=c6.grown s c6.size (fun g M=>Nat.le_trans hB (Mine.blk hm M).1);refine⟨A',c',rfl,⟨a,b,AN,cN,l,⟨?_,Kx_ S f (Ne.symm R.ty_node) _ _,⟨fun x H=>⟨(D x H).1,Kx_ (D x H).2 f (Ne.symm R.ty_int) _ _⟩,fun g N=>?_⟩,c4,c5,E.setCell y.low _,⟨y.len,y.most,y.rd,y.low⟩⟩,h2⟩,Kx_ m3 f C _ _,?_,f.frozen,f.lt,_,f⟩
 ·have:=f.set_ 6 (.slice A' n' c');rw[m]at this;exact this
 ·have:=I.2 g N;have:=s.size;simp only[World.setCell,Array.size_modify];omega
 ·have:=f;unfold RC.cells at this;rw[if_pos hi]at this;exact⟨_,this.cell 6⟩
theorem RdC.c6 (hi:R.imp=true) (h:RdC R a d b AN cN l w):w.cell? ⟨R.T,6,none⟩=some R.M:=by
 have c:=h.1;unfold RC.cells at c;rw[if_pos hi]at c;exact c.cell 6
end
theorem Qe3_ {R:RC} {V V':Value} {U U':Nat->Prop} {d d':Nat} {s:PS} {row row':ON} {w w':World} (hi:R.imp=true) (h:RdI { R with M:=V,U:=U } d (some s) row w) {st':RdSt} (h':RdI { R with M:=V',U:=U' } d' st' row' w') {i j:Nat} (k:Adv (i+1) j (some s) st'):ZY_ R w' < ZY_ R w:=by
 have e1:=Yl_ (R:={ R with M:=V,U:=U }) hi h;have e3:∀W,ZY_ { R with M:=V',U:=U' } W=ZY_ R W:=fun _=>rfl
 have e0:∀W,ZY_ { R with M:=V,U:=U } W=ZY_ R W:=fun _=>rfl
 have hn:({ R with M:=V,U:=U }:RC).n=R.n:=rfl;rw[e0]at e1
 cases st' with
 |none=>have:=Wj_ (R:={ R with M:=V',U:=U' }) hi h';rw[e3]at this;omega
 |some t=>
  have e4:=Yl_ (R:={ R with M:=V',U:=U' }) hi h';obtain⟨s',e5,h1,_⟩:=k t rfl;obtain rfl:=Option.some.inj e5;have e6:({ R with M:=V',U:=U' }:RC).n=R.n:=rfl;rw[e3]at e4;omega
theorem JT_ {w w1 w3:World} {B B':Nat} {e e':TypeId} {sz h n c n' c':Nat} {A A':OA} {xs i:List Value} (hm:Mine w B e sz A n c xs) (hk:Mine w B' e' h A' n' c' i) (he:e≠e') (b:Below w.heap.size w w1) (hg:w1.grownBy w3 (Value.slice A' n' c').ownBlock):Mine w3 B e sz A n c xs:=by
 rw[Qw_]at hg;have f:=hk.next b;have a:=hm.next b;have hl:=a.len;rcases a.own with⟨rfl,rfl,rfl⟩|⟨g,rfl,hB,hn,hc,rest,hb,hs⟩
 ·exact⟨hl,.inl ⟨rfl,rfl⟩⟩
 ·refine Mine.mk_own ⟨rest,hb.grown hg (fun e2=>?_),hs⟩ hl hB hn hc;obtain⟨j,d⟩:=QP_ f e2.symm;exact KM_ hb d he rfl
theorem Kr.setT {T:Nat} {row row':ON} {w w':World} (h:Kr T row w row' w') (i:Nat) (u:Value):Kr T row w row' (w'.setCell ⟨T,i,none⟩ u):=
 ⟨Nat.le_trans h.1 (by simp[World.setCell]),h.2.1,fun g hg ht hr=>(Below.heap_setCell w' ⟨T,i,none⟩ u g ht).trans (h.2.2 g hg ht hr)⟩
theorem Qex_ {sg:List SgP} {st:RdSt} (h:jw_ sg st=true):∃s,st=some s/\s.at_ < sg.length:=by
 cases st with
 |none=>cases h
 |some s=>exact⟨s,rfl,of_decide_eq_true h⟩
theorem kr_ (R:RC) (hi:R.imp=true) (N F:Nat) (hF:14 * (R.n+2)<=F) (hd:F<=100000) (hN:R.n < N) (HE:EC R N F) (st:RdSt) (row:ON) (w:World) (K:RdI R 0 st row w) (bI:R.M=.slice none 0 0):
  Calls prog 115 #[.pointer (some ⟨R.T,0,none⟩)] w fun e w'=>e=.returned (.tuple #[])/\∃(v:Value) (row':ON),RdI (R.mem v) 0 (kp_ R.sg (Qd_ R.sg N F) N st) row' w'/\Kr R.T row w row' w':=by
 obtain⟨i0,aA,aC,aD,aE⟩:=info_parts QB_;have X:=hid (And.intro aA (And.intro aC (And.intro aD aE)));clear aA aC aD aE;obtain⟨i2,aA,aC,aD,aE⟩:=info_parts QfH_;have C:=hid (And.intro aA (And.intro aC (And.intro aD aE)));clear aA aC aD aE;have a9:Hid (RdI (R.mem (.slice none 0 0)) 0 st row w):=(show RdI (R.mem (.slice none 0 0)) 0 st row w from by rw[RC.mem,<-bI];exact K);have bs:=hid K.lo;have aG:=hid K.lo.1;have bL:=K.ok.most;have bU:=K.ok.len;have HO:Hid (∀(V:Value) (U:Nat->Prop) (b:Bool) (t:PS) (row:ON) (w:World),RdI { R with M:=V,U:=U } 0 (some t) row w->Calls prog 137 #[.pointer (some ⟨R.T,0,none⟩),.bool b,.bool true] w (Does { R with M:=V,U:=U } 0 row w (.int .i64 (YU_ R.sg (Qd_ R.sg N F) N b (some t)).1) (YU_ R.sg (Qd_ R.sg N F) N b (some t)).2)):=
  (show ∀V U b t row w,_->_ from fun V U b t row w h=>QaP_ { R with M:=V,U:=U } hi N F hF hd hN ⟨fun U' d st row w K=>(Jt_ { R with M:=V,U:=U } hi N hN F).value U' d st row w K,fun U' d st row w K=>(Jt_ { R with M:=V,U:=U } hi N hN F).pick U' d st row w K,fun U' l d st row w K=>(Jt_ { R with M:=V,U:=U } hi N hN F).chain U' l d st row w K,fun U' d st row w K=>(Jt_ { R with M:=V,U:=U } hi N hN F).end_ U' d st row w K,fun U' d st row w K=>(Jt_ { R with M:=V,U:=U } hi N hN F).base U' d st row w K,fun U' b d st row w K=>(Jt_ { R with M:=V,U:=U } hi N hN F).stmt U' b d st row w K,fun U' d st row w K=>(Jt_ { R with M:=V,U:=U } hi N hN F).block U' d st row w K⟩ b (some t) row w h)
 have a8:Hid (∀b st,Adv 1 1 st (YU_ R.sg (Qd_ R.sg N F) N b st).2):=(show ∀b st,_ from fun b st=>xR_ (fun m d st=>Qy_ F m d st) b st);unfold kp_;obtain⟨Q,hQ⟩:=ex_ (XI_ R.sg (Qd_ R.sg N F) N N [] st);rw[hQ];have HQ:=hid hQ;generalize Qd_ R.sg N F=E at HO a8 HQ;have bX:=fld3;clear K hQ HE;go_enter func115,ntmps115;go_wp2;go_loopw [2] (fun v wr=>∃(M:Nat) (ks:LI) (st':RdSt) (row':ON) (A:OA) (c:Nat) (z:OA) (B:Nat) (xm:List Value),v=.slice A ks.length c/\Hid (XI_ R.sg E N M ks st'=Q)/\Hid (Enough R.n M st')/\Hid (KidB ks st')/\Hid (Mine wr w.heap.size 3 1 A ks.length c (Qa_ ks))/\Hid (Mine wr w.heap.size 135 2 z ks.length B xm)/\Hid (RdI ((R.mem (.slice z ks.length B)).res A) 0 st' row' wr)/\Hid (Kr R.T row w row' wr)) (fun _ wr=>ZY_ R wr)
 case atStart=>exact⟨N,[],st,row,none,0,none,0,[],rfl,HQ,(show Enough _ _ _ from QL_ hN _),⟨by simp,fun s _=>by simp⟩,Mine.mk_nil _ _ _ _,Mine.mk_nil _ _ _ _,a9.o.res_new br (fun g hg=>by cases hg),Kr.refl _ _ _⟩
 case round=>
  clear HQ a9;obtain⟨M,ks,st',row',A,c,z,B,xm,rfl,HQ,aU,ba,O,Y,HI,HK⟩:=hrel;obtain⟨a,b,AN,cN,l,hc,hb,bi⟩:=HI.o;obtain⟨c0,c2,c3,c4,c5,cf,cz⟩:=RdC.ci (R:=(R.mem (.slice z ks.length B)).res A) hi hc;change wr.cell? ⟨R.T,0,none⟩=some (.slice R.A R.n R.c)at c0;change wr.cell? ⟨R.T,2,none⟩=_ at c2;change wr.cell? ⟨R.T,4,none⟩=_ at c4;change R.T < _ at cz;clear c3 c5 cf hc bi;rcases bft (jw_ R.sg st')with hR|hR
  ·obtain⟨t,es,bK⟩:=Qex_ hR;subst es;have bM:t.at_=a:=hb.2.1;obtain rfl:b=false:=hb.1;obtain⟨M,rfl⟩:∃M',M=M'+1:=⟨M - 1,by
    have h1:=aU.o t rfl;omega⟩
   have L:=HQ.o;unfold XI_ at L;rw[if_pos hR]at L;have bV:(a:Int) < (R.n:Int):=oo;have HX:=hid (fun(row:ON) (W:World) h=>QcI_ (R:=R.mem (.slice z ks.length B)) (fun x=>R.U x\/A.map (·.block)=some x) hi 0 (some t) row W h);have aN:XE_ R.sg (some t) ks=((Qu_ R.sg (some t) 0).2.2.2&&decide (0 < ks.length)):=rfl;rw[aN]at L;change Hid (∀(row:ON) (W:World),_->Calls prog 138 #[.pointer (some ⟨R.T,0,none⟩)] W fun e w'=>e=.returned (.agg #[.int .i64 (Qu_ R.sg (some t) 0).1,.string (Qu_ R.sg (some t) 0).2.1,.int .i64 (Qu_ R.sg (some t) 0).2.2.1,.bool (Qu_ R.sg (some t) 0).2.2.2])/\Below W.heap.size W w')at HX;generalize Qu_ R.sg (some t) 0=x at HX L aN;obtain⟨xk,xt,xp,xz⟩:=x;dsimp only at HX L aN;have bT:=ba.o.2 t rfl;have aO:=(HI.o.le rfl).2;have bZ:=ba.o.1;have aJ:Hid (∀bb:Bool,(xz&&decide (0 < ks.length))=bb->∃r:PR,XI_ R.sg E N M (ks++[r.1]) r.2=Q/\Adv 1 1 (some t) r.2/\∀(row:ON) (W:World),RdI { R with M:=.slice z ks.length B,U:=fun x=>R.U x\/A.map (·.block)=some x } 0 (some t) row W->Calls prog 137 #[.pointer (some ⟨R.T,0,none⟩),.bool bb,.bool true] W (fun e w'=>e=.returned (.int .i64 r.1)/\∃row',RdI { R with M:=.slice z ks.length B,U:=fun x=>R.U x\/A.map (·.block)=some x } 0 r.2 row' w'/\Kr R.T row W row' w')):=(show ∀bb,_->_ from fun bb e=>⟨YU_ R.sg E N bb (some t),by rw[<-e];exact L,a8.o bb (some t),fun row W h=>HO.o _ _ bb t row W h⟩);clear L aN HQ hR bK
   cases xz with
   |false=>
     obtain⟨r,L,j,hC⟩:=aJ.o false rfl;obtain⟨kc,J⟩:=r;dsimp only at L j hC;have aZ:=hid L;have HC:=hid hC;have am:=hid j;have aR:Hid (KidB (ks++[kc]) J):=(show KidB _ _ from⟨by rw[lA];simp;omega,fun t2 e=>by
      obtain⟨bR,e2,_,h3⟩:=j t2 e;obtain rfl:=Option.some.inj e2;rw[lA];simp;omega⟩)
     have aS:Hid (Enough R.n M J):=aU.o.adv (i:=0) j;have T:(ks++[kc]).length=ks.length+1:=(by simp);clear L hC j aJ;go_wp2;go_quiet (fail);have ac:=hid (HI.o.next (below_drewN br nq));have av:=hid (O.o.drewN nq);have Z:=hid (Y.o.drewN nq);have aq:=hid (HK.o.below (below_drewN br nq));go_wp2_with fail
     refine(HX.o _ _ ac.o).mono ?_;rintro e w3 ⟨rfl,g3⟩;have P:=hid (ac.o.next g3);have ax:=hid (av.o.next g3);have aa:=hid (Z.o.next g3);have ar:=hid (aq.o.below g3);clear g3 HX ac av aq Z c0 c2 c4 cz;go_wp2_with fail
     refine(HC.o _ _ P.o).mono ?_;rintro e w4 ⟨rfl,n,h4,k4⟩;have O:=hid (P.o.keepI k4 ax.o);have Y:=hid (P.o.keepM k4 aa.o (Ne.symm (RC.ty_two R)) (by decide));have ao:Hid (RdI ((R.mem (.slice z ks.length B)).res A) 0 J n w4):=h4;have ae:=hid (ar.o.trans k4);clear h4 k4 P ax ar aa;have bN:=ae.o.size;go_wp2_with (at_builtin;(refine Qf_ _ rfl (.tmp 36) (.tmp 38) _ rfl w.heap.size 3 i0 (.int .i64 0) 1 8 underlying34 X.o.1 X.o.2.1 X.o.2.2.1 X.o.2.2.2 rfl (by decide) (.slice A ks.length c) ks.length (Qa_ ks) rfl (Mine.alloc O.o _) ⟨w4.heap.size,0,none⟩ 1 1 [.int .i64 kc] rfl rfl (Kq_ _ kc _) (Kr_ _) (by unfold maxLen;omega) oo (by simp;omega) ?_);intro v' y H S ab;obtain⟨A5,a2,rfl,h5,m5⟩:=RdI.appended ao.o O.o aG.o bra H S ab)
     have af:=hid ((ae.o.below bra).grown S (fun g hg=>by rw[Qw_]at hg;exact(Mine.blk O.o hg).1));have k:=hid (JT_ Y.o O.o (by decide) bra S);rw[<-QO_]at m5;have ad:Hid (RdI ((R.mem (.slice z ks.length B)).res A5) 0 J n y):=h5;replace O:=hid m5;clear H S ab h5 m5 Y ao ae;obtain⟨a5,b5,bp,bz,l5,ah,aB,ai⟩:=id ad.o;obtain⟨d0,d2,d3,d4,d5,df,dz⟩:=RdC.ci (R:=(R.mem (.slice z ks.length B)).res A5) hi ah;have d6:y.cell? ⟨R.T,6,none⟩=some (.slice z ks.length B):=RdC.c6 (R:=(R.mem (.slice z ks.length B)).res A5) hi ah;change y.cell? ⟨R.T,2,none⟩=_ at d2;change ∀i,y.frozen? ⟨R.T,i,none⟩=false at df;change R.T < _ at dz;have e2:∀o,(y.alloc o).cell? ⟨R.T,2,none⟩=some (.int .i64 a5):=fun o=>by rw[(QE_ (br.alloc (Nat.le_refl _) o)).1 _ _ dz];exact d2
     have e6:∀o,(y.alloc o).cell? ⟨R.T,6,none⟩=some (.slice z ks.length B):=fun o=>by rw[(QE_ (br.alloc (Nat.le_refl _) o)).1 _ _ dz];exact d6
     have aO:(y.alloc (.cells #[.int .i64 a,.int .i64 a5] 135)).heap[y.heap.size]? =some (.cells #[.int .i64 a,.int .i64 a5] 135 (0,0)):=heap_alloc_new y _;have aT:=hid (show w.heap.size<=y.heap.size from af.o.size);have HP:=hid (fun(n':Nat) (ys:List Value) (v':Value) (w3:World) h1 h2=>RdI.members (R:=(R.mem (.slice z ks.length B)).res A5) hi ad.o (RC.ty_two R).symm (by decide) (by decide) k.o aG.o (w1:=y.alloc (.cells #[.int .i64 a,.int .i64 a5] 135)) (w3:=w3) (n':=n') (ys:=ys) (v':=v') bra h1 h2);clear ah d0 d3 d4 d5 aB ai;go_upto_region 5 with fail
     go_region_law
      (refine step_append_lies _ rfl (.tmp 44) (.tmp 51) 103 rfl w.heap.size 135 i2 (.agg #[.int .i64 0,.int .i64 0]) 2 16 underlying103 C.o.1 C.o.2.1 C.o.2.2.1 C.o.2.2.2 rfl (by decide) (.slice z ks.length B) ks.length xm (by first|(simp[Act.eval];done)|(simp[Act.eval,Act.put];done)|rfl) (by first|exact(k.o.alloc _).drew|exact k.o.alloc _) ⟨y.heap.size,0,none⟩ 1 1 [.int .i64 a,.int .i64 a5] (by first|(simp[Act.eval];done)|(simp[Act.eval,Act.put];done)|rfl) (by rfl) (World.news_of_block (cs:=#[.int .i64 a,.int .i64 a5]) (t:=135) (fr:=(0,0)) aO) (Qdo_ _ _) (by decide) (by unfold maxLen;omega) oo (by have:=aT.o;simp;omega) (y.heap.size+1) (by simp) ?_
       intro q cap w6 I p a4 bh;have f:(y.alloc (.cells #[.int .i64 a,.int .i64 a5] 135)).grownBy w6 (Value.slice z ks.length B).ownBlock:=(by first|exact p|exact Kw_ p);obtain⟨A6,bx,ev,D,G,⟨v6,j6⟩,jf,jz,bA,jb⟩:=HP.o _ _ _ _ I f;have HW:=hid (And.intro ev (And.intro D (And.intro G ((af.o.below bra).grown f (fun g hg=>by rw[Qw_]at hg;exact(Mine.blk k.o hg).1)))));have aY:=hid (fun u=>Kx_ (JT_ O.o k.o (by decide) bra f) jb (Ne.symm R.ty_int) 6 u);change w6.cell? ⟨R.T,6,none⟩=_ at j6;change ∀i,w6.frozen? ⟨R.T,i,none⟩=false at jf;change R.T < _ at jz;clear I p a4 f ev D G jb)
     all_goals
      obtain⟨ev,D,G,az⟩:=HW.o;injection ev with ev1 ev2 ev3;subst ev1;subst ev3;have ap:=hid D;have aX:=hid G;have aV:=hid (az.setT 6 (.slice (some ⟨q,0,none⟩) (ks.length+1) cap));clear D G az HW ev2 O k ad af HP;go_wp2;go_roundw
      case rel=>exact⟨M,ks++[kc],J,n,A5,a2,some ⟨q,0,none⟩,cap,_,by rw[T],aZ,aS,aR,by rw[T];exact aY.o _,by rw[T];exact aX,by rw[T];exact ap,aV⟩
      case measure=>exact Qe3_ hi HI.o ap.o (am.o.weak (i':=1) (j':=0) oo oo)
   |true=>
     obtain⟨r,L,j,hC⟩:=aJ.o _ rfl;obtain⟨kc,J⟩:=r;dsimp only at L j hC;rw[Bool.true_and]at hC;have aZ:=hid L;have HC:=hid hC;have am:=hid j;have aR:Hid (KidB (ks++[kc]) J):=(show KidB _ _ from⟨by rw[lA];simp;omega,fun t2 e=>by
      obtain⟨bR,e2,_,h3⟩:=j t2 e;obtain rfl:=Option.some.inj e2;rw[lA];simp;omega⟩)
     have aS:Hid (Enough R.n M J):=aU.o.adv (i:=0) j;have T:(ks++[kc]).length=ks.length+1:=(by simp);clear L hC j aJ;go_wp2;go_quiet (fail);have ac:=hid (HI.o.next (below_drewN br nq));have av:=hid (O.o.drewN nq);have Z:=hid (Y.o.drewN nq);have aq:=hid (HK.o.below (below_drewN br nq));go_wp2_with fail
     refine(HX.o _ _ ac.o).mono ?_;rintro e w3 ⟨rfl,g3⟩;have P:=hid (ac.o.next g3);have ax:=hid (av.o.next g3);have aa:=hid (Z.o.next g3);have ar:=hid (aq.o.below g3);clear g3 HX ac av aq Z c0 c2 c4 cz;go_wp2_with fail
     refine(HC.o _ _ P.o).mono ?_;rintro e w4 ⟨rfl,n,h4,k4⟩;have O:=hid (P.o.keepI k4 ax.o);have Y:=hid (P.o.keepM k4 aa.o (Ne.symm (RC.ty_two R)) (by decide));have ao:Hid (RdI ((R.mem (.slice z ks.length B)).res A) 0 J n w4):=h4;have ae:=hid (ar.o.trans k4);clear h4 k4 P ax ar aa;have bN:=ae.o.size;go_wp2_with (at_builtin;(refine Qf_ _ rfl (.tmp 36) (.tmp 38) _ rfl w.heap.size 3 i0 (.int .i64 0) 1 8 underlying34 X.o.1 X.o.2.1 X.o.2.2.1 X.o.2.2.2 rfl (by decide) (.slice A ks.length c) ks.length (Qa_ ks) rfl (Mine.alloc O.o _) ⟨w4.heap.size,0,none⟩ 1 1 [.int .i64 kc] rfl rfl (Kq_ _ kc _) (Kr_ _) (by unfold maxLen;omega) oo (by simp;omega) ?_);intro v' y H S ab;obtain⟨A5,a2,rfl,h5,m5⟩:=RdI.appended ao.o O.o aG.o bra H S ab)
     have af:=hid ((ae.o.below bra).grown S (fun g hg=>by rw[Qw_]at hg;exact(Mine.blk O.o hg).1));have k:=hid (JT_ Y.o O.o (by decide) bra S);rw[<-QO_]at m5;have ad:Hid (RdI ((R.mem (.slice z ks.length B)).res A5) 0 J n y):=h5;replace O:=hid m5;clear H S ab h5 m5 Y ao ae;obtain⟨a5,b5,bp,bz,l5,ah,aB,ai⟩:=id ad.o;obtain⟨d0,d2,d3,d4,d5,df,dz⟩:=RdC.ci (R:=(R.mem (.slice z ks.length B)).res A5) hi ah;have d6:y.cell? ⟨R.T,6,none⟩=some (.slice z ks.length B):=RdC.c6 (R:=(R.mem (.slice z ks.length B)).res A5) hi ah;change y.cell? ⟨R.T,2,none⟩=_ at d2;change ∀i,y.frozen? ⟨R.T,i,none⟩=false at df;change R.T < _ at dz;have e2:∀o,(y.alloc o).cell? ⟨R.T,2,none⟩=some (.int .i64 a5):=fun o=>by rw[(QE_ (br.alloc (Nat.le_refl _) o)).1 _ _ dz];exact d2
     have e6:∀o,(y.alloc o).cell? ⟨R.T,6,none⟩=some (.slice z ks.length B):=fun o=>by rw[(QE_ (br.alloc (Nat.le_refl _) o)).1 _ _ dz];exact d6
     have aO:(y.alloc (.cells #[.int .i64 a,.int .i64 a5] 135)).heap[y.heap.size]? =some (.cells #[.int .i64 a,.int .i64 a5] 135 (0,0)):=heap_alloc_new y _;have aT:=hid (show w.heap.size<=y.heap.size from af.o.size);have HP:=hid (fun(n':Nat) (ys:List Value) (v':Value) (w3:World) h1 h2=>RdI.members (R:=(R.mem (.slice z ks.length B)).res A5) hi ad.o (RC.ty_two R).symm (by decide) (by decide) k.o aG.o (w1:=y.alloc (.cells #[.int .i64 a,.int .i64 a5] 135)) (w3:=w3) (n':=n') (ys:=ys) (v':=v') bra h1 h2);clear ah d0 d3 d4 d5 aB ai;go_upto_region 5 with fail
     go_region_law
      (refine step_append_lies _ rfl (.tmp 44) (.tmp 51) 103 rfl w.heap.size 135 i2 (.agg #[.int .i64 0,.int .i64 0]) 2 16 underlying103 C.o.1 C.o.2.1 C.o.2.2.1 C.o.2.2.2 rfl (by decide) (.slice z ks.length B) ks.length xm (by first|(simp[Act.eval];done)|(simp[Act.eval,Act.put];done)|rfl) (by first|exact(k.o.alloc _).drew|exact k.o.alloc _) ⟨y.heap.size,0,none⟩ 1 1 [.int .i64 a,.int .i64 a5] (by first|(simp[Act.eval];done)|(simp[Act.eval,Act.put];done)|rfl) (by rfl) (World.news_of_block (cs:=#[.int .i64 a,.int .i64 a5]) (t:=135) (fr:=(0,0)) aO) (Qdo_ _ _) (by decide) (by unfold maxLen;omega) oo (by have:=aT.o;simp;omega) (y.heap.size+1) (by simp) ?_
       intro q cap w6 I p a4 bh;have f:(y.alloc (.cells #[.int .i64 a,.int .i64 a5] 135)).grownBy w6 (Value.slice z ks.length B).ownBlock:=(by first|exact p|exact Kw_ p);obtain⟨A6,bx,ev,D,G,⟨v6,j6⟩,jf,jz,bA,jb⟩:=HP.o _ _ _ _ I f;have HW:=hid (And.intro ev (And.intro D (And.intro G ((af.o.below bra).grown f (fun g hg=>by rw[Qw_]at hg;exact(Mine.blk k.o hg).1)))));have aY:=hid (fun u=>Kx_ (JT_ O.o k.o (by decide) bra f) jb (Ne.symm R.ty_int) 6 u);change w6.cell? ⟨R.T,6,none⟩=_ at j6;change ∀i,w6.frozen? ⟨R.T,i,none⟩=false at jf;change R.T < _ at jz;clear I p a4 f ev D G jb)
     all_goals
      obtain⟨ev,D,G,az⟩:=HW.o;injection ev with ev1 ev2 ev3;subst ev1;subst ev3;have ap:=hid D;have aX:=hid G;have aV:=hid (az.setT 6 (.slice (some ⟨q,0,none⟩) (ks.length+1) cap));clear D G az HW ev2 O k ad af HP;go_wp2;go_roundw
      case rel=>exact⟨M,ks++[kc],J,n,A5,a2,some ⟨q,0,none⟩,cap,_,by rw[T],aZ,aS,aR,by rw[T];exact aY.o _,by rw[T];exact aX,by rw[T];exact ap,aV⟩
      case measure=>exact Qe3_ hi HI.o ap.o (am.o.weak (i':=1) (j':=0) oo oo)
  ·have L:Q=(ks,st'):=by
    have L:=HQ.o
    cases M with
    |zero=>exact L.symm
    |succ M=>unfold XI_ at L;rw[hR,if_neg (by decide)]at L;exact L.symm
   subst L;have an:=hid (fun(W:World) (K:RdI (R.mem (.slice z ks.length B)) 0 st' row' W) (hm:Mine W w.heap.size 3 1 A ks.length c (Qa_ ks))=>vV_ (R.mem (.slice z ks.length B)) hi 0 st' row' 22 noT A ks.length c ks false w.heap.size W K hm bs.o);unfold Does at an
   cases st' with
   |none=>
    obtain rfl:b=true:=hb;clear HQ hR c0 c2;go_wp2;go_quiet (fail);go_wp2_with fail
    refine(an.o _ (HI.o.unres.next (below_drewN br _)) (O.o.drewN _)).mono ?_;rintro e w4 ⟨rfl,n,h4,k4⟩;go_wp2;go_end0;exact⟨rfl,_,n,h4,(HK.o.below (below_drewN br nq)).trans k4⟩
   |some t=>
    obtain⟨rfl,bM,_⟩:=hb;have bY:¬(a:Int) < (R.n:Int):=by
     have:=of_decide_eq_false hR;have h2:=(HI.o.le rfl).1;omega
    clear HQ hR;go_wp2;go_quiet (fail);go_wp2_with fail
    refine(an.o _ (HI.o.unres.next (below_drewN br _)) (O.o.drewN _)).mono ?_;rintro e w4 ⟨rfl,n,h4,k4⟩;go_wp2;go_end0;exact⟨rfl,_,n,h4,(HK.o.below (below_drewN br nq)).trans k4⟩
def Qhx_ (p:PN):Prop:=p.text.size<=3000/\p.kids.length<=400
def KW_ (st:RdSt):Prop:=∀s,st=some s->s.nodes.length<=300/\∀p∈s.nodes,Qhx_ p
def X9_ (sg:List SgP):Prop:=∀d∈sg,d.2.1.size<=3000
section
variable {sg:List SgP} {st st':RdSt}
theorem XJ_:KW_ none:=fun s e=>by cases e
theorem QG_ (h:KW_ st):KW_ (Qe_ st):=by
 cases st with
 |none=>exact h
 |some s=>intro t e;obtain rfl:=Option.some.inj e;exact h s rfl
theorem QM_ (h:KW_ st) (m:BA):KW_ (Qk_ sg st m):=by
 unfold Qk_;split
 ·exact QG_ h
 ·exact XJ_
theorem qh_ (h:KW_ st):KW_ (nmS sg st):=by
 unfold nmS;split
 ·exact QG_ h
 ·exact XJ_
theorem UX_ (h:KW_ st) (d:Nat):KW_ (Ks_ d st):=by
 unfold Ks_;split
 ·exact XJ_
 ·exact h
theorem Q0_ (h:KW_ st) {x:PN} (ht:x.text.size<=3000) (hk:∀s,st=some s->s.nodes.length<=300->x.kids.length<=400):KW_ (KC_ st x).2:=by
 intro t e
 cases st with
 |none=>cases e
 |some s=>
  obtain⟨h1,h2⟩:=h s rfl;unfold KC_ at e;simp only at e;split at e
  ·cases e
  ·obtain rfl:=Option.some.inj e;refine⟨by simp;omega,fun p a=>?_⟩;rcases List.mem_append.1 a with a|a
   ·exact h2 p a
   ·obtain rfl:=List.mem_singleton.1 a;exact⟨ht,hk s rfl h1⟩
theorem qX_ (hs:X9_ sg) (st:RdSt) (i:Nat):(Qu_ sg st i).2.1.size<=3000:=by
 unfold Qu_
 cases st with
 |none=>exact Nat.zero_le _
 |some s=>
  simp only
  cases h:sg[s.at_+i]? with
  |none=>exact Nat.zero_le _
  |some d=>exact hs d (List.mem_of_getElem? h)
theorem Wr_ (hs:X9_ sg) (st:RdSt):(nmT sg st).size<=3000:=by
 unfold nmT;split
 ·exact qX_ hs st 0
 ·exact Nat.zero_le _
theorem UW_ (hs:X9_ sg) (h:KW_ st) (k:Int):KW_ (YD_ sg k st).2:=QG_ (Q0_ h (qX_ hs st 0) (fun s e _=>by simp))
theorem Xp_ (hs:X9_ sg) (h:KW_ st):KW_ (Qi_ sg st).2:=by
 unfold Qi_;split
 ·exact UW_ hs h 1
 ·exact XJ_
theorem UY_ (hs:X9_ sg) (h:KW_ st) (b:Bool):KW_ (Xj_ sg b st).2:=QG_ (Q0_ h (qX_ hs st 0) (fun s e _=>by simp))
theorem Jx_ (hs:X9_ sg) {one:RdSt->PR} (h1:∀st,KW_ st->KW_ (one st).2) (m:BA):∀(n:Nat) (ks:LI) (st:RdSt),KW_ st->KW_ (QF_ sg one m n ks st).2:=by
 intro n
 induction n with
 |zero=>intro ks st h;exact h
 |succ n ih=>
  intro ks st h;unfold QF_;split
  ·exact h
  ·split
   ·exact h
   ·split
    ·exact ih _ _ (QG_ (h1 st h))
    ·exact h1 st h
theorem UD_ {one:RdSt->PR} (ha:∀st,Adv 1 1 st (one st).2) (m:BA) (n:Nat) (st:RdSt) {st':RdSt} {i j:Nat} (k:Adv i j (QF_ sg one m n [] st).2 st'):∀s,st'=some s->s.nodes.length<=300->(QF_ sg one m n [] st).1.length<=300:=fun s e hl=>by
 obtain⟨s1,e1,_,h2⟩:=k s e;obtain⟨s0,_,_,h3⟩:=(Yv_ ha m n [] st).2 s1 e1;simp at h3;omega
theorem kv_ (hs:X9_ sg) {one:RdSt->PR} (ha:∀st,Adv 1 1 st (one st).2) (h1:∀st,KW_ st->KW_ (one st).2) (N:Nat) (k:Int) (st:RdSt) (h:KW_ st):KW_ (Yc_ sg one N k st).2:=by
 unfold Yc_;refine Q0_ (QM_ (Jx_ hs h1 _ _ _ _ (QM_ h _)) _) (Nat.zero_le _) (fun s e hl=>?_);have:=UD_ ha ⟨#[41]⟩ N (Qk_ sg st ⟨#[40]⟩) (Qo_ (sg:=sg) _ ⟨#[41]⟩) s e hl;simp;omega
theorem Qb0_ (hs:X9_ sg) {one:RdSt->PR} (ha:∀st,Adv 1 1 st (one st).2) (h1:∀st,KW_ st->KW_ (one st).2) (N:Nat):∀(n:Nat) (ks:LI) (st:RdSt),KW_ st->KW_ (YS_ sg one N n ks st).2:=by
 intro n
 induction n with
 |zero=>intro ks st h;exact h
 |succ n ih=>
  intro ks st h;unfold YS_;split
  ·exact ih _ _ (kv_ hs ha h1 N _ _ (Xp_ hs (QG_ h)))
  ·exact h
theorem QdZ_ {one:RdSt->PR} (h1:∀st,KW_ st->KW_ (one st).2) (m:BA):∀(n:Nat) (ks:LI) (st:RdSt),KW_ st->KW_ (GK_ sg one m n ks st).2:=by
 intro n
 induction n with
 |zero=>intro ks st h;exact h
 |succ n ih=>
  intro ks st h;unfold GK_;split
  ·exact ih _ _ (h1 _ (QG_ h))
  ·exact h
theorem QaF_ (st:RdSt):∀l:List BA,(∀m∈l,m.size<=3000)->(Zs_ sg st l).size<=3000:=by
 intro l
 induction l with
 |nil=>intro _;exact Nat.zero_le _
 |cons a l ih=>
  intro h;unfold Zs_;split
  ·exact h a (by simp)
  ·exact ih (fun m hm=>h m (by simp[hm]))
theorem QaI_ (st:RdSt) (l:Nat):(KK_ sg st l).size<=3000:=by
 refine QaF_ st _ (fun m a=>?_);have:∀m∈[(⟨#[124,124]⟩:BA),⟨#[38,38]⟩,⟨#[61,61]⟩,⟨#[60]⟩,⟨#[43]⟩,⟨#[45]⟩,⟨#[42]⟩],m.size<=3000:=by decide
 apply this;unfold K8_ at a;split at a
 ·simp at a |-; simp[a]
 ·split at a
  ·simp at a |-; simp[a]
  ·split at a
   ·simp at a |-; simp[a]
   ·split at a
    ·simp at a |-; simp[a]
    ·split at a
     ·simp at a |-; rcases a with h|h<;>simp[h]
     ·simp at a |-; simp[a]
theorem Qad_ {one:RdSt->PR} (ha:∀st,Adv 1 1 st (one st).2) (h1:∀st,KW_ st->KW_ (one st).2) (l N:Nat):∀(n:Nat) (k:Int) (st:RdSt),KW_ st->KW_ (Zp_ sg one l N n k st).2:=by
 intro n
 induction n with
 |zero=>intro k st h;exact h
 |succ n ih=>
  intro k st h;unfold Zp_;split
  ·exact h
  ·refine ih _ _ (Q0_ (QdZ_ h1 _ _ _ _ h) (QaI_ st l) (fun s e hl=>?_));obtain⟨s0,_,_,h3⟩:=(xQ_ (sg:=sg) ha (KK_ sg st l) N [k] st).2 s e;simp at h3 |-
   omega
theorem QdX_ (hs:X9_ sg) {one:RdSt->PR} (ha:∀st,Adv 1 1 st (one st).2) (h1:∀st,KW_ st->KW_ (one st).2) (N:Nat):∀(n:Nat) (k:Int) (st:RdSt),KW_ st->KW_ (W1_ sg one N n k st).2:=by
 intro n
 induction n with
 |zero=>intro k st h;exact h
 |succ n ih=>
  intro k st h;unfold W1_;split
  ·exact h
  ·split
   ·exact ih _ _ (kv_ hs ha h1 N k st h)
   ·split
    ·split
     ·exact ih _ _ (QG_ (Q0_ (QG_ h) (qX_ hs _ 0) (fun s e _=>by simp)))
     ·exact XJ_
    ·exact h
theorem ku_ {one:Bool->RdSt->PR} (h1:∀b st,KW_ st->KW_ (one b st).2):∀(n:Nat) (ks:LI) (st:RdSt),KW_ st->KW_ (Zo_ sg one n ks st).2:=by
 intro n
 induction n with
 |zero=>intro ks st h;exact h
 |succ n ih=>
  intro ks st h;unfold Zo_;split
  ·exact h
  ·split
   ·exact h
   ·exact ih _ _ (h1 _ st h)
theorem ve_ {one:Bool->RdSt->PR} (ha:∀b st,Adv 1 1 st (one b st).2) (n:Nat) (st:RdSt) {st':RdSt} {i j:Nat} (k:Adv i j (Zo_ sg one n [] st).2 st'):∀s,st'=some s->s.nodes.length<=300->(Zo_ sg one n [] st).1.length<=300:=fun s e hl=>by
 obtain⟨s1,e1,_,h2⟩:=k s e;obtain⟨s0,_,_,h3⟩:=(zZ_ (sg:=sg) ha n [] st).2 s1 e1;simp at h3;omega
variable {E:Md->Nat->RdSt->PR} {N:Nat} (hs:X9_ sg) (hA:∀m d st,Adv 1 1 st (E m d st).2) (hE:∀m d st,KW_ st->KW_ (E m d st).2)
include hE
theorem UV_ (d:Nat) (h:KW_ st):KW_ (JB_ sg E d st).2:=QM_ (hE _ _ _ (QM_ h _)) _
include hs
theorem qi_ (d:Nat) (b:Bool) (h:KW_ st):KW_ (Ji_ sg E d b st).2:=by
 unfold Ji_;split
 ·exact Q0_ (QM_ (hE _ _ _ (QG_ (qh_ h))) _) (Wr_ hs st) (fun s e _=>by simp)
 ·exact Q0_ (QM_ (qh_ h) _) (Wr_ hs st) (fun s e _=>by simp)
theorem Qb4_ (d:Nat) (b:Bool) (h:KW_ st):KW_ (ZH_ sg E d b st).2:=by
 unfold ZH_;split
 ·exact UY_ hs h b
 ·split
  ·exact qi_ hs hE d b (QG_ h)
  ·split
   ·unfold Yk_;split
    ·exact Q0_ (QM_ (QG_ h) _) (Nat.zero_le _) (fun s e _=>by simp)
    ·exact Q0_ (QM_ (hE _ _ _ (QG_ h)) _) (Nat.zero_le _) (fun s e _=>by simp)
   ·split
    ·unfold ifS;simp only;split
     ·exact Q0_ (hE _ _ _ (QG_ (hE _ _ _ (UV_ hE d (QG_ h))))) (Nat.zero_le _) (fun s e _=>by simp)
     ·exact Q0_ (hE _ _ _ (UV_ hE d (QG_ h))) (Nat.zero_le _) (fun s e _=>by simp)
    ·split
     ·exact Q0_ (hE _ _ _ (UV_ hE d (QG_ h))) (Nat.zero_le _) (fun s e _=>by simp)
     ·split
      ·exact Q0_ (QM_ (hE _ _ _ (QG_ (QG_ h))) _) (Wr_ hs st) (fun s e _=>by simp)
      ·exact Q0_ (QM_ (hE _ _ _ h) _) (Nat.zero_le _) (fun s e _=>by simp)
include hA
theorem Qfn_ (d:Nat) (h:KW_ st):KW_ (fnS sg E N d st).2:=by
 unfold fnS;refine Q0_ (hE _ _ _ (QM_ (QM_ (Jx_ hs (fun st h=>Xp_ hs h) _ _ _ _ (QM_ h _)) _) _)) (Nat.zero_le _) (fun s e hl=>?_);have:=UD_ (sg:=sg) (QS_ (sg:=sg)) ⟨#[41]⟩ N (Qk_ sg st ⟨#[40]⟩) (((Qo_ (sg:=sg) _ ⟨#[41]⟩).trans (Qo_ (sg:=sg) _ ⟨#[61,62]⟩)).trans (hA .pick d _)) s e hl;simp;omega
theorem QbZ_ (d:Nat) (h:KW_ st):KW_ (Yx_ sg E N d st).2:=by
 unfold Yx_;split
 ·exact Xp_ hs h
 ·split
  ·exact UW_ hs h 2
  ·split
   ·exact UW_ hs h 3
   ·split
    ·unfold Qcs_;refine Q0_ (QM_ (Jx_ hs (hE .value d) _ _ _ _ (QG_ h)) _) (Nat.zero_le _) (fun s e hl=>?_);have:=UD_ (sg:=sg) (hA .value d) ⟨#[93]⟩ N (Qe_ st) (Qo_ (sg:=sg) _ ⟨#[93]⟩) s e hl;show(QF_ sg (E .value d) ⟨#[93]⟩ N [] (Qe_ st)).1.length<=400;omega
    ·split
     ·split
      ·exact Qfn_ hs hA hE d h
      ·exact Q0_ (QM_ (hE _ _ _ (QG_ h)) _) (Nat.zero_le _) (fun s e _=>by simp)
     ·exact XJ_
theorem Qb3_ (m:Md) (d:Nat) (h:KW_ st):KW_ (Qbp_ sg E N m d st).2:=by
 cases m with
 |value=>
  show KW_ (Xg_ sg E N d st).2;unfold Xg_;split
  ·refine Q0_ (Qb0_ hs (hA .value d) (hE .value d) N _ _ _ (hE _ _ _ h)) (Nat.zero_le _) (fun s e hl=>?_);obtain⟨s0,_,_,h3⟩:=(j6_ (sg:=sg) (hA .value d) N N [(E .pick d st).1] (E .pick d st).2).2 s e;simp at h3 |-
   omega
  ·exact hE _ _ _ h
 |pick=>
  show KW_ (Vf_ sg E d st).2;unfold Vf_;simp only;split
  ·exact Q0_ (hE _ _ _ (QM_ (hE _ _ _ (QG_ (hE _ _ _ (UX_ h d)))) _)) (Nat.zero_le _) (fun s e _=>by simp)
  ·exact hE _ _ _ (UX_ h d)
 |chain l=>
  show KW_ (Xa_ sg E N l d st).2;unfold Xa_;split
  ·exact hE _ _ _ h
  ·exact Qad_ (hA _ d) (hE _ d) l N _ _ _ (hE _ _ _ h)
 |end_=>exact QdX_ hs (hA .value d) (hE .value d) N _ _ _ (hE _ _ _ h)
 |base=>exact QbZ_ hs hA hE d h
 |stmt b=>exact Qb4_ hs hE d b h
 |block=>
  show KW_ (Ya_ sg E N d st).2;unfold Ya_;refine Q0_ (QM_ (ku_ (fun b st h=>hE (.stmt b) (d+1) st h) _ _ _ (QM_ (UX_ h d) _)) _) (Nat.zero_le _) (fun s e hl=>?_);have:=ve_ (sg:=sg) (fun b=>hA (.stmt b) (d+1)) N (Qk_ sg (Ks_ d st) ⟨#[123]⟩) (Qo_ (sg:=sg) _ ⟨#[125]⟩) s e hl;show(Zo_ sg (fun b=>E (.stmt b) (d+1)) N [] (Qk_ sg (Ks_ d st) ⟨#[123]⟩)).1.length<=400;omega
theorem kw_ (b:Bool) (h:KW_ st):KW_ (VH_ sg E N b st).2:=by
 unfold VH_;refine Q0_ (hE _ _ _ (QM_ (Jx_ hs (fun st h=>Xp_ hs h) _ _ _ _ (QM_ (qh_ h) _)) _)) (Wr_ hs st) (fun s e hl=>?_);have:=UD_ (sg:=sg) (QS_ (sg:=sg)) ⟨#[41]⟩ N (Qk_ sg (nmS sg st) ⟨#[40]⟩) ((Qo_ (sg:=sg) _ ⟨#[41]⟩).trans (hA .block 0 _)) s e hl;simp;omega
theorem QdY_ (b:Bool) (h:KW_ st):KW_ (VS_ sg E N b st).2:=by
 unfold VS_;split
 ·exact UY_ hs h b
 ·split
  ·exact qi_ hs hE 0 b (QG_ h)
  ·exact kw_ hs hA hE b h
theorem Qd0_ (b:Bool) (h:KW_ st):KW_ (YU_ sg E N b st).2:=by
 unfold YU_;split
 ·exact UY_ hs h b
 ·split
  ·exact qi_ hs hE 0 b (QG_ h)
  ·split
   ·unfold YW_;refine Q0_ (QM_ (ku_ (fun b st h=>QdY_ hs hA hE b h) _ _ _ (QM_ (qh_ (QG_ h)) _)) _) (Wr_ hs _) (fun s e hl=>?_);have:=ve_ (sg:=sg) (z1_ hA) N (Qk_ sg (nmS sg (Qe_ st)) ⟨#[123]⟩) (Qo_ (sg:=sg) _ ⟨#[125]⟩) s e hl;show(Zo_ sg (VS_ sg E N) N [] (Qk_ sg (nmS sg (Qe_ st)) ⟨#[123]⟩)).1.length<=400;omega
   ·exact kw_ hs hA hE b h
theorem Qb2_:∀(n:Nat) (ks:LI) (st:RdSt),KW_ st->KW_ (XI_ sg E N n ks st).2:=by
 intro n
 induction n with
 |zero=>intro ks st h;exact h
 |succ n ih=>
  intro ks st h;unfold XI_;split
  ·exact ih _ _ (Qd0_ hs hA hE _ h)
  ·exact h
omit hs hE in
theorem QdG_:∀(n:Nat) (ks:LI) (st:RdSt),ks.length<=(XI_ sg E N n ks st).1.length/\Adv 0 ((XI_ sg E N n ks st).1.length - ks.length) st (XI_ sg E N n ks st).2:=by
 intro n
 induction n with
 |zero=>intro ks st;exact⟨Nat.le_refl _,by simpa[XI_]using Adv.refl st⟩
 |succ n ih=>
  intro ks st;unfold XI_;split
  ·obtain⟨g1,g2⟩:=ih (ks++[(YU_ sg E N (XE_ sg st ks) st).1]) (YU_ sg E N (XE_ sg st ks) st).2;simp only[lA,List.length_singleton]at g1 g2;exact⟨oo,((xR_ hA _ st).trans g2).weak oo oo⟩
  ·exact⟨Nat.le_refl _,by simpa using Adv.refl st⟩
theorem Qae_ (h:KW_ st):KW_ (kp_ sg E N st):=by
 unfold kp_;refine Q0_ (Qb2_ hs hA hE N [] st h) (Nat.zero_le _) (fun s e hl=>?_);obtain⟨s0,_,_,h3⟩:=(QdG_ (sg:=sg) hA N [] st).2 s e;simp at h3;show(XI_ sg E N N [] st).1.length<=400;omega
end
theorem Qb1_ {sg:List SgP} (hs:X9_ sg) {N:Nat}:∀(f:Nat) (m:Md) (d:Nat) (st:RdSt),KW_ st->KW_ (Qd_ sg N f m d st).2:=by
 intro f
 induction f with
 |zero=>intro m d st _;exact XJ_
 |succ f ih=>intro m d st h;exact Qb3_ hs (fun m d st=>Qy_ f m d st) ih m d h
theorem Qaf_ {sg:List SgP} (hs:X9_ sg):KW_ (ZD_ sg):=
 Qae_ hs (fun m d st=>Qy_ _ m d st) (fun m d st h=>Qb1_ hs _ m d st h) (fun s e=>by obtain rfl:=Option.some.inj e;exact⟨by simp,fun p hp=>by cases hp⟩)
end Go.Proofs.YtgbikafalcbibaaGreatDoor

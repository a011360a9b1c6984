/-
  Put together by program (shake.py):ParO,ParQ,ParR.
-/
import Derived.Test.YtgbikafalcbibaaGreatDoorMaM
set_option maxRecDepth 100000
set_option linter.all false
set_option maxHeartbeats 25600000
open Go.Lib (hid)
open Go.Proofs.Tryz
namespace Go.Proofs.YtgbikafalcbibaaGreatDoor
open Go.RowKit
section
variable {R:RC} (U:Nat->Prop) (hi:R.imp=true) (d:Nat) (st:RdSt) (row:ON)
include hi
theorem QcI_ (w:World) (hI:RdI { R with U:=U } d st row w):
 Calls prog 138 #[.pointer (some ⟨R.T,0,none⟩)] w fun e w'=>e=.returned (.agg #[.int .i64 (Qu_ R.sg st 0).1,.string (Qu_ R.sg st 0).2.1,.int .i64 (Qu_ R.sg st 0).2.2.1,.bool (Qu_ R.sg st 0).2.2.2])/\Below w.heap.size w w':=Q8_ { R with U:=U } hi d st row w hI
theorem Qd8_ (m:BA) (w:World) (hI:RdI { R with U:=U } d st row w):
 Calls prog 174 #[.pointer (some ⟨R.T,0,none⟩),.string m] w fun e w'=>e=.returned (.bool (isW R.sg st m))/\Below w.heap.size w w':=Qr_ { R with U:=U } hi d st row m w hI
theorem Qg6_ (w:World) (hI:RdI { R with U:=U } d st row w) (a:∀s,st=some s->s.at_ < R.n):
 Calls prog 214 #[.pointer (some ⟨R.T,0,none⟩)] w fun e w'=>e=.returned (.tuple #[])/\∃row',RdI { R with U:=U } d (Qe_ st) row' w'/\Kr R.T row w row' w':=Zi_ { R with U:=U } hi d st row w hI a
end
theorem U7_ {sg:List SgP} {st:RdSt} {m:BA} (h:isW sg st m=true):∃s,st=some s/\s.at_ < sg.length:=by
 cases st with
 |none=>exact absurd h (by rw[vt_];decide)
 |some s=>
  refine⟨s,rfl,?_⟩;rcases Nat.lt_or_ge s.at_ sg.length with a|a
  ·exact a
  ·unfold isW at h;rw[ZM_ (i:=0) a,show(sgZero.1==1)=false from rfl,Bool.false_and]at h;exact absurd h (by decide)
theorem xV_ (R:RC) (hi:R.imp=true) (N f:Nat) (HE:EC R N f) (d:Nat) (b:Bool) (s:PS) (row:ON) (w:World) (S:RdI R d (some s) row w) (j:s.at_ < R.n) {r:Nat} (hn:Need R.n (some s) r (f+1)) (hd:d+f<=100000):
  Calls prog 238 #[.pointer (some ⟨R.T,0,none⟩),.bool b] w (Does R d row w (.int .i64 (ifS R.sg (Qd_ R.sg N f) d b (Qe_ (some s))).1) (ifS R.sg (Qd_ R.sg N f) d b (Qe_ (some s))).2):=by
 obtain⟨i0,ac,ae,af,ag⟩:=info_parts QB_;have aC:=hid (And.intro ac (And.intro ae (And.intro af ag)));clear ac ae af ag;have T:=hid S;have X:=hid (Kr.refl R.T row w);have Y:=hid S.lo;have D:=hid S.lo.1;have HL:=hid (fun t (e:(some s)=some t)=>show t.at_ < R.n by obtain rfl:=Option.some.inj e;exact j);have B:=S.ok.len;unfold Does ifS;dsimp only;have i:=Qh_ (some s);have P:=hid (fun(row:ON) (W:World) h=>VL_ R hi N f HE d (Qe_ (some s)) row W h (hn.next j (i.trans (Qo_ _ _)) oo) hd);have a:=i.trans (Yu_ (sg:=R.sg) (E:=Qd_ R.sg N f) (fun m d st=>Qy_ f m d st) d (Qe_ (some s)));generalize JB_ R.sg (Qd_ R.sg N f) d (Qe_ (some s))=rc at P a |-
 obtain⟨kc,O⟩:=rc;dsimp only at P a |-
 have L:=hid (fun(U:Nat->Prop) (row:ON) (W:World) h=>HE.block U d O row W h (hn.next j a oo) hd);have c:=a.trans (Qy_ (sg:=R.sg) (N:=N) f .block d O);unfold Does at L;generalize Qd_ R.sg N f .block d O=rt at L c |-
 obtain⟨kt,st2⟩:=rt;dsimp only at L c |-
 have Q:=hid (fun(U:Nat->Prop) (row:ON) (W:World) h=>Qd8_ (R:=R) U hi d st2 row ⟨#[101,108,115,101]⟩ W h);rcases bft (isW R.sg st2 ⟨#[101,108,115,101]⟩)with z|z
 ·rw[if_pos z];rw[z]at Q;have aq:=hid (fun t (e:st2=some t)=>show t.at_ < R.n by
   obtain⟨t',e',hl⟩:=U7_ z;rw[e]at e';obtain rfl:=Option.some.inj e';omega)
  have p:=hid (fun(U:Nat->Prop) (row:ON) (W:World) h=>HE.block U d (Qe_ st2) row W h (hn.next j (c.trans (Qh_ _)) oo) hd);unfold Does at p;generalize Qd_ R.sg N f .block d (Qe_ st2)=ro at p |-
  obtain⟨ko,az⟩:=ro;dsimp only at p |-
  clear S hn z i a c j B;go_enter func238,ntmps238;go_wp2_with fail
  refine pst (Zi_ R hi d (some s) row w T.o HL.o) X ?_;intro w1 ai F n;go_wp2_with fail
  refine(P.o _ _ F.o).mono ?_;rintro e w2 ⟨A,rfl,m2,row2,h2,k2⟩;have H:=QQ_ n k2;have k:=hid h2;have g:=hid (m2.more (B':=w.heap.size) n.o.size);clear h2 k2 m2 P;go_wp2_with fail
  refine(L.o _ _ _ k.o).mono ?_;rintro e w3 ⟨rfl,q,h3,M⟩;replace g:=hid (k.o.keepI M g.o);have G:=hid h3;have I:=hid (H.o.trans M);clear h3 M L;go_wp2_with (at_builtin;refine Kn_ (.tmp 14) (.tmp 16) G I g D rfl rfl rfl rfl oo ?_;intro A4 c4 w4 l J o)
  replace g:=o;clear o;go_wp2_with fail
  refine(Q.o _ _ _ l.o).mono ?_;rintro e w5 ⟨rfl,y⟩;replace g:=hid (g.o.next y);have x:=hid (l.o.next y);have K:=hid (J.o.below y);clear y Q;go_wp2_with fail
  refine(Qg6_ _ hi d st2 q w5 x.o aq.o).mono ?_;rintro e w6 ⟨rfl,aB,h6,k6⟩;replace g:=hid (x.o.keepI k6 g.o);have V:=hid h6;have an:=hid (K.o.trans k6);clear h6 k6;go_wp2_with fail
  refine(p.o _ _ _ V.o).mono ?_;rintro e w7 ⟨rfl,aj,h7,k7⟩;replace g:=hid (V.o.keepI k7 g.o);have al:=hid h7;have ao:=hid (an.o.trans k7);clear h7 k7 p;go_wp2_with (at_builtin;refine Kn_ (.tmp 24) (.tmp 26) al ao g D rfl rfl rfl rfl oo ?_;intro A8 c8 w8 am ap Z)
  replace g:=Z;clear Z;have hA:=vV_ R hi d az aj 16 noT A8 3 c8 [kc,kt,ko] b w.heap.size w8 am.o.unres g.o Y.o;unfold Does at hA;have C:=hid hA;clear hA;go_wp2_with fail
  refine C.o.mono ?_;rintro e w9 ⟨rfl,v,h9,k9⟩;go_wp2;go_ret;exact⟨rfl,v,h9,ap.o.trans k9⟩
 ·rw[if_neg (by rw[z];decide)];rw[z]at Q;clear S hn z i a c j B;go_enter func238,ntmps238;go_wp2_with fail
  refine pst (Zi_ R hi d (some s) row w T.o HL.o) X ?_;intro w1 ai F n;go_wp2_with fail
  refine(P.o _ _ F.o).mono ?_;rintro e w2 ⟨A,rfl,m2,row2,h2,k2⟩;have H:=QQ_ n k2;have k:=hid h2;have g:=hid (m2.more (B':=w.heap.size) n.o.size);clear h2 k2 m2 P;go_wp2_with fail
  refine(L.o _ _ _ k.o).mono ?_;rintro e w3 ⟨rfl,q,h3,M⟩;replace g:=hid (k.o.keepI M g.o);have G:=hid h3;have I:=hid (H.o.trans M);clear h3 M L;go_wp2_with (at_builtin;refine Kn_ (.tmp 14) (.tmp 16) G I g D rfl rfl rfl rfl oo ?_;intro A4 c4 w4 l J o)
  replace g:=o;clear o;go_wp2_with fail
  refine(Q.o _ _ _ l.o).mono ?_;rintro e w5 ⟨rfl,y⟩;replace g:=hid (g.o.next y);have x:=hid (l.o.next y);have K:=hid (J.o.below y);clear y Q;have hA:=vV_ R hi d st2 q 16 noT A4 2 c4 [kc,kt] b w.heap.size w5 x.o.unres g.o Y.o;unfold Does at hA;have C:=hid hA;clear hA;go_wp2_with fail
  refine C.o.mono ?_;rintro e w9 ⟨rfl,v,h9,k9⟩;go_wp2;go_ret;exact⟨rfl,v,h9,K.o.trans k9⟩
def QdB_ (R:RC) (d:Nat) (a:RdSt) (one:Bool->RdSt->PR) (C:World->Bool->(Ending->World->Prop)->Prop):Prop:=
 ∀(U:Nat->Prop) (b:Bool) (t:PS) (row:ON) (w:World),RdI { R with U:=U } d (some t) row w->Adv 1 0 a (some t)->C w b (Does { R with U:=U } d row w (.int .i64 (one b (some t)).1) (one b (some t)).2)
theorem vZ_ (R:RC) (hi:R.imp=true) (N f:Nat) (hN:R.n < N) (HE:EC R N f) (d:Nat) (st:RdSt) (row:ON) (w:World) (hI:RdI R d st row w) (hn:Need R.n st 13 (f+1)) (hd:d+(f+1)<=100000):
  Calls prog 181 #[.pointer (some ⟨R.T,0,none⟩)] w (Does R d row w (.int .i64 (Ya_ R.sg (Qd_ R.sg N f) N d st).1) (Ya_ R.sg (Qd_ R.sg N f) N d st).2):=by
 obtain⟨i0,aH,aI,aJ,aK⟩:=info_parts QB_;have a1:=hid (And.intro aH (And.intro aI (And.intro aJ aK)));clear aH aI aJ aK;have ay:=hid hI;have aA:=hid (Kr.refl R.T row w);have aP:=hid hI.lo;have av:=hid hI.lo.1;have a0:=hI.ok.len;have HO:Hid (QdB_ R (d+1) st (fun b=>Qd_ R.sg N f (.stmt b) (d+1)) (fun w b Q=>Calls prog 222 #[.pointer (some ⟨R.T,0,none⟩),.bool b] w Q)):=(show QdB_ _ _ _ _ _ from fun U b t row w h ha=>HE.stmt U b (d+1) (some t) row w h (by
  obtain⟨s,rfl,h1,_⟩:=ha t rfl;have h2:=(h.le rfl).1;have h3:({ R with U:=U }:RC).n=R.n:=rfl;exact hn.next oo (ha.weak (i':=0+1) (j':=0) oo oo) oo) oo)
 have HA:=hid (fun(b:Bool) st=>Qy_ (sg:=R.sg) (N:=N) f (.stmt b) (d+1) st);unfold Does Ya_;dsimp only;have ac:=(Xn_ d st).trans (Qo_ (sg:=R.sg) (Ks_ d st) ⟨#[123]⟩);obtain⟨Q,hQ⟩:=ex_ (Zo_ R.sg (fun b=>Qd_ R.sg N f (.stmt b) (d+1)) N [] (Qk_ R.sg (Ks_ d st) ⟨#[123]⟩));rw[hQ];have X:=hid hQ;have F:Hid (Adv 1 0 st (Qk_ R.sg (Ks_ d st) ⟨#[123]⟩)):=ac.weak oo oo;have ar:Hid (∀b st,Adv 1 1 st ((fun b=>Qd_ R.sg N f (.stmt b) (d+1)) b st).2):=(show ∀b st,_ from HA.o);generalize (fun b=>Qd_ R.sg N f (.stmt b) (d+1))=one at HO X ar;have a2:=fld3;clear hI hn ac hQ;go_enter func181,ntmps181;go_wp2_with fail
 refine pst (US_ R hi d st row w ay.o oo) aA ?_;intro w1 aL az aB;go_wp2_with fail
 refine pst (ZP_ R hi (d+1) (Ks_ d st) aL ⟨#[123]⟩ w1 az.o) aB ?_;intro w2 row2 k n;generalize Qk_ R.sg (Ks_ d st) ⟨#[123]⟩=st2 at X F k;go_upto_region 4 with fail
 go_loopw [3] (fun v wr=>∃(M:Nat) (ks:LI) (st':RdSt) (row':ON) (A:OA) (c:Nat),v=.slice A ks.length c/\Hid (Zo_ R.sg one M ks st'=Q)/\Hid (Adv 1 0 st st')/\Hid (Enough R.n M st')/\Hid (KidB ks st')/\Hid (Mine wr w.heap.size 3 1 A ks.length c (Qa_ ks))/\Hid (RdI (R.res A) (d+1) st' row' wr)/\Hid (Kr R.T row w row' wr)) (fun _ wr=>ZY_ R wr)
 case atStart=>exact⟨N,[],st2,row2,none,0,rfl,X,F,(show Enough _ _ _ from QL_ hN _),⟨by simp,fun s _=>by simp⟩,Mine.mk_nil _ _ _ _,k.o.res_new br (fun g hg=>by cases hg),n⟩
 case round=>
  clear X F ay az k aA aB n;obtain⟨M,ks,st',row',A,c,rfl,X,ae,ah,aC,E,H,HK⟩:=hrel;have B:=hid (fun(row:ON) (W:World) (hI:RdI R (d+1) st' row W) (hm:Mine W w.heap.size 3 1 A ks.length c (Qa_ ks))=>Ku_ R hi (d+1) st' row ⟨#[125]⟩ 18 noT A ks.length c ks false w.heap.size W hI hm aP.o);unfold Does at B
  cases st' with
  |none=>
   obtain⟨a,b,AN,cN,l,hc,hb,V⟩:=H.o;obtain⟨c2,c3,c4,cf,cz⟩:=hc.cu _ hi;obtain rfl:b=true:=hb;have o:=X.o;rw[Xs_]at o;subst o;clear hc c2 c3 V X;go_wp2_with fail
   refine(B.o _ _ H.o.unres E.o).mono ?_;rintro e w4 ⟨rfl,m,O,D⟩;obtain⟨d3,df,dz,P,S⟩:=qM_ hi O;have HF:=hid (And.intro P ((HK.o.trans D).trans S));clear O D P S c4 cf cz;go_wp2;go_ret;exact⟨rfl,m,HF.o.1,HF.o.2⟩
  |some t=>
   obtain⟨M,rfl⟩:∃M',M=M'+1:=⟨M - 1,by
    have h1:=ah.o t rfl;have h2:=(H.o.le rfl).1;have:(R.res A).n=R.n:=rfl;omega⟩
   obtain⟨a,b,AN,cN,l,hc,hb,V⟩:=H.o;obtain⟨c2,c3,c4,cf,cz⟩:=hc.cu _ hi;obtain⟨rfl,_,_⟩:=hb;have y:=hid (is_u _ hi (d+1) (some t) row' ⟨#[125]⟩ wr H.o);have o:=X.o;unfold Zo_ at o;rw[if_neg (show ¬(some t).isNone=true by simp)]at o;clear hc c2 c3 V X;rcases bft (isM R.sg (some t) ⟨#[125]⟩)with hM|hM
   ·rw[if_pos hM]at o;subst o;rw[hM]at y;clear hM;go_wp2_with fail
    refine y.o.mono ?_;rintro e w2 ⟨rfl,C⟩;have k:=hid (H.o.next C);have z:=hid (E.o.next C);have n:=hid (HK.o.below C);clear c4 cf cz C;go_wp2_with fail
    refine(B.o _ _ k.o.unres z.o).mono ?_;rintro e w4 ⟨rfl,m,O,D⟩;obtain⟨d3,df,dz,P,S⟩:=qM_ hi O;have HF:=hid (And.intro P ((n.o.trans D).trans S));clear O D P S;go_wp2;go_ret;exact⟨rfl,m,HF.o.1,HF.o.2⟩
   ·rw[if_neg (by rw[hM];decide)]at o;rw[hM]at y;have HX:=hid (fun(row:ON) (W:World) h=>QcI_ (R:=R) (fun x=>R.U x\/A.map (·.block)=some x) hi (d+1) (some t) row W h);have aa:XE_ R.sg (some t) ks=((Qu_ R.sg (some t) 0).2.2.2&&decide (0 < ks.length)):=rfl;rw[aa]at o;generalize Qu_ R.sg (some t) 0=x at HX o aa;obtain⟨xk,xt,xp,xz⟩:=x;dsimp only at HX o aa;clear hM aa B;have aZ:=aC.o.2 t rfl;have a4:=(H.o.le rfl).2;have a3:=aC.o.1;have Y:Hid (∀bb:Bool,(xz&&decide (0 < ks.length))=bb->∃r:PR,Zo_ R.sg one M (ks++[r.1]) r.2=Q/\Adv 1 1 (some t) r.2/\∀(row:ON) (W:World),RdI { R with U:=fun x=>R.U x\/A.map (·.block)=some x } (d+1) (some t) row W->Calls prog 222 #[.pointer (some ⟨R.T,0,none⟩),.bool bb] W (fun e w'=>e=.returned (.int .i64 r.1)/\∃row',RdI { R with U:=fun x=>R.U x\/A.map (·.block)=some x } (d+1) r.2 row' w'/\Kr R.T row W row' w')):=(show ∀bb,_->_ from fun bb e=>⟨one bb (some t),by rw[<-e];exact o,ar.o bb (some t),fun row W h=>HO.o _ bb t row W h ae.o⟩);clear o
    cases xz with
    |false=>
     obtain⟨r,o,j,hC⟩:=Y.o false rfl;obtain⟨kc,p⟩:=r;dsimp only at o j hC;have al:=hid o;have HC:=hid hC;have G:=hid j;have af:Hid (KidB (ks++[kc]) p):=(show KidB _ _ from⟨by rw[lA];simp;omega,fun t2 e=>by
      obtain⟨aV,e2,_,h3⟩:=j t2 e;obtain rfl:=Option.some.inj e2;rw[lA];simp;omega⟩)
     have ag:Hid (Enough R.n M p):=ah.o.adv (i:=0) j;have ad:Hid (Adv 1 0 st p):=(ae.o.trans j).weak oo oo;have T:(ks++[kc]).length=ks.length+1:=(by simp);clear o hC j Y;go_wp2_with fail
     refine y.o.mono ?_;rintro e w2 ⟨rfl,C⟩;have k:=hid (H.o.next C);have z:=hid (E.o.next C);have n:=hid (HK.o.below C);clear c4 cf cz C y;go_wp2_with fail
     refine(HX.o _ _ k.o).mono ?_;rintro e w3 ⟨rfl,Z⟩;have q:=hid (k.o.next Z);have K:=hid (z.o.next Z);have J:=hid (n.o.below Z);clear Z HX k z n;go_wp2_with fail
     refine(HC.o _ _ q.o).mono ?_;rintro e w4 ⟨rfl,m,O,D⟩;have E:=hid (q.o.keepI D K.o);have ai:=hid O;have aj:=hid (J.o.trans D);clear O D q K J;go_wp2_with (at_builtin;refine Kn_ (.tmp 30) (.tmp 32) ai aj E av rfl rfl rfl rfl oo ?_;intro A5 c5 w5 I ak L)
     replace E:=L;clear L;go_wp2;go_roundw
     case rel=>exact⟨M,ks++[kc],p,m,A5,c5,by rw[T],al,ad,ag,af,by rw[T];exact E,I,ak⟩
     case measure=>exact G5_ hi H.o I.o (G.o.weak (i':=1) (j':=0) oo oo)
    |true=>
     obtain⟨r,o,j,hC⟩:=Y.o _ rfl;obtain⟨kc,p⟩:=r;dsimp only at o j hC;rw[Bool.true_and]at hC;have al:=hid o;have HC:=hid hC;have G:=hid j;have af:Hid (KidB (ks++[kc]) p):=(show KidB _ _ from⟨by rw[lA];simp;omega,fun t2 e=>by
      obtain⟨aV,e2,_,h3⟩:=j t2 e;obtain rfl:=Option.some.inj e2;rw[lA];simp;omega⟩)
     have ag:Hid (Enough R.n M p):=ah.o.adv (i:=0) j;have ad:Hid (Adv 1 0 st p):=(ae.o.trans j).weak oo oo;have T:(ks++[kc]).length=ks.length+1:=(by simp);clear o hC j Y;go_wp2_with fail
     refine y.o.mono ?_;rintro e w2 ⟨rfl,C⟩;have k:=hid (H.o.next C);have z:=hid (E.o.next C);have n:=hid (HK.o.below C);clear c4 cf cz C y;go_wp2_with fail
     refine(HX.o _ _ k.o).mono ?_;rintro e w3 ⟨rfl,Z⟩;have q:=hid (k.o.next Z);have K:=hid (z.o.next Z);have J:=hid (n.o.below Z);clear Z HX k z n;go_wp2_with fail
     refine(HC.o _ _ q.o).mono ?_;rintro e w4 ⟨rfl,m,O,D⟩;have E:=hid (q.o.keepI D K.o);have ai:=hid O;have aj:=hid (J.o.trans D);clear O D q K J;go_wp2_with (at_builtin;refine Kn_ (.tmp 30) (.tmp 32) ai aj E av rfl rfl rfl rfl oo ?_;intro A5 c5 w5 I ak L)
     replace E:=L;clear L;go_wp2;go_roundw
     case rel=>exact⟨M,ks++[kc],p,m,A5,c5,by rw[T],al,ad,ag,af,by rw[T];exact E,I,ak⟩
     case measure=>exact G5_ hi H.o I.o (G.o.weak (i':=1) (j':=0) oo oo)
theorem Qdb_ (R:RC) (hi:R.imp=true) (N f:Nat) (hN:R.n < N) (HE:EC R N f) (d:Nat) (b:Bool) (st:RdSt) (row:ON) (w:World) (j:RdI R d st row w) (hn:Need R.n st 12 (f+1)) (hd:d+f<=100000) (g:(Qu_ R.sg st 0).1=5):
  Calls prog 222 #[.pointer (some ⟨R.T,0,none⟩),.bool b] w (Does R d row w (.int .i64 (Xj_ R.sg b st).1) (Xj_ R.sg b st).2):=by
 have a:∀s,st=some s->s.at_ < R.n:=fun s e=>by
  rcases Nat.lt_or_ge s.at_ R.sg.length with v|v
  ·rw[<-j.ok.len];exact v
  ·exact absurd g (by rw[e,ZM_ (i:=0) v];decide)
 have c:=hid (fun(row:ON) (W:World) h=>vK_ R hi d st row b W h a);unfold Does at c |-
 generalize Xj_ R.sg b st=r at c |-
 obtain⟨k,st2⟩:=r;dsimp only at c |-
 have l:=hid j;have o:=hid (Kr.refl R.T row w);have t:=hid (Q8_ R hi d st row w j);have y:=q4_;have z:=kx_;generalize Qu_ R.sg st 0=x at t g;obtain⟨kd,xt,xp,xz⟩:=x;dsimp only at t g;subst g;clear j hn a;go_enter func222,ntmps222;go_wp2_with fail
 refine rst (t.o) l o ?_;intro w1 m p;go_wp2_with fail
 refine pst (c.o _ _ m.o) p ?_;intro w2 row2 n q;go_wp2;go_ret;exact⟨rfl,row2,n.o,q.o⟩
theorem QeM_ (R:RC) (hi:R.imp=true) (N f:Nat) (hN:R.n < N) (HE:EC R N f) (d:Nat) (b:Bool) (st:RdSt) (row:ON) (w:World) (l:RdI R d st row w) (hn:Need R.n st 12 (f+1)) (hd:d+f<=100000) (z:(Qu_ R.sg st 0).1≠5) (g:isW R.sg st ⟨#[118,97,114]⟩=true):
  Calls prog 222 #[.pointer (some ⟨R.T,0,none⟩),.bool b] w (Does R d row w (.int .i64 (Ji_ R.sg (Qd_ R.sg N f) d b (Qe_ st)).1) (Ji_ R.sg (Qd_ R.sg N f) d b (Qe_ st)).2):=by
 obtain⟨s,es,e⟩:=U7_ g;subst es;have A:s.at_ < R.n:=by rw[<-l.ok.len];exact e
 have j:=hid (fun(row:ON) (W:World) h=>Gh_ R hi N f HE d b s row W h A hn hd);unfold Does at j |-
 generalize Ji_ R.sg (Qd_ R.sg N f) d b (Qe_ (some s))=r at j |-
 obtain⟨k,st2⟩:=r;dsimp only at j |-
 have m:=hid l;have p:=hid (Kr.refl R.T row w);have y:=hid (Q8_ R hi d (some s) row w l);have C:=q4_;have D:=kx_;have c:=hid (fun(W:World) h=>Qr_ R hi d (some s) row ⟨#[118,97,114]⟩ W h);rw[g]at c;generalize Qu_ R.sg (some s) 0=x at y z;obtain⟨kd,xt,xp,xz⟩:=x;dsimp only at y z;have B:(kd==5)=false:=by rw[beq_eq_false_iff_ne];exact z
 clear l hn e;go_enter func222,ntmps222;go_wp2_with fail
 refine rst (y.o) m p ?_;intro w1 a q;go_wp2_with fail
 refine rst (c.o _ a.o) a q ?_;intro w2 n t;go_wp2_with fail
 refine pst (j.o _ _ n.o) t ?_;intro w3 i o v;go_wp2;go_ret;exact⟨rfl,i,o.o,v.o⟩
theorem QeK_ (R:RC) (hi:R.imp=true) (N f:Nat) (hN:R.n < N) (HE:EC R N f) (d:Nat) (b:Bool) (st:RdSt) (row:ON) (w:World) (n:RdI R d st row w) (hn:Need R.n st 12 (f+1)) (hd:d+f<=100000) (C:(Qu_ R.sg st 0).1≠5) (E:isW R.sg st ⟨#[118,97,114]⟩=false) (j:isW R.sg st ⟨#[114,101,116,117,114,110]⟩=true):
  Calls prog 222 #[.pointer (some ⟨R.T,0,none⟩),.bool b] w (Does R d row w (.int .i64 (Yk_ R.sg (Qd_ R.sg N f) d b (Qe_ st)).1) (Yk_ R.sg (Qd_ R.sg N f) d b (Qe_ st)).2):=by
 obtain⟨s,es,i⟩:=U7_ j;subst es;have D:s.at_ < R.n:=by rw[<-n.ok.len];exact i
 have m:=hid (fun(row:ON) (W:World) h=>Qay_ R hi N f HE d b s row W h D hn hd);unfold Does at m |-
 generalize Yk_ R.sg (Qd_ R.sg N f) d b (Qe_ (some s))=r at m |-
 obtain⟨k,st2⟩:=r;dsimp only at m |-
 have o:=hid n;have t:=hid (Kr.refl R.T row w);have B:=hid (Q8_ R hi d (some s) row w n);have G:=q4_;have H:=kx_;have e:=hid (fun(W:World) h=>Qr_ R hi d (some s) row ⟨#[118,97,114]⟩ W h);rw[E]at e;have g:=hid (fun(W:World) h=>Qr_ R hi d (some s) row ⟨#[114,101,116,117,114,110]⟩ W h);rw[j]at g;generalize Qu_ R.sg (some s) 0=x at B C;obtain⟨kd,xt,xp,xz⟩:=x;dsimp only at B C;have F:(kd==5)=false:=by rw[beq_eq_false_iff_ne];exact C
 clear n hn i;go_enter func222,ntmps222;go_wp2_with fail
 refine rst (B.o) o t ?_;intro w1 a v;go_wp2_with fail
 refine rst (e.o _ a.o) a v ?_;intro w2 c y;go_wp2_with fail
 refine rst (g.o _ c.o) c y ?_;intro w3 p z;go_wp2_with fail
 refine pst (m.o _ _ p.o) z ?_;intro w4 l q A;go_wp2;go_ret;exact⟨rfl,l,q.o,A.o⟩
theorem Qgm_ (R:RC) (hi:R.imp=true) (N f:Nat) (hN:R.n < N) (HE:EC R N f) (d:Nat) (b:Bool) (st:RdSt) (row:ON) (w:World) (p:RdI R d st row w) (hn:Need R.n st 12 (f+1)) (hd:d+f<=100000) (F:(Qu_ R.sg st 0).1≠5) (H:isW R.sg st ⟨#[118,97,114]⟩=false) (I:isW R.sg st ⟨#[114,101,116,117,114,110]⟩=false) (m:isW R.sg st ⟨#[105,102]⟩=true):
  Calls prog 222 #[.pointer (some ⟨R.T,0,none⟩),.bool b] w (Does R d row w (.int .i64 (ifS R.sg (Qd_ R.sg N f) d b (Qe_ st)).1) (ifS R.sg (Qd_ R.sg N f) d b (Qe_ st)).2):=by
 obtain⟨s,es,l⟩:=U7_ m;subst es;have G:s.at_ < R.n:=by rw[<-p.ok.len];exact l
 have o:=hid (fun(row:ON) (W:World) h=>xV_ R hi N f HE d b s row W h G hn hd);unfold Does at o |-
 generalize ifS R.sg (Qd_ R.sg N f) d b (Qe_ (some s))=r at o |-
 obtain⟨k,st2⟩:=r;dsimp only at o |-
 have q:=hid p;have y:=hid (Kr.refl R.T row w);have E:=hid (Q8_ R hi d (some s) row w p);have K:=q4_;have L:=kx_;have g:=hid (fun(W:World) h=>Qr_ R hi d (some s) row ⟨#[118,97,114]⟩ W h);rw[H]at g;have i:=hid (fun(W:World) h=>Qr_ R hi d (some s) row ⟨#[114,101,116,117,114,110]⟩ W h);rw[I]at i;have j:=hid (fun(W:World) h=>Qr_ R hi d (some s) row ⟨#[105,102]⟩ W h);rw[m]at j;generalize Qu_ R.sg (some s) 0=x at E F;obtain⟨kd,xt,xp,xz⟩:=x;dsimp only at E F;have J:(kd==5)=false:=by rw[beq_eq_false_iff_ne];exact F
 clear p hn l;go_enter func222,ntmps222;go_wp2_with fail
 refine rst (E.o) q y ?_;intro w1 a z;go_wp2_with fail
 refine rst (g.o _ a.o) a z ?_;intro w2 c A;go_wp2_with fail
 refine rst (i.o _ c.o) c A ?_;intro w3 e B;go_wp2_with fail
 refine rst (j.o _ e.o) e B ?_;intro w4 t C;go_wp2_with fail
 refine pst (o.o _ _ t.o) C ?_;intro w5 n v D;go_wp2;go_ret;exact⟨rfl,n,v.o,D.o⟩
theorem Qbr_ (R:RC) (hi:R.imp=true) (N f:Nat) (hN:R.n < N) (HE:EC R N f) (d:Nat) (b:Bool) (st:RdSt) (row:ON) (w:World) (j:RdI R d st row w) (hn:Need R.n st 12 (f+1)) (hd:d+f<=100000) (h5:(Qu_ R.sg st 0).1≠5) (an:isW R.sg st ⟨#[118,97,114]⟩=false) (ao:isW R.sg st ⟨#[114,101,116,117,114,110]⟩=false) (ap:isW R.sg st ⟨#[105,102]⟩=false) (H:isW R.sg st ⟨#[119,104,105,108,101]⟩=true):
  Calls prog 222 #[.pointer (some ⟨R.T,0,none⟩),.bool b] w (Does R d row w (.int .i64 (zY_ R.sg (Qd_ R.sg N f) d b (Qe_ st)).1) (zY_ R.sg (Qd_ R.sg N f) d b (Qe_ st)).2):=by
 obtain⟨s,es,G⟩:=U7_ H;subst es;have g:s.at_ < R.n:=by rw[<-j.ok.len];exact G
 obtain⟨i0,F,I,J,K⟩:=info_parts QB_;have ay:=hid (And.intro F (And.intro I (And.intro J K)));clear F I J K;have ai:=hid j.lo;have Q:=hid j.lo.1;have HL:=hid (fun t (e:(some s)=some t)=>show t.at_ < R.n by obtain rfl:=Option.some.inj e;exact g);unfold Does zY_;dsimp only;have c:=Qh_ (some s);have O:=hid (fun(row:ON) (W:World) h=>VL_ R hi N f HE d (Qe_ (some s)) row W h (hn.next g (c.trans (Qo_ _ _)) oo) hd);have a:=c.trans (Yu_ (sg:=R.sg) (E:=Qd_ R.sg N f) (fun m d st=>Qy_ f m d st) d (Qe_ (some s)));generalize JB_ R.sg (Qd_ R.sg N f) d (Qe_ (some s))=rc at O a |-
 obtain⟨kc,M⟩:=rc;dsimp only at O a |-
 have y:=hid (fun(U:Nat->Prop) (row:ON) (W:World) h=>HE.block U d M row W h (hn.next g a oo) hd);unfold Does at y;generalize Qd_ R.sg N f .block d M=rt at y |-
 obtain⟨kt,st2⟩:=rt;dsimp only at y |-
 have S:=hid j;have Z:=hid (Kr.refl R.T row w);have HX:=hid (Q8_ R hi d (some s) row w j);have aA:=q4_;have aB:=kx_;have z:=hid (fun(W:World) h=>Qr_ R hi d (some s) row ⟨#[118,97,114]⟩ W h);rw[an]at z;have B:=hid (fun(W:World) h=>Qr_ R hi d (some s) row ⟨#[114,101,116,117,114,110]⟩ W h);rw[ao]at B;have C:=hid (fun(W:World) h=>Qr_ R hi d (some s) row ⟨#[105,102]⟩ W h);rw[ap]at C;have D:=hid (fun(W:World) h=>Qr_ R hi d (some s) row ⟨#[119,104,105,108,101]⟩ W h);rw[H]at D;generalize Qu_ R.sg (some s) 0=x at HX h5;obtain⟨kd,xt,xp,xz⟩:=x;dsimp only at HX h5;have az:(kd==5)=false:=by rw[beq_eq_false_iff_ne];exact h5
 clear j hn G c a;go_enter func222,ntmps222;go_wp2_with fail
 refine rst (HX.o) S Z ?_;intro w1 k aa;go_wp2_with fail
 refine rst (z.o _ k.o) k aa ?_;intro w2 l ab;go_wp2_with fail
 refine rst (B.o _ l.o) l ab ?_;intro w3 n ac;go_wp2_with fail
 refine rst (C.o _ n.o) n ac ?_;intro w4 o ad;go_wp2_with fail
 refine rst (D.o _ o.o) o ad ?_;intro w5 T ae;go_wp2_with fail
 refine pst (Zi_ R hi d (some s) row w5 T.o HL.o) ae ?_;intro w6 av V q;go_wp2_with fail
 refine(O.o _ _ V.o).mono ?_;rintro e w7 ⟨A,rfl,m7,ax,h7,k7⟩;have af:=QQ_ q k7;have p:=hid h7;have r:=hid (m7.more (B':=w.heap.size) q.o.size);clear h7 k7 m7 O;go_wp2_with fail
 refine(y.o _ _ _ p.o).mono ?_;rintro e w8 ⟨rfl,L,h8,k8⟩;replace r:=hid (p.o.keepI k8 r.o);have X:=hid h8;have ag:=hid (af.o.trans k8);clear h8 k8 y;go_wp2_with (at_builtin;refine Kn_ (.tmp 46) (.tmp 48) X ag r Q rfl rfl rfl rfl oo ?_;intro A9 c9 w9 Y ah v)
 replace r:=v;clear v;have hA:=vV_ R hi d st2 L 17 noT A9 2 c9 [kc,kt] b w.heap.size w9 Y.o.unres r.o ai.o;unfold Does at hA;have P:=hid hA;clear hA;go_wp2_with fail
 refine P.o.mono ?_;rintro e aC ⟨rfl,i,ak,aq⟩;go_wp2;go_ret;exact⟨rfl,i,ak,ah.o.trans aq⟩
theorem QeL_ (R:RC) (hi:R.imp=true) (N f:Nat) (hN:R.n < N) (HE:EC R N f) (d:Nat) (b:Bool) (st:RdSt) (row:ON) (w:World) (Q:RdI R d st row w) (hn:Need R.n st 12 (f+1)) (hd:d+f<=100000) (h5:(Qu_ R.sg st 0).1≠5) (aj:isW R.sg st ⟨#[118,97,114]⟩=false) (ak:isW R.sg st ⟨#[114,101,116,117,114,110]⟩=false) (al:isW R.sg st ⟨#[105,102]⟩=false) (am:isW R.sg st ⟨#[119,104,105,108,101]⟩=false) (hs:setB R.sg st=true):
  Calls prog 222 #[.pointer (some ⟨R.T,0,none⟩),.bool b] w (Does R d row w (.int .i64 (setS R.sg (Qd_ R.sg N f) d b st).1) (setS R.sg (Qd_ R.sg N f) d b st).2):=by
 unfold setB at hs;simp only[Bool.and_eq_true]at hs;obtain⟨g,m,a⟩:=hs;obtain⟨s,es,O⟩:=Z4_ g;subst es;have ai:s.at_ < R.n:=by rw[<-Q.ok.len];exact O
 have hM:isM R.sg (Qe_ (some s)) ⟨#[61]⟩=true:=by
  have e1:Qu_ R.sg (Qe_ (some s)) 0=Qu_ R.sg (some s) 1:=rfl;have e2:(⟨#[61]⟩:BA).toList=[61]:=by rw[ByteArray.toList_eq]
  unfold isM;rw[e1,a,e2,m];rfl
 have l:=hid (fun(row:ON) (W:World) h=>ZP_ R hi d (Qe_ (some s)) row ⟨#[61]⟩ W h);rw[Zk_ hM]at l;have c:=hid (fun(row:ON) (W:World) h=>JV_ R hi d (some s) row W h);have I:=hid (fun(row:ON) (W:World) h=>Ky_ R hi d (some s) row 0 W h oo);rw[g]at I;rw[show nmS R.sg (some s)=Qe_ (some s)from if_pos g]at c;have e:=hid (fun(row:ON) (W:World) h=>YF_ R hi d (some s) row 1 W h oo);have P:=hid (fun(row:ON) (W:World) h=>HE.value R.U d (Qe_ (Qe_ (some s))) row W h (hn.next ai ((Qh_ _).trans (Qh_ _)) oo) hd);unfold Does at P l c |-
 unfold setS;dsimp only;generalize Qd_ R.sg N f .value d (Qe_ (Qe_ (some s)))=r at P |-
 obtain⟨k,st2⟩:=r;dsimp only at P |-
 generalize nmT R.sg (some s)=nt at c |-
 have S:=hid Q;have V:=hid (Kr.refl R.T row w);have HX:=hid (Q8_ R hi d (some s) row w Q);have aq:=q4_;have ar:=kx_;have J:=hid (fun(W:World) h=>Qr_ R hi d (some s) row ⟨#[118,97,114]⟩ W h);rw[aj]at J;have K:=hid (fun(W:World) h=>Qr_ R hi d (some s) row ⟨#[114,101,116,117,114,110]⟩ W h);rw[ak]at K;have L:=hid (fun(W:World) h=>Qr_ R hi d (some s) row ⟨#[105,102]⟩ W h);rw[al]at L;have M:=hid (fun(W:World) h=>Qr_ R hi d (some s) row ⟨#[119,104,105,108,101]⟩ W h);rw[am]at M;generalize Qu_ R.sg (some s) 0=x at HX h5;obtain⟨kd,xt,xp,xz⟩:=x;dsimp only at HX h5;have ap:(kd==5)=false:=by rw[beq_eq_false_iff_ne];exact h5
 generalize Qu_ R.sg (some s) 1=y at e m a;obtain⟨yk,yt,yp,yz⟩:=y;dsimp only at e m a;obtain rfl:yk=4:=eq_of_beq a;clear Q hn O g hM a;go_enter func222,ntmps222;go_wp2_with fail
 refine rst (HX.o) S V ?_;intro w1 q X;go_wp2_with fail
 refine rst (J.o _ q.o) q X ?_;intro w2 z Y;go_wp2_with fail
 refine rst (K.o _ z.o) z Y ?_;intro w3 A Z;go_wp2_with fail
 refine rst (L.o _ A.o) A Z ?_;intro w4 B aa;go_wp2_with fail
 refine rst (M.o _ B.o) B aa ?_;intro w5 C ab;go_wp2_with fail
 refine rst (I.o _ _ C.o) C ab ?_;intro w6 D ac;go_wp2_with fail
 refine rst (e.o _ _ D.o) D ac ?_;intro w7 E ad;go_wp2_with fail
 refine rst (e.o _ _ E.o) E ad ?_;intro w8 T ae;go_wp2_with fail
 refine pst (c.o _ _ T.o) ae ?_;intro w9 ao U af;go_wp2_with fail
 refine pst (l.o _ _ U.o) af ?_;intro av an t F;go_wp2_with fail
 refine pst (P.o _ _ t.o) F ?_;intro p n i G;have j:=hid i.o.lo;go_wp2_with fail
 refine pst (Ku_ R hi d st2 n ⟨#[59]⟩ 13 nt (some ⟨p.heap.size,0,none⟩) 1 1 [k] b p.heap.size _ (i.o.alloc _) (GZ_ p k) j.o) G ?_;intro ax o v H;go_wp2;go_ret;exact⟨rfl,o,v.o,H.o⟩
theorem Qc8_ (R:RC) (hi:R.imp=true) (N f:Nat) (hN:R.n < N) (HE:EC R N f) (d:Nat) (b:Bool) (st:RdSt) (row:ON) (w:World) (O:RdI R d st row w) (hn:Need R.n st 12 (f+1)) (hd:d+f<=100000) (M:(Qu_ R.sg st 0).1≠5) (P:isW R.sg st ⟨#[118,97,114]⟩=false) (Q:isW R.sg st ⟨#[114,101,116,117,114,110]⟩=false) (S:isW R.sg st ⟨#[105,102]⟩=false) (T:isW R.sg st ⟨#[119,104,105,108,101]⟩=false) (hs:Kd_ R.sg st 0=false):
  Calls prog 222 #[.pointer (some ⟨R.T,0,none⟩),.bool b] w (Does R d row w (.int .i64 (doS R.sg (Qd_ R.sg N f) d b st).1) (doS R.sg (Qd_ R.sg N f) d b st).2):=by
 have v:=hid (fun(row:ON) (W:World) h=>HE.value R.U d st row W h (hn.same oo (Adv.refl st)) hd);have m:=hid (fun(row:ON) (W:World) h=>Ky_ R hi d st row 0 W h oo);have K:=hid (fun(row:ON) (W:World) h=>YF_ R hi d st row 1 W h oo);unfold Does at v |-
 unfold doS;dsimp only;generalize Qd_ R.sg N f .value d st=r at v |-
 obtain⟨k,st2⟩:=r;dsimp only at v |-
 have y:=hid O;have B:=hid (Kr.refl R.T row w);have L:=hid (Q8_ R hi d st row w O);have X:=q4_;have Y:=kx_;have n:=hid (fun(W:World) h=>Qr_ R hi d st row ⟨#[118,97,114]⟩ W h);rw[P]at n;have o:=hid (fun(W:World) h=>Qr_ R hi d st row ⟨#[114,101,116,117,114,110]⟩ W h);rw[Q]at o;have p:=hid (fun(W:World) h=>Qr_ R hi d st row ⟨#[105,102]⟩ W h);rw[S]at p;have q:=hid (fun(W:World) h=>Qr_ R hi d st row ⟨#[119,104,105,108,101]⟩ W h);rw[T]at q;generalize Qu_ R.sg st 0=x at L M;obtain⟨kd,xt,xp,xz⟩:=x;dsimp only at L M;have V:(kd==5)=false:=by rw[beq_eq_false_iff_ne];exact M
 rw[hs]at m;clear hs K;clear O hn;go_enter func222,ntmps222;go_wp2_with fail
 refine rst (L.o) y B ?_;intro w1 a C;go_wp2_with fail
 refine rst (n.o _ a.o) a C ?_;intro w2 c D;go_wp2_with fail
 refine rst (o.o _ c.o) c D ?_;intro w3 e E;go_wp2_with fail
 refine rst (p.o _ e.o) e E ?_;intro w4 g F;go_wp2_with fail
 refine rst (q.o _ g.o) g F ?_;intro w5 i G;go_wp2_with fail
 refine rst (m.o _ _ i.o) i G ?_;intro w6 z H;go_wp2_with fail
 refine pst (v.o _ _ z.o) H ?_;intro U s j I;have l:=hid j.o.lo;go_wp2_with fail
 refine pst (Ku_ R hi d st2 s ⟨#[59]⟩ 14 noT (some ⟨U.heap.size,0,none⟩) 1 1 [k] b U.heap.size _ (j.o.alloc _) (GZ_ U k) l.o) I ?_;intro w8 t A J;go_wp2;go_ret;exact⟨rfl,t,A.o,J.o⟩
theorem Qc9_ (R:RC) (hi:R.imp=true) (N f:Nat) (hN:R.n < N) (HE:EC R N f) (d:Nat) (b:Bool) (st:RdSt) (row:ON) (w:World) (S:RdI R d st row w) (hn:Need R.n st 12 (f+1)) (hd:d+f<=100000) (Q:(Qu_ R.sg st 0).1≠5) (U:isW R.sg st ⟨#[118,97,114]⟩=false) (V:isW R.sg st ⟨#[114,101,116,117,114,110]⟩=false) (X:isW R.sg st ⟨#[105,102]⟩=false) (Y:isW R.sg st ⟨#[119,104,105,108,101]⟩=false) (T:Kd_ R.sg st 0=true) (hs:((Qu_ R.sg st 1).2.1.toList==[61])=false):
  Calls prog 222 #[.pointer (some ⟨R.T,0,none⟩),.bool b] w (Does R d row w (.int .i64 (doS R.sg (Qd_ R.sg N f) d b st).1) (doS R.sg (Qd_ R.sg N f) d b st).2):=by
 have A:=hid (fun(row:ON) (W:World) h=>HE.value R.U d st row W h (hn.same oo (Adv.refl st)) hd);have o:=hid (fun(row:ON) (W:World) h=>Ky_ R hi d st row 0 W h oo);have a:=hid (fun(row:ON) (W:World) h=>YF_ R hi d st row 1 W h oo);unfold Does at A |-
 unfold doS;dsimp only;generalize Qd_ R.sg N f .value d st=r at A |-
 obtain⟨k,st2⟩:=r;dsimp only at A |-
 have B:=hid S;have E:=hid (Kr.refl R.T row w);have P:=hid (Q8_ R hi d st row w S);have ab:=q4_;have ac:=kx_;have p:=hid (fun(W:World) h=>Qr_ R hi d st row ⟨#[118,97,114]⟩ W h);rw[U]at p;have q:=hid (fun(W:World) h=>Qr_ R hi d st row ⟨#[114,101,116,117,114,110]⟩ W h);rw[V]at q;have s:=hid (fun(W:World) h=>Qr_ R hi d st row ⟨#[105,102]⟩ W h);rw[X]at s;have t:=hid (fun(W:World) h=>Qr_ R hi d st row ⟨#[119,104,105,108,101]⟩ W h);rw[Y]at t;generalize Qu_ R.sg st 0=x at P Q;obtain⟨kd,xt,xp,xz⟩:=x;dsimp only at P Q;have aa:(kd==5)=false:=by rw[beq_eq_false_iff_ne];exact Q
 generalize Qu_ R.sg st 1=y at a hs;obtain⟨yk,yt,yp,yz⟩:=y;dsimp only at a hs;rw[T]at o;clear S hn;go_enter func222,ntmps222;go_wp2_with fail
 refine rst (P.o) B E ?_;intro w1 c F;go_wp2_with fail
 refine rst (p.o _ c.o) c F ?_;intro w2 e G;go_wp2_with fail
 refine rst (q.o _ e.o) e G ?_;intro w3 g H;go_wp2_with fail
 refine rst (s.o _ g.o) g H ?_;intro w4 i I;go_wp2_with fail
 refine rst (t.o _ i.o) i I ?_;intro w5 j J;go_wp2_with fail
 refine rst (o.o _ _ j.o) j J ?_;intro w6 l K;go_wp2_with fail
 refine rst (a.o _ _ l.o) l K ?_;intro w7 C L;go_wp2_with fail
 refine pst (A.o _ _ C.o) L ?_;intro Z v m M;have n:=hid m.o.lo;go_wp2_with fail
 refine pst (Ku_ R hi d st2 v ⟨#[59]⟩ 14 noT (some ⟨Z.heap.size,0,none⟩) 1 1 [k] b Z.heap.size _ (m.o.alloc _) (GZ_ Z k) n.o) M ?_;intro w9 z D O;go_wp2;go_ret;exact⟨rfl,z,D.o,O.o⟩
theorem Qda_ (R:RC) (hi:R.imp=true) (N f:Nat) (hN:R.n < N) (HE:EC R N f) (d:Nat) (b:Bool) (st:RdSt) (row:ON) (w:World) (V:RdI R d st row w) (hn:Need R.n st 12 (f+1)) (hd:d+f<=100000) (U:(Qu_ R.sg st 0).1≠5) (Y:isW R.sg st ⟨#[118,97,114]⟩=false) (Z:isW R.sg st ⟨#[114,101,116,117,114,110]⟩=false) (aa:isW R.sg st ⟨#[105,102]⟩=false) (ab:isW R.sg st ⟨#[119,104,105,108,101]⟩=false) (X:Kd_ R.sg st 0=true) (C:((Qu_ R.sg st 1).2.1.toList==[61])=true) (hs:((Qu_ R.sg st 1).1==4)=false):
  Calls prog 222 #[.pointer (some ⟨R.T,0,none⟩),.bool b] w (Does R d row w (.int .i64 (doS R.sg (Qd_ R.sg N f) d b st).1) (doS R.sg (Qd_ R.sg N f) d b st).2):=by
 have E:=hid (fun(row:ON) (W:World) h=>HE.value R.U d st row W h (hn.same oo (Adv.refl st)) hd);have t:=hid (fun(row:ON) (W:World) h=>Ky_ R hi d st row 0 W h oo);have a:=hid (fun(row:ON) (W:World) h=>YF_ R hi d st row 1 W h oo);unfold Does at E |-
 unfold doS;dsimp only;generalize Qd_ R.sg N f .value d st=r at E |-
 obtain⟨k,st2⟩:=r;dsimp only at E |-
 have F:=hid V;have H:=hid (Kr.refl R.T row w);have T:=hid (Q8_ R hi d st row w V);have ae:=q4_;have af:=kx_;have v:=hid (fun(W:World) h=>Qr_ R hi d st row ⟨#[118,97,114]⟩ W h);rw[Y]at v;have z:=hid (fun(W:World) h=>Qr_ R hi d st row ⟨#[114,101,116,117,114,110]⟩ W h);rw[Z]at z;have A:=hid (fun(W:World) h=>Qr_ R hi d st row ⟨#[105,102]⟩ W h);rw[aa]at A;have B:=hid (fun(W:World) h=>Qr_ R hi d st row ⟨#[119,104,105,108,101]⟩ W h);rw[ab]at B;generalize Qu_ R.sg st 0=x at T U;obtain⟨kd,xt,xp,xz⟩:=x;dsimp only at T U;have ad:(kd==5)=false:=by rw[beq_eq_false_iff_ne];exact U
 generalize Qu_ R.sg st 1=y at a hs C;obtain⟨yk,yt,yp,yz⟩:=y;dsimp only at a hs C;rw[X]at t;clear V hn;go_enter func222,ntmps222;go_wp2_with fail
 refine rst (T.o) F H ?_;intro w1 e I;go_wp2_with fail
 refine rst (v.o _ e.o) e I ?_;intro w2 i J;go_wp2_with fail
 refine rst (z.o _ i.o) i J ?_;intro w3 j K;go_wp2_with fail
 refine rst (A.o _ j.o) j K ?_;intro w4 l L;go_wp2_with fail
 refine rst (B.o _ l.o) l L ?_;intro w5 m M;go_wp2_with fail
 refine rst (t.o _ _ m.o) m M ?_;intro w6 n O;go_wp2_with fail
 refine rst (a.o _ _ n.o) n O ?_;intro w7 o P;go_wp2_with fail
 refine rst (a.o _ _ o.o) o P ?_;intro w8 G Q;go_wp2_with fail
 refine pst (E.o _ _ G.o) Q ?_;intro w9 D p S;have s:=hid p.o.lo;go_wp2_with fail
 refine pst (Ku_ R hi d st2 D ⟨#[59]⟩ 14 noT (some ⟨w9.heap.size,0,none⟩) 1 1 [k] b w9.heap.size _ (p.o.alloc _) (GZ_ w9 k) s.o) S ?_;intro ag c g q;go_wp2;go_ret;exact⟨rfl,c,g.o,q.o⟩
theorem Qdc_ (R:RC) (hi:R.imp=true) (N f:Nat) (j:R.n < N) (g:EC R N f) (d:Nat) (b:Bool) (st:RdSt) (row:ON) (w:World) (i:RdI R d st row w) (k:Need R.n st 12 (f+1)) (hd:d+f<=100000):
  Calls prog 222 #[.pointer (some ⟨R.T,0,none⟩),.bool b] w (Does R d row w (.int .i64 (ZH_ R.sg (Qd_ R.sg N f) d b st).1) (ZH_ R.sg (Qd_ R.sg N f) d b st).2):=by
 by_cases a:(Qu_ R.sg st 0).1=5
 ·rw[show ZH_ R.sg (Qd_ R.sg N f) d b st=Xj_ R.sg b st from if_pos a];exact Qdb_ R hi N f j g d b st row w i k hd a
 ·rcases bft (isW R.sg st ⟨#[118,97,114]⟩)with c|c
  ·rw[show ZH_ R.sg (Qd_ R.sg N f) d b st=Ji_ R.sg (Qd_ R.sg N f) d b (Qe_ st)by unfold ZH_;rw[if_neg a,if_pos c]];exact QeM_ R hi N f j g d b st row w i k hd a c
  ·rcases bft (isW R.sg st ⟨#[114,101,116,117,114,110]⟩)with h1|h1
   ·rw[show ZH_ R.sg (Qd_ R.sg N f) d b st=Yk_ R.sg (Qd_ R.sg N f) d b (Qe_ st)by unfold ZH_;rw[if_neg a,if_neg (by rw[c];decide),if_pos h1]];exact QeK_ R hi N f j g d b st row w i k hd a c h1
   ·rcases bft (isW R.sg st ⟨#[105,102]⟩)with e|e
    ·rw[show ZH_ R.sg (Qd_ R.sg N f) d b st=ifS R.sg (Qd_ R.sg N f) d b (Qe_ st)by unfold ZH_;rw[if_neg a,if_neg (by rw[c];decide),if_neg (by rw[h1];decide),if_pos e]];exact Qgm_ R hi N f j g d b st row w i k hd a c h1 e
    ·rcases bft (isW R.sg st ⟨#[119,104,105,108,101]⟩)with h|h
     ·rw[show ZH_ R.sg (Qd_ R.sg N f) d b st=zY_ R.sg (Qd_ R.sg N f) d b (Qe_ st)by unfold ZH_;rw[if_neg a,if_neg (by rw[c];decide),if_neg (by rw[h1];decide),if_neg (by rw[e];decide),if_pos h]];exact Qbr_ R hi N f j g d b st row w i k hd a c h1 e h
     ·rcases bft (setB R.sg st)with l|l
      ·rw[show ZH_ R.sg (Qd_ R.sg N f) d b st=setS R.sg (Qd_ R.sg N f) d b st by unfold ZH_;rw[if_neg a,if_neg (by rw[c];decide),if_neg (by rw[h1];decide),if_neg (by rw[e];decide),if_neg (by rw[h];decide),if_pos l]];exact QeL_ R hi N f j g d b st row w i k hd a c h1 e h l
      ·rw[show ZH_ R.sg (Qd_ R.sg N f) d b st=doS R.sg (Qd_ R.sg N f) d b st by unfold ZH_;rw[if_neg a,if_neg (by rw[c];decide),if_neg (by rw[h1];decide),if_neg (by rw[e];decide),if_neg (by rw[h];decide),if_neg (by rw[l];decide)]];unfold setB at l;rcases bft (Kd_ R.sg st 0)with m|m
       ·rw[m,Bool.true_and]at l;rcases bft ((Qu_ R.sg st 1).2.1.toList==[61])with n|n
        ·rw[n,Bool.true_and]at l;exact Qda_ R hi N f j g d b st row w i k hd a c h1 e h m n l
        ·exact Qc9_ R hi N f j g d b st row w i k hd a c h1 e h m n
       ·exact Qc8_ R hi N f j g d b st row w i k hd a c h1 e h m
theorem ec_u {R:RC} {N f:Nat} (U:Nat->Prop) (h:EC R N f):EC { R with U:=U } N f:=
 ⟨fun U' d st row w a=>h.value U' d st row w a,fun U' d st row w a=>h.pick U' d st row w a,fun U' l d st row w a=>h.chain U' l d st row w a,fun U' d st row w a=>h.end_ U' d st row w a,fun U' d st row w a=>h.base U' d st row w a,fun U' b d st row w a=>h.stmt U' b d st row w a,fun U' d st row w a=>h.block U' d st row w a⟩
theorem Jt_ (R:RC) (hi:R.imp=true) (N:Nat) (g:R.n < N):∀f,EC R N f:=by
 intro f
 induction f with
 |zero=>
  exact⟨fun U d st row w c a=>absurd a.1 oo,fun U d st row w c a=>absurd a.1 oo,fun U l d st row w c hl a=>absurd a.1 oo,fun U d st row w c a=>absurd a.1 oo,fun U d st row w c a=>absurd a.1 oo,fun U b d st row w c a=>absurd a.1 oo,fun U d st row w c a=>absurd a.1 oo⟩
 |succ f e=>
  exact⟨fun U d st row w c a hd=>Qby_ { R with U:=U } hi N f g (ec_u U e) d st row w c a hd,
   fun U d st row w c a hd=>QcL_ { R with U:=U } hi N f (ec_u U e) d st row w c a hd,
   fun U l d st row w c hl a hd=>v2_ { R with U:=U } hi N f g (ec_u U e) l d hl st row w c a hd,
   fun U d st row w c a hd=>QdV_ { R with U:=U } hi N f g (ec_u U e) d st row w c a hd,
   fun U d st row w c a hd=>QbL_ { R with U:=U } hi N f g (ec_u U e) d st row w c a hd,
   fun U b d st row w c a hd=>Qdc_ { R with U:=U } hi N f g (ec_u U e) d b st row w c a oo,
   fun U d st row w c a hd=>vZ_ { R with U:=U } hi N f g (ec_u U e) d st row w c a hd⟩
end Go.Proofs.YtgbikafalcbibaaGreatDoor

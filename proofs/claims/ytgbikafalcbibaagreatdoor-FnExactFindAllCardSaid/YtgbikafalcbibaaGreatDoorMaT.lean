/-
  Put together by program (shake.py):SpaR.
-/
import Derived.Test.YtgbikafalcbibaaGreatDoorMaS
set_option maxRecDepth 100000
set_option linter.all false
set_option maxHeartbeats 25600000
open Go.Lib (hid)
open Go.Proofs.Tryz
namespace Go.Proofs.YtgbikafalcbibaaGreatDoor
open Go.RowKit
theorem sc_u {R:RC} {N f:Nat} (U:Nat->Prop) (h:SC R N f):SC { R with U:=U } N f:=
 ⟨fun U' d st row w a=>h.value U' d st row w a,fun U' d st row w a=>h.pick U' d st row w a,fun U' l d st row w a=>h.chain U' l d st row w a,fun U' d st row w a=>h.end_ U' d st row w a,fun U' d st row w a=>h.base U' d st row w a,fun U' d st row w a=>h.step U' d st row w a,fun U' d st row w a=>h.block U' d st row w a⟩
theorem Qg9_ (R:RC) (hi:R.imp=false) (hm:Xx_ R.sg) (N:Nat) (g:R.n < N):∀f,SC R N f:=by
 intro f
 induction f with
 |zero=>
  exact⟨fun U d st row w c b=>absurd b.1 oo,fun U d st row w c b=>absurd b.1 oo,fun U l d st row w c hl b=>absurd b.1 oo,fun U d st row w c b=>absurd b.1 oo,fun U d st row w c b=>absurd b.1 oo,fun U d st row w c b=>absurd b.1 oo,fun U d st row w c b=>absurd b.1 oo⟩
 |succ f e=>
  exact⟨fun U d st row w c b hd a=>jO_ { R with U:=U } hi N f g (sc_u U e) d st row w c b hd a,
   fun U d st row w c b hd a=>Qbj_ { R with U:=U } hi N f (sc_u U e) d st row w c b hd a,
   fun U l d st row w c hl b hd a=>jB_ { R with U:=U } hi N f g (sc_u U e) l d hl st row w c b hd a,
   fun U d st row w c b hd a=>QcY_ { R with U:=U } hi N f g (sc_u U e) d st row w c b hd a,
   fun U d st row w c b hd a=>Qa6_ { R with U:=U } hi hm N f g (sc_u U e) d st row w c b hd a,
   fun U d st row w c b hd a=>Qbk_ { R with U:=U } hi N f g (sc_u U e) d st row w c b hd a,
   fun U d st row w c b hd a=>jA_ { R with U:=U } hi N f g (sc_u U e) d st row w c b hd a⟩
theorem UE_ {n F:Nat} (hF:14 * (n+2)<=F) (st:RdSt) {r:Nat} (hr:r<=28):Need n st r F:=⟨oo,fun s _=>by
 have:n - s.at_<=n:=Nat.sub_le _ _;omega⟩
theorem QbV_ (st:RdSt):Deep 0 st:=fun _ _=>oo
theorem Qbi_ (R:RC) (hi:R.imp=false) (N F:Nat) (hF:14 * (R.n+2)<=F) (hd:F<=100000) (hN:R.n < N) (HE:SC R N F) (st:RdSt) (row:ON) (w:World) (v:RdI R 0 st row w):
  Calls prog 44 #[.pointer (some ⟨R.T,0,none⟩),.bool false] w (Does R 0 row w (.int .i64 (VS_ R.sg (Qd_ R.sg N F) N false st).1) (VS_ R.sg (Qd_ R.sg N F) N false st).2):=by
 obtain⟨i0,G,H,I,J⟩:=info_parts QB_;have ak:=hid (And.intro G (And.intro H (And.intro I J)));clear G H I J;have a:=hid v;have t:=hid (Kr.refl R.T row w);have ac:=hid v.lo;have T:=hid v.lo.1;unfold Does VS_;have E:=hid (fun(W:World) h=>Yj_ R hi 0 st row 5 (by decide) (by decide) W h);by_cases p:(Qu_ R.sg st 0).1=5
 ·rw[if_pos p];rw[show((Qu_ R.sg st 0).1==5)=true from by rw[p];decide]at E;have X2:=hid (fun(W:World) h=>Vl_ R hi 0 st row 5 (by decide) (by decide) W h p);unfold Does at X2;have s:=hid (qN_ (sg:=R.sg) st);generalize Xj_ R.sg false st=r at s |-
  obtain⟨k,st2⟩:=r;generalize (Qu_ R.sg st 0).2.1=tx at X2 s;dsimp only;clear v p;go_enter func44,ntmps44;go_wp2_with fail
  refine(E.o _ a.o).mono ?_;rintro e w1 ⟨rfl,h1⟩;have d:=hid (a.o.next h1);have g:=hid (t.o.below h1);clear h1;go_wp2_with fail
  refine pst (X2.o w1 d.o) g ?_;intro w2 row2 b i;have B:=hid b.o.lo;have HP:=hid (Ym_ R.U hi 0 (Qe_ st) row2 19 tx _ 0 0 [] w2.heap.size (w2.alloc (.cells #[] 3)) (b.o.next bra) (q5_ w2) B.o);rw[s.o]at HP;dsimp only at HP;go_wp2_with fail
  refine pst (HP.o) i ?_;intro w3 l f j;go_wp2;go_ret;exact⟨rfl,l,f.o,j.o⟩
 ·rw[if_neg p];rw[show((Qu_ R.sg st 0).1==5)=false from beq_eq_false_iff_ne.2 p]at E;have S:=hid (fun(row:ON) (W:World) h=>Uf_ R.U hi 0 st row ⟨#[118,97,114]⟩ W h);rcases bft (isW R.sg st ⟨#[118,97,114]⟩)with o|o
  ·rw[if_pos o];rw[o,KP_ o]at S;have m:=hid (fun(row:ON) (W:World) h=>YI_ R hi N F HE 0 (Qe_ st) row W h (UE_ hF _ oo) oo (QbV_ _));unfold Does at m;generalize Ji_ R.sg (Qd_ R.sg N F) 0 false (Qe_ st)=r at m |-
   obtain⟨k,st2⟩:=r;dsimp only at m |-
   clear v p o;go_enter func44,ntmps44;go_wp2_with fail
   refine(E.o _ a.o).mono ?_;rintro e w1 ⟨rfl,h1⟩;have d:=hid (a.o.next h1);have g:=hid (t.o.below h1);clear h1;go_wp2_with fail
   refine pst (S.o row w1 d.o) g ?_;intro w2 row2 b i;go_wp2_with fail
   refine pst (m.o row2 w2 b.o) i ?_;intro w3 l f j;go_wp2;go_ret;exact⟨rfl,l,f.o,j.o⟩
  ·rw[if_neg (by rw[o];decide)];rw[o,Zj_ o]at S;unfold VH_;dsimp only;have HX:=hid (fun(row:ON) (W:World) h=>YK_ R.U hi 0 st row W h);generalize nmT R.sg st=tx at HX |-
   generalize nmS R.sg st=O at HX |-
   have Q:=hid (fun(row:ON) (W:World) h=>Wq_ R hi 0 N O row W h hN);generalize QF_ R.sg (Qi_ R.sg) ⟨#[41]⟩ N [] (Qk_ R.sg O ⟨#[40]⟩)=q at Q |-
   obtain⟨ks,P⟩:=q;dsimp only at Q |-
   have m:=hid (fun(U:Nat->Prop) (row:ON) (W:World) h=>HE.block U 0 (Qk_ R.sg P ⟨#[41]⟩) row W h (UE_ hF _ oo) oo (QbV_ _));unfold PosS at m;generalize Qd_ R.sg N F .block 0 (Qk_ R.sg P ⟨#[41]⟩)=r at m |-
   obtain⟨k,st2⟩:=r;dsimp only at m |-
   clear v p o;go_enter func44,ntmps44;go_wp2_with fail
   refine(E.o _ a.o).mono ?_;rintro e w1 ⟨rfl,h1⟩;have d:=hid (a.o.next h1);have g:=hid (t.o.below h1);clear h1;go_wp2_with fail
   refine pst (S.o row w1 d.o) g ?_;intro w2 row2 b i;have f:=b;have j:=i;go_wp2_with fail
   refine pst (HX.o row2 w2 f.o) j ?_;intro w4 K V z;go_wp2_with fail
   refine(Q.o K w4 V.o).mono ?_;rintro e w5 ⟨A,n,c,rfl,rfl,m5,al,aj,h5,k5⟩;have ah:=z.o.size;have C:=hid (m5.more (B':=w.heap.size) ah);have x:=hid h5;have Z:=hid (z.o.trans k5);clear h5 k5 m5 Q;go_wp2_with fail
   refine(m.o _ _ _ x.o).mono ?_;rintro e w6 ⟨rfl,L,h6,k6⟩;have HM:=hid (x.o.keepI k6 C.o);have X:=hid h6;have aa:=hid (Z.o.trans k6);clear h6 k6 m C;go_wp2_with (at_builtin;refine Kn_ (.tmp 67) (.tmp 70) X aa HM T rfl rfl rfl rfl oo ?_;intro A7 c7 w7 Y ab D)
   replace HM:=D;clear D;have y:=hid Y.o.unres;go_wp2_with fail
   refine(Ym_ R.U hi 0 st2 L 20 tx A7 (ks.length+1) c7 (ks++[k]) w.heap.size w7 y.o HM.o ac.o).mono ?_;rintro e w8 ⟨rfl,M,h8,k8⟩;go_wp2;go_ret;exact⟨rfl,M,h8,ab.o.trans k8⟩
theorem jG_ (R:RC) (hi:R.imp=false) (N F:Nat) (hF:14 * (R.n+2)<=F) (hd:F<=100000) (hN:R.n < N) (HE:SC R N F) (st:RdSt) (row:ON) (w:World) (hI:RdI R 0 st row w):
  Calls prog 44 #[.pointer (some ⟨R.T,0,none⟩),.bool true] w (Does R 0 row w (.int .i64 (YU_ R.sg (Qd_ R.sg N F) N false st).1) (YU_ R.sg (Qd_ R.sg N F) N false st).2):=by
 obtain⟨i0,bo,bs,bv,aU⟩:=info_parts QB_;have b5:=hid (And.intro bo (And.intro bs (And.intro bv aU)));clear bo bs bv aU;have D:=hid hI;have az:=hid (Kr.refl R.T row w);have aQ:=hid hI.lo;have aM:=hid hI.lo.1;unfold Does YU_;have T1:=hid (fun(W:World) h=>Yj_ R hi 0 st row 5 (by decide) (by decide) W h);by_cases g1:(Qu_ R.sg st 0).1=5
 ·rw[if_pos g1];rw[show((Qu_ R.sg st 0).1==5)=true from by rw[g1];decide]at T1;have X2:=hid (fun(W:World) h=>Vl_ R hi 0 st row 5 (by decide) (by decide) W h g1);unfold Does at X2;have aN:=hid (qN_ (sg:=R.sg) st);generalize Xj_ R.sg false st=r at aN |-
  obtain⟨k,st2⟩:=r;generalize (Qu_ R.sg st 0).2.1=tx at X2 aN;dsimp only;clear hI g1;go_enter func44,ntmps44;go_wp2_with fail
  refine(T1.o _ D.o).mono ?_;rintro e w1 ⟨rfl,h1⟩;have O:=hid (D.o.next h1);have V:=hid (az.o.below h1);clear h1;go_wp2_with fail
  refine pst (X2.o w1 O.o) V ?_;intro w2 row2 j p;have bi:=hid j.o.lo;have HP:=hid (Ym_ R.U hi 0 (Qe_ st) row2 19 tx _ 0 0 [] w2.heap.size (w2.alloc (.cells #[] 3)) (j.o.next bra) (q5_ w2) bi.o);rw[aN.o]at HP;dsimp only at HP;go_wp2_with fail
  refine pst (HP.o) p ?_;intro w3 J o y;go_wp2;go_ret;exact⟨rfl,J,o.o,y.o⟩
 ·rw[if_neg g1];rw[show((Qu_ R.sg st 0).1==5)=false from beq_eq_false_iff_ne.2 g1]at T1;have T2:=hid (fun(row:ON) (W:World) h=>Uf_ R.U hi 0 st row ⟨#[118,97,114]⟩ W h);rcases bft (isW R.sg st ⟨#[118,97,114]⟩)with g2|g2
  ·rw[if_pos g2];rw[g2,KP_ g2]at T2;have HV:=hid (fun(row:ON) (W:World) h=>YI_ R hi N F HE 0 (Qe_ st) row W h (UE_ hF _ oo) oo (QbV_ _));unfold Does at HV;generalize Ji_ R.sg (Qd_ R.sg N F) 0 false (Qe_ st)=r at HV |-
   obtain⟨k,st2⟩:=r;dsimp only at HV |-
   clear hI g1 g2;go_enter func44,ntmps44;go_wp2_with fail
   refine(T1.o _ D.o).mono ?_;rintro e w1 ⟨rfl,h1⟩;have O:=hid (D.o.next h1);have V:=hid (az.o.below h1);clear h1;go_wp2_with fail
   refine pst (T2.o row w1 O.o) V ?_;intro w2 row2 j p;go_wp2_with fail
   refine pst (HV.o row2 w2 j.o) p ?_;intro w3 J o y;go_wp2;go_ret;exact⟨rfl,J,o.o,y.o⟩
  ·rw[if_neg (by rw[g2];decide)];rw[g2,Zj_ g2]at T2;have T3:=hid (fun(row:ON) (W:World) h=>Uf_ R.U hi 0 st row ⟨#[99,108,97,115,115]⟩ W h);rcases bft (isW R.sg st ⟨#[99,108,97,115,115]⟩)with B|B
   ·rw[if_pos B];rw[B,KP_ B]at T3;have HO:Hid (∀(U:Nat->Prop) (t:PS) (row:ON) (w:World),RdI { R with U:=U } 0 (some t) row w->Adv 0 0 (none:RdSt) none->Deep 0 (some t)->Calls prog 44 #[.pointer (some ⟨R.T,0,none⟩),.bool false] w (fun e w'=>e=.returned (.int .i64 (VS_ R.sg (Qd_ R.sg N F) N false (some t)).1)/\∃row',RdI { R with U:=U } 0 (VS_ R.sg (Qd_ R.sg N F) N false (some t)).2 row' w'/\Kr R.T row w row' w')):=(show ∀U t row w,_->_->_->_ from fun U t row w h _ _=>Qbi_ { R with U:=U } hi N F hF hd hN (sc_u U HE) (some t) row w h);have ag:Hid (∀b st,VS_ R.sg (Qd_ R.sg N F) N b st=Z8_ b (VS_ R.sg (Qd_ R.sg N F) N false st)):=(show ∀b st,_ from fun b st=>QcE_ b st);have aS:Hid (∀st,0<=(VS_ R.sg (Qd_ R.sg N F) N false st).1):=(show ∀st,_ from fun st=>Qg0_ false st);have a2:Hid (∀b st,Adv 1 1 st (VS_ R.sg (Qd_ R.sg N F) N b st).2):=(show ∀b st,_ from fun b st=>z1_ (fun m d st=>Qy_ F m d st) b st);unfold YW_;dsimp only;have X:=hid (fun(row:ON) (W:World) h=>YK_ R.U hi 0 (Qe_ st) row W h);generalize nmT R.sg (Qe_ st)=tx at X |-
    generalize nmS R.sg (Qe_ st)=an at X |-
    have HW:=hid (fun(row:ON) (W:World) h=>X8_ R.U hi 0 an row ⟨#[123]⟩ W h);generalize Qk_ R.sg an ⟨#[123]⟩=st2 at HW |-
    obtain⟨Q,hQ⟩:=ex_ (Zo_ R.sg (VS_ R.sg (Qd_ R.sg N F) N) N [] st2);rw[hQ];have HQ:=hid hQ;obtain⟨T,hT⟩:=ex_ (Qk_ R.sg Q.2 ⟨#[125]⟩);rw[hT];have HT:=hid hT;obtain⟨one,aL⟩:=ex_ (VS_ R.sg (Qd_ R.sg N F) N);rw[aL]at HQ ag a2 aS HO;obtain⟨ak,ah⟩:=ex_ (one false);rw[ah]at ag aS HO;have aH:Hid (Adv 0 0 (none:RdSt) none):=(Adv.refl none);have a6:Hid (Deep 0 st2):=QbV_ _;clear hI g1 g2 B hQ hT aL ah HE;go_enter func44,ntmps44;go_wp2_with fail
    refine(T1.o _ D.o).mono ?_;rintro e w1 ⟨rfl,h1⟩;have O:=hid (D.o.next h1);have V:=hid (az.o.below h1);clear h1;go_wp2_with fail
    refine pst (T2.o row w1 O.o) V ?_;intro w2 row2 j p;have a8:=j;have be:=p;go_wp2_with fail
    refine pst (T3.o row2 w2 a8.o) be ?_;intro b2 aX a9 bf;go_wp2_with fail
    refine pst (X.o aX b2 a9.o) bf ?_;intro b3 aY ba bg;go_wp2_with fail
    refine pst (HW.o aY b3 ba.o) bg ?_;intro bB aZ bb aI;go_upto_region 9 with fail
    have aU:=aI.o.size;have H:=hid ((q5_ bB).more (B':=w.heap.size) oo);have o:=hid (bb.o.res_new (A:=some ⟨bB.heap.size,0,none⟩) (br.alloc (Nat.le_refl _) (.cells #[] 3)) (fun g hg=>by simp at hg;subst hg;simp));have y:=hid (aI.o.below (br.alloc (Nat.le_refl _) (.cells #[] 3)));go_loopw [6] (fun v wr=>∃(M:Nat) (ks:LI) (st':RdSt) (row':ON) (A:OA) (c:Nat),v=.slice A ks.length c/\Hid (Zo_ R.sg one M ks st'=Q)/\Hid (Adv 0 0 (none:RdSt) none)/\Hid (Deep 0 st')/\Hid (Enough R.n M st')/\Hid (KidB ks st')/\Hid (Mine wr w.heap.size 3 1 A ks.length c (Qa_ ks))/\Hid (RdI (R.res A) 0 st' row' wr)/\Hid (Kr R.T row w row' wr)) (fun _ wr=>V9_ R wr)
    case atStart=>exact⟨N,[],st2,aZ,_,0,rfl,HQ,aH,a6,(show Enough _ _ _ from QL_ hN _),⟨by simp,fun s _=>by simp⟩,H,o,y⟩
    case round=>
     clear HQ aH o y H;obtain⟨M,ks,st',row',A,c,rfl,HQ,a4,a5,a7,bh,C,HI,HK⟩:=hrel;have bd:=HI
     cases st' with
     |none=>
      obtain⟨a,b,AN,cN,l,hc,hb,ai⟩:=HI.o;obtain⟨c1,c2,c3,cf,cz⟩:=hc.csu _ hi;obtain rfl:b=true:=hb;have I:=HQ.o;rw[Xs_]at I;subst I;have ht:=HT.o;rw[Xv_]at ht;subst ht;clear hc ai c1 c3 HQ HT;have aO:=hid HI.o.unres;have aR:=C;have aP:=HK;go_wp2_with fail
      refine(Ym_ R.U hi 0 none _ 21 tx A ks.length c ks w.heap.size _ aO.o aR.o aQ.o).mono ?_;rintro e w9 ⟨rfl,al,h9,k9⟩;go_wp2;go_ret;exact⟨rfl,al,h9,aP.o.trans k9⟩
     |some t=>
      obtain⟨M,rfl⟩:∃M',M=M'+1:=⟨M - 1,by
       have h1:=a7.o t rfl;have h2:=(HI.o.le rfl).1;have:(R.res A).n=R.n:=rfl;omega⟩
      obtain⟨a,b,AN,cN,l,hc,hb,ai⟩:=HI.o;obtain⟨c1,c2,c3,cf,cz⟩:=hc.csu _ hi;obtain⟨rfl,_,_⟩:=hb;have S:=hid (XX_ _ hi 0 (some t) row' ⟨#[125]⟩ wr HI.o);have I:=HQ.o;unfold Zo_ at I;rw[if_neg (show ¬(some t).isNone=true by simp)]at I;clear hc ai c1 c3 HQ;rcases bft (isM R.sg (some t) ⟨#[125]⟩)with hM|hM
      ·rw[if_pos hM]at I;subst I;have ht:=HT.o;rw[show Qk_ R.sg (ks,some t).2 ⟨#[125]⟩=Qe_ (some t)from Zk_ hM]at ht;subst ht;rw[hM,Qv_ hM]at S;clear hM HT;go_wp2_with fail
       refine S.o.mono ?_;rintro e w2 ⟨rfl,row2,h2,k2⟩;have G:=hid (HI.o.keepI k2 C.o);have p:=hid (HK.o.trans k2);replace C:=G;replace HK:=p;replace HI:=hid h2;clear c2 cf cz h2 k2 G p;have aO:=hid HI.o.unres;have aR:=C;have aP:=HK;go_wp2_with fail
       refine(Ym_ R.U hi 0 (Qe_ (some t)) _ 21 tx A ks.length c ks w.heap.size _ aO.o aR.o aQ.o).mono ?_;rintro e w9 ⟨rfl,al,h9,k9⟩;go_wp2;go_ret;exact⟨rfl,al,h9,aP.o.trans k9⟩
      ·rw[if_neg (by rw[hM];decide)]at I;rw[hM,QC_ hM]at S;have X:=hid (fun(row:ON) (W:World) h=>VA_ (R.res A) hi 0 t row W h);have aD:XE_ R.sg (some t) ks=((Qu_ R.sg (some t) 0).2.2.2&&decide (0 < ks.length)):=rfl;rw[aD]at I;have bp:(R.res A).sg=R.sg:=rfl;rw[bp]at X;generalize Qu_ R.sg (some t) 0=x at X I aD;obtain⟨xk,xt,xp,xz⟩:=x;dsimp only at X I aD;clear hM aD bp;have b4:=bh.o.2 t rfl;have b8:=(HI.o.le rfl).2;have b6:=bh.o.1;have f:=a2.o (xz&&decide (0 < ks.length)) (some t);rw[ag.o]at I f;have aF:=aS.o (some t);have HC:=hid (fun(row:ON) (W:World) h=>HO.o (fun x=>R.U x\/A.map (·.block)=some x) t row W h a4.o a5.o);generalize ak (some t)=r at I f aF HC;obtain⟨kc,am⟩:=r;unfold Z8_ at I f;dsimp only at I f aF HC;have av:Hid (KidB (ks++[kc]) (Zl_ kc (xz&&decide (0 < ks.length)) am)):=(show KidB _ _ from⟨by rw[lA];simp;omega,fun t2 e=>by
        obtain⟨b9,e2,_,h3⟩:=f t2 e;obtain rfl:=Option.some.inj e2;rw[lA];simp;omega⟩)
       have ax:Hid (Enough R.n M (Zl_ kc (xz&&decide (0 < ks.length)) am)):=a7.o.adv (i:=0) f;have a3:=a4;have ay:Hid (Deep (0) (Zl_ kc (xz&&decide (0 < ks.length)) am)):=a5.o.adv f;have aE:(ks++[kc]).length=ks.length+1:=(by simp);have aA:=hid I;have Y:=hid f;clear I f
       cases xz with
       |false=>
        rw[Bool.false_and]at av ax ay aA Y;go_wp2_with fail
        refine S.o.mono ?_;rintro e w2 ⟨rfl,row2,h2,k2⟩;have j:=hid h2;have G:=hid (HI.o.keepI k2 C.o);have p:=hid (HK.o.trans k2);clear c2 cf cz h2 k2 S;go_wp2_with fail
        refine(X.o _ _ j.o).mono ?_;rintro e w3 ⟨rfl,B⟩;have o:=hid (j.o.next B);have H:=hid (G.o.next B);have y:=hid (p.o.below B);clear B X j G p;go_wp2_with fail
        refine(HC.o _ _ o.o).mono ?_;rintro e w4 ⟨rfl,K,h4,k4⟩;have ae:=hid (o.o.keepI k4 H.o);have z:=hid h4;have E:=hid (y.o.trans k4);clear h4 k4 o H y;have L:=hid (K4_ (R.res A) hi 0 am K kc aF false w4 z.o);unfold Does at L;go_wp2_with fail
        refine L.o.mono ?_;rintro e w5 ⟨rfl,Z,h5,k5⟩;have C:=hid (z.o.keepI k5 ae.o);have aa:=hid h5;have ac:=hid (E.o.trans k5);clear h5 k5 z ae E L;go_wp2_with (at_builtin;refine Kn_ (.tmp 55) (.tmp 57) aa ac C aM rfl rfl rfl rfl oo ?_;intro A6 c6 w6 P ad af)
        replace C:=af;clear af;go_wp2;go_roundw
        case rel=>exact⟨M,ks++[kc],_,Z,A6,c6,by rw[aE],aA,a3,ay,ax,av,by rw[aE];exact C,P,ad⟩
        case measure=>exact ZA_ hi bd.o P.o (Y.o.weak (i':=1) (j':=0) oo oo)
       |true=>
        rw[Bool.true_and]at av ax ay aA Y;go_wp2_with fail
        refine S.o.mono ?_;rintro e w2 ⟨rfl,row2,h2,k2⟩;have j:=hid h2;have G:=hid (HI.o.keepI k2 C.o);have p:=hid (HK.o.trans k2);clear c2 cf cz h2 k2 S;go_wp2_with fail
        refine(X.o _ _ j.o).mono ?_;rintro e w3 ⟨rfl,B⟩;have o:=hid (j.o.next B);have H:=hid (G.o.next B);have y:=hid (p.o.below B);clear B X j G p;go_wp2_with fail
        refine(HC.o _ _ o.o).mono ?_;rintro e w4 ⟨rfl,K,h4,k4⟩;have ae:=hid (o.o.keepI k4 H.o);have z:=hid h4;have E:=hid (y.o.trans k4);clear h4 k4 o H y;have L:=hid (K4_ (R.res A) hi 0 am K kc aF (decide (0 < ks.length)) w4 z.o);unfold Does at L;go_wp2_with fail
        refine L.o.mono ?_;rintro e w5 ⟨rfl,Z,h5,k5⟩;have C:=hid (z.o.keepI k5 ae.o);have aa:=hid h5;have ac:=hid (E.o.trans k5);clear h5 k5 z ae E L;go_wp2_with (at_builtin;refine Kn_ (.tmp 55) (.tmp 57) aa ac C aM rfl rfl rfl rfl oo ?_;intro A6 c6 w6 P ad af)
        replace C:=af;clear af;go_wp2;go_roundw
        case rel=>exact⟨M,ks++[kc],_,Z,A6,c6,by rw[aE],aA,a3,ay,ax,av,by rw[aE];exact C,P,ad⟩
        case measure=>exact ZA_ hi bd.o P.o (Y.o.weak (i':=1) (j':=0) oo oo)
   ·rw[if_neg (by rw[B];decide)];rw[B,Zj_ B]at T3;unfold VH_;dsimp only;have X:=hid (fun(row:ON) (W:World) h=>YK_ R.U hi 0 st row W h);generalize nmT R.sg st=tx at X |-
    generalize nmS R.sg st=an at X |-
    have HL:=hid (fun(row:ON) (W:World) h=>Wq_ R hi 0 N an row W h hN);generalize QF_ R.sg (Qi_ R.sg) ⟨#[41]⟩ N [] (Qk_ R.sg an ⟨#[40]⟩)=q at HL |-
    obtain⟨ks,bA⟩:=q;dsimp only at HL |-
    have HV:=hid (fun(U:Nat->Prop) (row:ON) (W:World) h=>HE.block U 0 (Qk_ R.sg bA ⟨#[41]⟩) row W h (UE_ hF _ oo) oo (QbV_ _));unfold PosS at HV;generalize Qd_ R.sg N F .block 0 (Qk_ R.sg bA ⟨#[41]⟩)=r at HV |-
    obtain⟨k,st2⟩:=r;dsimp only at HV |-
    clear hI g1 g2 B;go_enter func44,ntmps44;go_wp2_with fail
    refine(T1.o _ D.o).mono ?_;rintro e w1 ⟨rfl,h1⟩;have O:=hid (D.o.next h1);have V:=hid (az.o.below h1);clear h1;go_wp2_with fail
    refine pst (T2.o row w1 O.o) V ?_;intro w2 row2 j p;go_wp2_with fail
    refine pst (T3.o row2 w2 j.o) p ?_;intro w3 J o y;go_wp2_with fail
    refine pst (X.o J w3 o.o) y ?_;intro w4 K z E;go_wp2_with fail
    refine(HL.o K w4 z.o).mono ?_;rintro e w5 ⟨A,n,c,rfl,rfl,m5,b7,Z,h5,k5⟩;have bZ:=E.o.size;have bj:=hid (m5.more (B':=w.heap.size) bZ);have aa:=hid h5;have ac:=hid (E.o.trans k5);clear h5 k5 m5 HL;go_wp2_with fail
    refine(HV.o _ _ _ aa.o).mono ?_;rintro e w6 ⟨rfl,bx,h6,k6⟩;have C:=hid (aa.o.keepI k6 bj.o);have P:=hid h6;have ad:=hid (ac.o.trans k6);clear h6 k6 HV bj;go_wp2_with (at_builtin;refine Kn_ (.tmp 67) (.tmp 70) P ad C aM rfl rfl rfl rfl oo ?_;intro A7 c7 w7 bM bN bk)
    replace C:=bk;clear bk;have bc:=hid bM.o.unres;go_wp2_with fail
    refine(Ym_ R.U hi 0 st2 bx 20 tx A7 (ks.length+1) c7 (ks++[k]) w.heap.size w7 bc.o C.o aQ.o).mono ?_;rintro e w8 ⟨rfl,bz,h8,k8⟩;go_wp2;go_ret;exact⟨rfl,bz,h8,bN.o.trans k8⟩
end Go.Proofs.YtgbikafalcbibaaGreatDoor

/-
  Put together by program (shake.py):SpaH,SpaI,SpaJ,SpaK.
-/
import Derived.Test.YtgbikafalcbibaaGreatDoorMaP
set_option maxRecDepth 100000
set_option linter.all false
set_option maxHeartbeats 25600000
open Go.Lib (hid)
open Go.Proofs.Tryz
namespace Go.Proofs.YtgbikafalcbibaaGreatDoor
open Go.RowKit
def Deep (d:Nat) (st:RdSt):Prop:=∀s,st=some s->d<=20
theorem Deep.adv {d i j:Nat} {st st':RdSt} (h:Deep d st) (k:Adv i j st st'):Deep d st':=fun t e=>by
 obtain⟨s,e2,_,_⟩:=k t e;exact h s e2
theorem Deep.nest {d:Nat} {st:RdSt} (h:Deep d st):Deep (d+1) (Ks_ d st):=fun t e=>by
 unfold Ks_ at e;by_cases a:d=20
 ·rw[if_pos a]at e;cases e
 ·rw[if_neg a]at e;have:=h t e;omega
abbrev PosS (R:RC) (U:Nat->Prop) (d:Nat) (row:ON) (w:World) (r:PR) (e:Ending) (w':World):Prop:=
 e=.returned (.int .i64 r.1)/\∃row',RdI { R with U:=U } d r.2 row' w'/\Kr R.T row w row' w'
structure SC (R:RC) (N f:Nat):Prop where
 value:∀(U:Nat->Prop) (d:Nat) (st:RdSt) (row:ON) (w:World),RdI { R with U:=U } d st row w->Need R.n st 11 f->d+f<=100000->Deep d st->Calls prog 105 #[.pointer (some ⟨R.T,0,none⟩)] w (PosS R U d row w (Qd_ R.sg N f .value d st))
 pick:∀(U:Nat->Prop) (d:Nat) (st:RdSt) (row:ON) (w:World),RdI { R with U:=U } d st row w->Need R.n st 10 f->d+f<=100000->Deep d st->Calls prog 133 #[.pointer (some ⟨R.T,0,none⟩)] w (PosS R U d row w (Qd_ R.sg N f .pick d st))
 chain:∀(U:Nat->Prop) (l d:Nat) (st:RdSt) (row:ON) (w:World),RdI { R with U:=U } d st row w->l<=6->Need R.n st (9 - l) f->d+f<=100000->Deep d st->Calls prog 168 #[.pointer (some ⟨R.T,0,none⟩),.int .i64 l] w (PosS R U d row w (Qd_ R.sg N f (.chain l) d st))
 end_:∀(U:Nat->Prop) (d:Nat) (st:RdSt) (row:ON) (w:World),RdI { R with U:=U } d st row w->Need R.n st 2 f->d+f<=100000->Deep d st->Calls prog 206 #[.pointer (some ⟨R.T,0,none⟩)] w (PosS R U d row w (Qd_ R.sg N f .end_ d st))
 base:∀(U:Nat->Prop) (d:Nat) (st:RdSt) (row:ON) (w:World),RdI { R with U:=U } d st row w->Need R.n st 1 f->d+f<=100000->Deep d st->Calls prog 234 #[.pointer (some ⟨R.T,0,none⟩)] w (PosS R U d row w (Qd_ R.sg N f .base d st))
 step:∀(U:Nat->Prop) (d:Nat) (st:RdSt) (row:ON) (w:World),RdI { R with U:=U } d st row w->Need R.n st 12 f->d+f<=100000->Deep d st->Calls prog 106 #[.pointer (some ⟨R.T,0,none⟩)] w (PosS R U d row w (Qd_ R.sg N f (.stmt false) d st))
 block:∀(U:Nat->Prop) (d:Nat) (st:RdSt) (row:ON) (w:World),RdI { R with U:=U } d st row w->Need R.n st 13 f->d+f<=100000->Deep d st->Calls prog 78 #[.pointer (some ⟨R.T,0,none⟩)] w (PosS R U d row w (Qd_ R.sg N f .block d st))
theorem SC.one {R:RC} {N f:Nat} (h:SC R N f) {d r:Nat} (hd:d+f<=100000) {s:PS} (hn:Need R.n (some s) r (f+1)) (c:s.at_ < R.n) (a:d<=20):QdC_ R 105 d (s.at_+1) (Qd_ R.sg N f .value d):=
 fun U st row w hI b=>h.value U d st row w hI (by
  have h2:=hn.2 s rfl;refine⟨oo,fun t e=>?_⟩;have:=b t e;have:R.n - t.at_<=R.n - s.at_ - 1:=oo;omega) hd (fun _ _=>a)
theorem Jb_ {R:RC} {U:Nat->Prop} {d:Nat} {st:RdSt} {row:ON} {w:World} (hi:R.imp=false) (h:RdI { R with U:=U } (d+1) st row w):
  w.cell? ⟨R.T,3,none⟩=some (.int .i64 ((d:Int)+1))/\(∀i,w.frozen? ⟨R.T,i,none⟩=false)/\R.T < w.heap.size/\RdI { R with U:=U } d st row (w.setCell ⟨R.T,3,none⟩ (.int .i64 d))/\Kr R.T row w row (w.setCell ⟨R.T,3,none⟩ (.int .i64 d)):=by
 obtain⟨a,b,AN,cN,l,hc,hst,hrow⟩:=h;obtain⟨c1,c2,c3,cf,cz⟩:=hc.csu _ hi;have hF:=RdI.snest1 (R:={ R with U:=U }) hi hc hst hrow (u:=(d:Int)) (d':=d) rfl;exact⟨by rw[c3];simp,cf,cz,hF.1,hF.2⟩
theorem Qf0_ {R:RC} {d:Nat} {s:PS} {row:ON} {w:World} (hi:R.imp=false) (h:RdI R d (some s) row w) (hd:d < 20):
  RdI R (d+1) (Ks_ d (some s)) row (w.setCell ⟨R.T,3,none⟩ (.int .i64 ((d:Int)+1)))/\Kr R.T row w row (w.setCell ⟨R.T,3,none⟩ (.int .i64 ((d:Int)+1))):=by
 obtain⟨a,b,AN,cN,l,hc,e,c⟩:=h;unfold Ks_;rw[if_neg oo];exact RdI.snest1 hi hc e c oo
theorem Qen_ {R:RC} {st:RdSt} {row:ON} {w:World} (hi:R.imp=false) (h:RdI R 20 st row w):
  RdI R 21 none row ((w.setCell ⟨R.T,3,none⟩ (.int .i64 21)).setCell ⟨R.T,2,none⟩ (.bool true))/\Kr R.T row w row ((w.setCell ⟨R.T,3,none⟩ (.int .i64 21)).setCell ⟨R.T,2,none⟩ (.bool true)):=by
 obtain⟨a,b,AN,cN,l,hc,f,d⟩:=h;have hF:=RdI.snest1 hi hc f d (u:=21) (d':=21) (by rfl);obtain⟨a',b',i,j,l',e,g,c⟩:=hF.1;have hG:=RdI.sbad1 hi e c;exact⟨hG.1,hF.2.trans hG.2⟩
theorem Qbj_ (R:RC) (hi:R.imp=false) (N f:Nat) (HE:SC R N f) (d:Nat) (st:RdSt) (row:ON) (w:World) (S:RdI R d st row w) (hn:Need R.n st 10 (f+1)) (hd:d+(f+1)<=100000) (D:Deep d st):
  Calls prog 133 #[.pointer (some ⟨R.T,0,none⟩)] w (PosS R R.U d row w (Vf_ R.sg (Qd_ R.sg N f) d st)):=by
 have ar:=hid S;have aA:=hid (Kr.refl R.T row w);unfold PosS
 cases st with
 |none=>
  have hz:Vf_ R.sg (Qd_ R.sg N f) d none=(0,none):=GS_ (N:=N) (fun m d=>Xt_ f m d) .pick d;rw[hz];obtain⟨a,b,AN,cN,l,hc,hb,F⟩:=S;obtain⟨c0,c1,c2,O,c4,X,Y⟩:=hc.cs hi;obtain rfl:b=true:=hb;clear hc F c0 c1 O c4 hz;go_enter func133,ntmps133;go_wp2;go_ret;exact⟨rfl,row,ar.o,aA.o⟩
 |some s=>
  have ad:=hn.same (r':=9) oo (Xn_ d (some s));have HC:=hid (fun(row:ON) (W:World) (h:RdI R (d+1) (Ks_ d (some s)) row W)=>HE.chain R.U 0 (d+1) (Ks_ d (some s)) row W h oo ad oo D.nest);have g:=(Xn_ d (some s)).trans (Qy_ (sg:=R.sg) (N:=N) f (.chain 0) (d+1) (Ks_ d (some s)));have j:=Qy_ (sg:=R.sg) (N:=N) f (.chain 0) (d+1) (Ks_ d (some s));have ab:=D.nest;have aj:∀(d':Nat) (row:ON) (W:World) (t:PS),RdI R d' (some t) row W->t.at_<=R.n:=fun d' row W t h=>(h.le rfl).1
  have T:=S.ok.len;have aP:=D s rfl;obtain⟨a,b,AN,cN,l,hc,hb,F⟩:=id S;obtain⟨c0,c1,c2,O,c4,X,Y⟩:=hc.cs hi;obtain⟨rfl,_,_⟩:=hb;clear hc F c0 c1 c4
  -- the reader one deeper
  have z:Hid ((d < 20->RdI R (d+1) (Ks_ d (some s)) row (w.setCell ⟨R.T,3,none⟩ (.int .i64 ((d:Int)+1)))/\Kr R.T row w row (w.setCell ⟨R.T,3,none⟩ (.int .i64 ((d:Int)+1))))/\(d=20->RdI R 21 none row ((w.setCell ⟨R.T,3,none⟩ (.int .i64 21)).setCell ⟨R.T,2,none⟩ (.bool true))/\Kr R.T row w row ((w.setCell ⟨R.T,3,none⟩ (.int .i64 21)).setCell ⟨R.T,2,none⟩ (.bool true)))):=
   (show _/\_ from⟨fun h=>Qf0_ hi S h,fun h=>by subst h;exact Qen_ hi S⟩)
  have x:d=20->Ks_ d (some s)=none:=fun e=>if_pos e
  unfold PosS at HC;unfold Vf_;dsimp only;generalize Z:Ks_ d (some s)=aO at *;generalize Qd_ R.sg N f (.chain 0) (d+1) aO=r at HC g j |-
  obtain⟨k0,i⟩:=r;dsimp only at HC g j |-
  have v:=hid x;rcases bft (isM R.sg i ⟨#[63]⟩)with G|G
  ·rw[if_pos G];have al:=Qv_ G;obtain⟨t,et,aL⟩:=Xb_ G;obtain⟨s',es,ha,_⟩:=g t et;obtain rfl:=Option.some.inj es;have am:s.at_ < R.n:=oo;have aa:=ab.adv (j.trans (Qh_ i));have I:=hid (fun(row:ON) (W:World) (h:RdI R (d+1) (Qe_ i) row W)=>HE.pick R.U (d+1) (Qe_ i) row W h (hn.next am (g.trans (Qh_ _)) oo) oo aa);have k:=(g.trans (Qh_ i)).trans (Qy_ (sg:=R.sg) (N:=N) f .pick (d+1) (Qe_ i));have L:=aa.adv (Qy_ (sg:=R.sg) (N:=N) f .pick (d+1) (Qe_ i));unfold PosS at I;generalize Qd_ R.sg N f .pick (d+1) (Qe_ i)=r2 at I k L |-
   obtain⟨k1,st2⟩:=r2;dsimp only at I k L |-
   have J:=hid (fun(row:ON) (W:World) (h:RdI R (d+1) (Qk_ R.sg st2 ⟨#[58]⟩) row W)=>HE.pick R.U (d+1) (Qk_ R.sg st2 ⟨#[58]⟩) row W h (hn.next am (k.trans (Qo_ _ _)) oo) oo (L.adv (Qo_ _ _)));unfold PosS at J;generalize Qd_ R.sg N f .pick (d+1) (Qk_ R.sg st2 ⟨#[58]⟩)=r3 at J |-
   obtain⟨k2,aN⟩:=r3;dsimp only at J |-
   have K:=hid al;have H:=hid G
   -- too deep:nothing comes
   have q:d < 20:=by
    rcases Nat.lt_or_ge d 20 with h|h
    ·exact h
    ·have aI:d=20:=oo;have e1:=x aI;obtain⟨s2,e2,_⟩:=j t et;rw[e1]at e2
     cases e2
   have c:=hid (z.o.1 q);have E:¬(20:Int) < (d:Int)+1:=oo;have ai:decide ((20:Int) < (d:Int)+1)=false:=decide_eq_false E;have aM:IntKind.i64.wrap ((d:Int)+1)=(d:Int)+1:=IntWalk.i64_in _ oo;clear S hn g k aj T G al et ha aL ad x v z aa L D ab j Z;go_enter func133,ntmps133;go_wp2_with fail
   refine(HC.o _ _ c.o.1).mono ?_;rintro e w2 ⟨rfl,row2,P,p⟩;have A:=hid P;have B:=hid (c.o.2.trans p);clear P p c2 O X Y c;go_wp2_with fail
   refine(JS_ R hi (d+1) i row2 ⟨#[63]⟩ w2 A.o).mono ?_;rw[H.o,K.o];rintro e w3 ⟨rfl,y,Q,V⟩;have C:=QQ_ B V;have av:=hid Q;clear Q V;go_wp2_with fail
   refine pst (I.o _ _ av.o) C ?_;intro w4 an ax aB;go_wp2_with fail
   refine pst (KA_ R hi (d+1) st2 an ⟨#[58]⟩ w4 ax.o) aB ?_;intro w5 aQ ay aC;go_wp2_with fail
   refine pst (J.o _ _ ay.o) aC ?_;intro w6 ao af aD;have ag:=hid af.o.lo;go_wp2_with fail
   refine pst (Ym_ R.U hi (d+1) aN ao 8 noT (some ⟨w6.heap.size,0,none⟩) 3 3 [k0,k1,k2] w6.heap.size _ (af.o.alloc _) (kid3 w6 k0 k1 k2) ag.o) aD ?_;intro w7 ap az aE;obtain⟨O,X,Y,n,o⟩:=Jb_ hi az.o;have M:=hid (And.intro n (aE.o.trans o));clear n o;go_wp2;go_ret;exact⟨rfl,ap,M.o.1,M.o.2⟩
  ·rw[if_neg (by rw[G];decide)];have K:=hid (QC_ G);have H:=hid G;clear S hn g aj T G ad D ab j x;rcases Nat.lt_or_ge d 20 with q|ac
   ·have c:=hid (z.o.1 q);have E:¬(20:Int) < (d:Int)+1:=oo;have ai:decide ((20:Int) < (d:Int)+1)=false:=decide_eq_false E;have aM:IntKind.i64.wrap ((d:Int)+1)=(d:Int)+1:=IntWalk.i64_in _ oo;clear v z Z;go_enter func133,ntmps133;go_wp2_with fail
    refine(HC.o _ _ c.o.1).mono ?_;rintro e w2 ⟨rfl,row2,P,p⟩;have A:=hid P;have B:=hid (c.o.2.trans p);clear P p c2 O X Y c;go_wp2_with fail
    refine(JS_ R hi (d+1) i row2 ⟨#[63]⟩ w2 A.o).mono ?_;rw[H.o,K.o];rintro e w3 ⟨rfl,y,Q,V⟩;have C:=QQ_ B V;obtain⟨O,X,Y,n,o⟩:=Jb_ (U:=R.U) hi Q;have M:=hid (And.intro n (C.o.trans o));clear Q V n o;go_wp2;go_ret;exact⟨rfl,y,M.o.1,M.o.2⟩
   ·obtain rfl:d=20:=oo;have c:=hid (z.o.2 rfl);have e0:=v.o rfl;subst e0;clear v z Z ac;go_enter func133,ntmps133;go_wp2_with fail
    refine(HC.o _ _ c.o.1).mono ?_;rintro e w2 ⟨rfl,row2,P,p⟩;have A:=hid P;have B:=hid (c.o.2.trans p);clear P p c2 O X Y c;go_wp2_with fail
    refine(JS_ R hi (20+1) i row2 ⟨#[63]⟩ w2 A.o).mono ?_;rw[H.o,K.o];rintro e w3 ⟨rfl,y,Q,V⟩;have C:=QQ_ B V;obtain⟨O,X,Y,n,o⟩:=Jb_ (U:=R.U) hi Q;have M:=hid (And.intro n (C.o.trans o));clear Q V n o;go_wp2;go_ret;exact⟨rfl,y,M.o.1,M.o.2⟩
section
variable {R:RC} (U:Nat->Prop) (hi:R.imp=false) (d lo:Nat) (one:RdSt->PR) (HO:Hid (QdC_ R 105 d lo one)) (h1:∀st,Adv 1 1 st (one st).2) (m:BA) (N:Nat) (st:RdSt) (row:ON) (w:World)
 (hI:RdI { R with U:=U } d st row w) (hlo:LoB lo st) (hN:R.n < N)
include hi HO h1 hI hlo hN
theorem Qdt_ (k:Int):Calls prog 134 #[.pointer (some ⟨R.T,0,none⟩),.string m,.slice (some ⟨w.heap.size,0,none⟩) 1 1] (w.alloc (.cells #[.int .i64 k] 3)) fun e w'=>∃(A:OA) (n c:Nat),e=.returned (.slice A n c)/\Mine w' w.heap.size 3 1 A n c (Qa_ (k::(QF_ R.sg one m N [] st).1))/\∃row',RdI { R with U:=U } d (Qk_ R.sg (QF_ R.sg one m N [] st).2 m) row' w'/\Kr R.T row w row' w':=by
 refine(zX_ { R with U:=U } hi d lo one HO h1 m N st row row (w.alloc (.cells #[.int .i64 k] 3)) w [k] (some ⟨w.heap.size,0,none⟩) 1 (hI.res_new bra (fun g hg=>by simp at hg;subst hg;simp)) (GZ_ w k) (Kr.of_below bra) hI.lo.1 (by simp) hlo (QL_ hN _)).mono ?_;rintro e w' ⟨A,n,c,rfl,_,hm,_,row',h,k'⟩;exact⟨A,n,c,rfl,hm,row',h.unres,k'⟩
theorem Qgv_:Calls prog 134 #[.pointer (some ⟨R.T,0,none⟩),.string m,.slice (some ⟨w.heap.size,0,none⟩) 0 0] (w.alloc (.cells #[] 3)) fun e w'=>∃(A:OA) (n c:Nat),e=.returned (.slice A n c)/\Mine w' w.heap.size 3 1 A n c (Qa_ (QF_ R.sg one m N [] st).1)/\∃row',RdI { R with U:=U } d (Qk_ R.sg (QF_ R.sg one m N [] st).2 m) row' w'/\Kr R.T row w row' w':=by
 refine(zX_ { R with U:=U } hi d lo one HO h1 m N st row row (w.alloc (.cells #[] 3)) w [] (some ⟨w.heap.size,0,none⟩) 0 (hI.res_new bra (fun g hg=>by simp at hg;subst hg;simp)) (q5_ w) (Kr.of_below bra) hI.lo.1 (by simp) hlo (QL_ hN _)).mono ?_;rintro e w' ⟨A,n,c,rfl,_,hm,_,row',h,k'⟩;exact⟨A,n,c,rfl,hm,row',h.unres,k'⟩
end
theorem vg_ {sg:List SgP} (one:RdSt->PR) (N:Nat) (k:Int) (st:RdSt):KC_ (Qk_ sg (QF_ sg one ⟨#[41]⟩ N [] (Qk_ sg st ⟨#[40]⟩)).2 ⟨#[41]⟩) ⟨5,noT,k::(QF_ sg one ⟨#[41]⟩ N [] (Qk_ sg st ⟨#[40]⟩)).1,false⟩=Yc_ sg one N k st:=rfl
theorem jO_ (R:RC) (hi:R.imp=false) (N f:Nat) (hN:R.n < N) (HE:SC R N f) (d:Nat) (st:RdSt) (row:ON) (w:World) (hI:RdI R d st row w) (hn:Need R.n st 11 (f+1)) (hd:d+(f+1)<=100000) (L:Deep d st):
  Calls prog 105 #[.pointer (some ⟨R.T,0,none⟩)] w (Does R d row w (.int .i64 (Xg_ R.sg (Qd_ R.sg N f) N d st).1) (Xg_ R.sg (Qd_ R.sg N f) N d st).2):=by
 have bb:=hid hI;have ae:=hid (Kr.refl R.T row w);have aG:=hid hI.lo;have am:=hn.same (r':=10) oo (Adv.refl st);have HP:=hid (HE.pick R.U d st row w hI am oo L);have j:=Qy_ (sg:=R.sg) (N:=N) f .pick d st;have h1:∀st,Adv 1 1 st (Qd_ R.sg N f .value d st).2:=fun st=>Qy_ f .value d st
 have V:=hI.ok.len;unfold PosS at HP;unfold Does;unfold Xg_;generalize Qd_ R.sg N f .pick d st=r at HP j |-
 obtain⟨k0,l⟩:=r;dsimp only at HP j |-
 rcases bft (isM R.sg l ⟨#[46,46]⟩)with b|b
 ·rw[if_pos b];obtain⟨t,et,bk⟩:=Xb_ b;obtain⟨s,es,ha,bl⟩:=j t et;subst es;have bn:s.at_ < R.n:=oo;have HO:=hid (HE.one (d:=d) oo hn bn (L s rfl));have HA:=hid h1;have aj:=hid b;have q:Hid (LoB (s.at_+1) l):=(show LoB _ _ from fun t' e=>by rw[et]at e;obtain rfl:=Option.some.inj e;omega);have P:Hid (KidB [k0] l):=(show KidB _ _ from⟨by simp,fun t' e=>by rw[et]at e;obtain rfl:=Option.some.inj e;simp;omega⟩);obtain⟨Q,hQ⟩:=ex_ (YS_ R.sg (Qd_ R.sg N f .value d) N N [k0] l);rw[hQ];have U:=hid hQ;generalize Qd_ R.sg N f .value d=one at HO HA U;obtain⟨i0,aP,aS,aT,an⟩:=info_parts QB_;have E:=hid (And.intro aP (And.intro aS (And.intro aT an)));clear aP aS aT an hI hn j V b et ha bk am hQ h1 bl L;go_enter func105,ntmps105;go_wp2_with fail
  refine pst (HP.o) ae ?_;intro w1 k n F;go_wp2_with fail
  refine(GM_ R hi d l k 4 (by decide) ⟨#[46,46]⟩ w1 n.o).mono ?_;rw[JL_,aj.o];rintro e w2 ⟨rfl,h2⟩;have ay:=hid (n.o.next h2);have af:=hid (F.o.below h2);clear h2;go_upto_region 5 with fail
  have an:=af.o.size;have ai:=hid ((GZ_ w2 k0).more (B':=w.heap.size) oo);have ab:=hid (ay.o.res_new (A:=some ⟨w2.heap.size,0,none⟩) (br.alloc (Nat.le_refl _) (.cells #[.int .i64 k0] 3)) (fun g hg=>by simp at hg;subst hg;simp));have ag:=hid (af.o.below (br.alloc (Nat.le_refl _) (.cells #[.int .i64 k0] 3)));generalize w2.alloc (.cells #[.int .i64 k0] 3)=w3 at ai ab ag |-
  go_loopw [4] (fun v wr=>∃(M:Nat) (ks:LI) (st':RdSt) (row':ON) (A:OA) (c:Nat),v=.slice A ks.length c/\Hid (YS_ R.sg one N M ks st'=Q)/\Hid (LoB (s.at_+1) st')/\Hid (Enough R.n M st')/\Hid (KidB ks st')/\Hid (Mine wr w.heap.size 3 1 A ks.length c (Qa_ ks))/\Hid (RdI (R.res A) d st' row' wr)/\Hid (Kr R.T row w row' wr)) (fun _ wr=>V9_ R wr)
  case atStart=>exact⟨N,[k0],l,k,_,1,rfl,U,q,(show Enough _ _ _ from QL_ hN _),P,ai,ab,ag⟩
  case round=>
   clear U q bb n ay ab ae F af ag ai P HP;obtain⟨M,ks,st',row',A,c,rfl,U,q,ax,aF,HM,HI,HK⟩:=hrel;have HS:=hid (XX_ _ hi d st' row' ⟨#[46,46]⟩ wr HI.o);rcases bft (isM R.sg st' ⟨#[46,46]⟩)with b|b
   ·obtain⟨o,bi,aR⟩:=Xb_ b;subst bi;obtain⟨M,rfl⟩:∃M',M=M'+1:=⟨M - 1,by
     have h1:=ax.o o rfl;have h2:=(HI.o.le rfl).1;have:(R.res A).n=R.n:=rfl;omega⟩
    rw[b,Qv_ b]at HS;have m:=U.o;unfold YS_ at m;rw[if_pos b]at m;have a:=((Qh_ (some o)).trans (QS_ (sg:=R.sg) _)).trans (Vn_ (sg:=R.sg) HA.o N (Qi_ R.sg (Qe_ (some o))).1 (Qi_ R.sg (Qe_ (some o))).2);have h:=(Qh_ (some o)).trans (QS_ (sg:=R.sg) (Qe_ (some o)));have Y:=hid (Ja_ (sg:=R.sg) (Qe_ (some o)));generalize Qi_ R.sg (Qe_ (some o))=r2 at m a h Y;obtain⟨nm,st2⟩:=r2;dsimp only at m a h;have Z:=hid (vg_ (sg:=R.sg) one N nm st2);generalize Yc_ R.sg one N nm st2=r3 at m a Z;obtain⟨kc,O⟩:=r3;dsimp only at m a;have bh:=hid m;have a6:=hid a;have bC:=(HI.o.le rfl).2;have bA:=aF.o.2 o rfl;have bB:=aF.o.1;have a7:Hid (KidB (ks++[kc]) O):=(show KidB _ _ from⟨by rw[lA];simp;omega,fun t e=>by
     obtain⟨bE,e2,_,h3⟩:=a t e;obtain rfl:=Option.some.inj e2;rw[lA];simp;omega⟩)
    have a9:Hid (Enough R.n M O):=ax.o.adv (i:=2) a;have a8:Hid (LoB (s.at_+1) O):=q.o.adv a;have be:Hid (LoB (s.at_+1) (Qk_ R.sg st2 ⟨#[40]⟩)):=(q.o.adv h).adv (Qo_ _ _);have aQ:(ks++[kc]).length=ks.length+1:=(by simp);clear m b U a h aR;go_wp2_with fail
    refine HS.o.mono ?_;rintro e w4 ⟨rfl,z,h4,k4⟩;have H:=hid (HI.o.keepI k4 HM.o);have p:=hid h4;have G:=hid (HK.o.trans k4);clear h4 k4 HS;go_wp2_with fail
    refine(YK_ _ hi d (Qe_ (some o)) z w4 p.o).mono ?_;rintro e w5 ⟨rfl,B,h5,k5⟩;have aH:=hid (p.o.keepI k5 H.o);have C:=hid h5;have aB:=hid (G.o.trans k5);have S:=hid C.o.lo;clear h5 k5 H p G;have J:=hid (Ym_ (fun x=>R.U x\/A.map (·.block)=some x) hi d (nmS R.sg (Qe_ (some o))) B 1 (nmT R.sg (Qe_ (some o))) _ 0 0 [] w5.heap.size (w5.alloc (.cells #[] 3)) (C.o.next bra) (q5_ w5) S.o);rw[Y.o]at J;dsimp only at J;go_wp2_with fail
    refine J.o.mono ?_;rintro e w6 ⟨rfl,aX,h6,k6⟩;have aI:=Vq_ C k6 aH;have aC:=QQ_ aB k6;have ac:=hid h6;clear h6 k6 J aH C aB Y S;go_wp2_with fail
    refine(X8_ _ hi d st2 aX ⟨#[40]⟩ w6 ac.o).mono ?_;rintro e w7 ⟨rfl,aY,h7,k7⟩;have aJ:=hid (ac.o.keepI k7 aI.o);have D:=hid h7;have aD:=hid (aC.o.trans k7);have T:=hid D.o.lo;clear h7 k7 aI ac aC;go_wp2_with fail
    refine(Qdt_ _ hi d (s.at_+1) one HO HA.o ⟨#[41]⟩ N _ aY w7 D.o be.o hN nm).mono ?_;rintro e w8 ⟨A8,n8,c8,rfl,m8,aZ,h8,k8⟩;have aK:=hid (D.o.keepI k8 aJ.o);have aL:=hid m8;have ad:=hid h8;have aE:=hid (aD.o.trans k8);clear h8 k8 m8 aJ D aD;have K:=hid (Ym_ (fun x=>R.U x\/A.map (·.block)=some x) hi d _ aZ 5 noT A8 n8 c8 _ w7.heap.size w8 ad.o aL.o T.o);rw[Z.o]at K;dsimp only at K;go_wp2_with fail
    refine K.o.mono ?_;rintro e w9 ⟨rfl,a0,h9,k9⟩;have I:=hid (ad.o.keepI k9 aK.o);have az:=hid h9;have ah:=hid (aE.o.trans k9);clear h9 k9 K aK ad aE aL Z T;have bD:=ah.o.size;have ba:=hid aG.o.1;go_wp2_with (at_builtin;(refine Qf_ _ rfl (.tmp 28) (.tmp 32) _ rfl w.heap.size 3 i0 (.int .i64 0) 1 8 underlying34 E.o.1 E.o.2.1 E.o.2.2.1 E.o.2.2.2 rfl (by decide) (.slice A ks.length c) ks.length (Qa_ ks) rfl (Mine.alloc I.o _) ⟨w9.heap.size,0,none⟩ 1 1 [.int .i64 kc] rfl rfl (Kq_ _ kc _) (Kr_ _) (by unfold maxLen;omega) oo (by simp;omega) ?_);intro v' wA y al X;obtain⟨A7,c7,rfl,h7,m7⟩:=RdI.appended az.o I.o ba.o bra y al X)
    have bd:=hid ((ah.o.below bra).grown al (fun g hg=>by rw[Qw_]at hg;exact(Mine.blk I.o hg).1));rw[<-QO_]at m7;have aA:=hid h7;have bg:=hid m7;clear y al X h7 m7 az I ah;go_wp2;go_roundw
    case rel=>exact⟨M,ks++[kc],O,a0,A7,c7,by rw[aQ],bh,a8,a9,a7,by rw[aQ];exact bg,aA,bd⟩
    case measure=>exact ZA_ hi HI.o aA.o (a6.o.weak (i':=1) (j':=0) oo oo)
   ·rw[b,QC_ b]at HS;have m:=U.o;have bm:Q=(ks,st'):=by
     cases M with
     |zero=>exact m.symm
     |succ M=>unfold YS_ at m;rw[b,if_neg (by decide)]at m;exact m.symm
    subst bm;clear U m b;go_wp2_with fail
    refine HS.o.mono ?_;rintro e w4 ⟨rfl,z,h4,k4⟩;have H:=hid (HI.o.keepI k4 HM.o);have p:=hid h4.unres;have G:=hid (HK.o.trans k4);clear h4 k4 HS HM HI HK;go_wp2_with fail
    refine(Ym_ R.U hi d st' z 10 noT A ks.length c ks w.heap.size w4 p.o H.o aG.o).mono ?_;rintro e w5 ⟨rfl,B,h5,k5⟩;go_wp2;go_ret;exact⟨rfl,B,h5,G.o.trans k5⟩
 ·rw[if_neg (by rw[b];decide)];have aj:=hid b;clear hI hn j V b am h1 L;go_enter func105,ntmps105;go_wp2_with fail
  refine pst (HP.o) ae ?_;intro w1 k n F;go_wp2_with fail
  refine(GM_ R hi d l k 4 (by decide) ⟨#[46,46]⟩ w1 n.o).mono ?_;rw[JL_,aj.o];rintro e w2 ⟨rfl,h2⟩;go_wp2;go_ret;exact⟨rfl,k,n.o.next h2,F.o.below h2⟩
theorem Qfk_ {sg:List SgP} (one:RdSt->PR) (N n:Nat) (k:Int) (s:PS) (h1:isM sg (some s) ⟨#[40]⟩=false) (h2:isM sg (some s) ⟨#[46]⟩=true):
  W1_ sg one N (n+1) k (some s)=W1_ sg one N n (KC_ (nmS sg (Qe_ (some s))) ⟨6,nmT sg (Qe_ (some s)),[k],false⟩).1 (KC_ (nmS sg (Qe_ (some s))) ⟨6,nmT sg (Qe_ (some s)),[k],false⟩).2:=by
 rw[W1_,if_neg (show ¬(some s).isNone=true by simp),if_neg (by rw[h1];decide),if_pos h2];unfold nmS nmT;by_cases a:Kd_ sg (Qe_ (some s)) 0=true
 ·rw[if_pos a,if_pos a,if_pos a,Vm_ (Qe_ (some s))]
 ·rw[if_neg a,if_neg a,if_neg a,Z6_,YY_]
theorem QcY_ (R:RC) (hi:R.imp=false) (N f:Nat) (hN:R.n < N) (HE:SC R N f) (d:Nat) (st:RdSt) (row:ON) (w:World) (hI:RdI R d st row w) (hn:Need R.n st 2 (f+1)) (hd:d+(f+1)<=100000) (ah:Deep d st):
  Calls prog 206 #[.pointer (some ⟨R.T,0,none⟩)] w (Does R d row w (.int .i64 (endS R.sg (Qd_ R.sg N f) N d st).1) (endS R.sg (Qd_ R.sg N f) N d st).2):=by
 have aH:=hid hI;have al:=hid (Kr.refl R.T row w);have av:=hn.same (r':=1) oo (Adv.refl st);have HP:=hid (HE.base R.U d st row w hI av oo ah);have t:=Qy_ (sg:=R.sg) (N:=N) f .base d st;have HA:=hid (fun st=>Qy_ (sg:=R.sg) (N:=N) f .value d st);have aZ:=hI.ok.len;unfold PosS at HP;unfold Does;unfold endS;generalize Qd_ R.sg N f .base d st=r at HP t |-
 obtain⟨k0,aA⟩:=r;dsimp only at HP t |-
 have HO:Hid (∀s,st=some s->s.at_ < R.n->QdC_ R 105 d (s.at_+1) (Qd_ R.sg N f .value d)):=(show ∀s,_->_->_ from fun s e aS=>HE.one (d:=d) oo (by rw[<-e];exact hn) aS (ah s e));have O:=hid t;obtain⟨Q,hQ⟩:=ex_ (W1_ R.sg (Qd_ R.sg N f .value d) N N k0 aA);rw[hQ];have x:=hid hQ;generalize Qd_ R.sg N f .value d=one at HO HA x;clear hI hn t av hQ ah;go_enter func206,ntmps206;go_wp2_with fail
 refine pst (HP.o) al ?_;intro w1 ay aj am;go_upto_region 2 with fail
 go_loopw [3] (fun v wr=>∃(M:Nat) (k:Int) (st':RdSt) (row':ON),v=.int .i64 k/\Hid (W1_ R.sg one N M k st'=Q)/\Hid (Adv 1 1 st st')/\Hid (Enough R.n M st')/\Hid (RdI R d st' row' wr)/\Hid (Kr R.T row w row' wr)) (fun _ wr=>V9_ R wr)
 case atStart=>exact⟨N,k0,aA,ay,rfl,x,O,(show Enough _ _ _ from QL_ hN _),aj,am⟩
 case round=>
  clear x O aH aj al am HP;obtain⟨M,k,st',row',rfl,x,X,ab,P,HK⟩:=hrel
  cases st' with
  |none=>
   obtain⟨a,b,AN,cN,l,hc,hb,G⟩:=P.o;obtain⟨c0,c1,c2,c3,c4,cf,cz⟩:=hc.cs hi;obtain rfl:b=true:=hb;have o:=x.o;rw[YY_]at o;subst o;clear hc c0 c1 c3 c4 G x;go_wp2;go_ret;exact⟨rfl,row',P.o,HK.o⟩
  |some j=>
   obtain⟨s,es,ha,aU⟩:=X.o j rfl;obtain⟨M,rfl⟩:∃M',M=M'+1:=⟨M - 1,by
    have h1:=ab.o j rfl;have I:=(P.o.le rfl).1;omega⟩
   have aY:=(P.o.le rfl).1;have aL:=hid (HO.o s es oo);have aK:Hid (LoB (s.at_+1) (some j)):=(show LoB _ _ from fun t' e=>by obtain rfl:=Option.some.inj e;omega);obtain⟨a,b,AN,cN,l,hc,hb,G⟩:=P.o;obtain⟨c0,c1,c2,c3,c4,cf,cz⟩:=hc.cs hi;obtain⟨rfl,_,_⟩:=hb;have m:=hid (XX_ R.U hi d (some j) row' ⟨#[40]⟩ wr P.o);clear hc c0 c1 c3 c4 G es ha aU;rcases bft (isM R.sg (some j) ⟨#[40]⟩)with y|y
   ·rw[y,Qv_ y]at m;have o:=x.o;rw[W1_,if_neg (show ¬(some j).isNone=true by simp),if_pos y]at o;have g:=Vn_ (sg:=R.sg) HA.o N k (some j);have ag:=vg_ (sg:=R.sg) one N k (some j);rw[Zk_ y]at ag;have aa:=hid ag;generalize Yc_ R.sg one N k (some j)=r3 at o g aa;obtain⟨kc,q⟩:=r3;dsimp only at o g;have ae:=hid o;have z:=hid g;have Z:Hid (Enough R.n M q):=ab.o.adv (i:=0) g;have Y:Hid (Adv 1 1 st q):=(X.o.trans g).weak oo oo;have aJ:Hid (LoB (s.at_+1) (Qe_ (some j))):=aK.o.adv (Qh_ _);clear o y g ag x;go_wp2_with fail
    refine m.o.mono ?_;rintro e w2 ⟨rfl,row2,I,T⟩;have C:=hid I;have E:=hid (HK.o.trans T);have an:=hid I.lo;clear I T m c2 cf cz;go_wp2_with fail
    refine(Qdt_ R.U hi d (s.at_+1) one aL HA.o ⟨#[41]⟩ N _ row2 w2 C.o aJ.o hN k).mono ?_;rintro e w3 ⟨A3,n3,c3,rfl,m3,p,S,V⟩;have aM:=hid m3;have D:=hid S;have F:=hid (E.o.trans V);clear S V m3;have K:=hid (Ym_ R.U hi d _ p 5 noT A3 n3 c3 _ w2.heap.size w3 D.o aM.o an.o);rw[aa.o]at K;dsimp only at K;go_wp2_with fail
    refine K.o.mono ?_;rintro e w4 ⟨rfl,H,h4,k4⟩;have J:=hid h4;have ac:=hid (F.o.trans k4);clear h4 k4 K aa;go_wp2;go_roundw
    case rel=>exact⟨M,kc,q,H,rfl,ae,Y,Z,J,ac⟩
    case measure=>exact ZA_ (U:=R.U) (U':=R.U) hi P.o J.o (z.o.weak (i':=1) (j':=0) oo oo)
   ·rw[y,QC_ y]at m;rcases bft (isM R.sg (some j) ⟨#[46]⟩)with L|L
    ·have HS:=hid (fun(row:ON) (W:World) h=>XX_ R.U hi d (some j) row ⟨#[46]⟩ W h);rw[L,Qv_ L]at HS;have o:=x.o;rw[Qfk_ one N M k j y L]at o;have g:=((Qh_ (some j)).trans (Jm_ (sg:=R.sg) (Qe_ (some j)))).trans (Q5_ (nmS R.sg (Qe_ (some j))) ⟨6,nmT R.sg (Qe_ (some j)),[k],false⟩);have ad:=hid (fun(row:ON) (B:Nat) (W:World) (A:OA) (n c:Nat) h hm hB=>Ym_ R.U hi d (nmS R.sg (Qe_ (some j))) row 6 (nmT R.sg (Qe_ (some j))) A n c [k] B W h hm hB);generalize KC_ (nmS R.sg (Qe_ (some j))) ⟨6,nmT R.sg (Qe_ (some j)),[k],false⟩=r3 at o g ad;obtain⟨kc,q⟩:=r3;dsimp only at o g ad;have ae:=hid o;have z:=hid g;have Z:Hid (Enough R.n M q):=ab.o.adv (i:=1) g;have Y:Hid (Adv 1 1 st q):=(X.o.trans g).weak oo oo;clear o y L g x;go_wp2_with fail
     refine m.o.mono ?_;rintro e w2 ⟨rfl,row2,I,T⟩;have C:=hid I;have E:=hid (HK.o.trans T);clear I T m c2 cf cz;go_wp2_with fail
     refine(HS.o _ _ C.o).mono ?_;rintro e w3 ⟨rfl,p,S,V⟩;have D:=hid S;have F:=hid (E.o.trans V);clear S V HS;go_wp2_with fail
     refine(YK_ R.U hi d (Qe_ (some j)) p w3 D.o).mono ?_;rintro e w4 ⟨rfl,H,h4,k4⟩;have J:=hid h4;have ac:=hid (F.o.trans k4);have ao:=hid h4.lo;clear h4 k4;go_wp2_with fail
     refine pst (ad.o H w4.heap.size (w4.alloc (.cells #[.int .i64 k] 3)) (some ⟨w4.heap.size,0,none⟩) 1 1 (J.o.alloc _) (GZ_ w4 k) ao.o) ac ?_;intro w5 az ak aI;go_wp2;go_roundw
     case rel=>exact⟨M,kc,q,az,rfl,ae,Y,Z,ak,aI⟩
     case measure=>exact ZA_ (U:=R.U) (U':=R.U) hi P.o ak.o (z.o.weak (i':=1) (j':=0) oo oo)
    ·have HS:=hid (fun(row:ON) (W:World) h=>XX_ R.U hi d (some j) row ⟨#[46]⟩ W h);rw[L,QC_ L]at HS;have o:=x.o;rw[W1_,if_neg (show ¬(some j).isNone=true by simp),if_neg (by rw[y];decide),if_neg (by rw[L];decide)]at o;subst o;clear y L x;go_wp2_with fail
     refine m.o.mono ?_;rintro e w2 ⟨rfl,row2,I,T⟩;have C:=hid I;have E:=hid (HK.o.trans T);clear I T m c2 cf cz;go_wp2_with fail
     refine(HS.o _ _ C.o).mono ?_;rintro e w3 ⟨rfl,p,S,V⟩;have D:=hid S;have F:=hid (E.o.trans V);clear S V HS;go_wp2;go_ret;exact⟨rfl,p,D.o,F.o⟩
theorem Qd6_ {sg:List SgP} {st:RdSt} {m:BA} (h:isM sg st m=true):(Qu_ sg st 0).1=4:=by
 unfold isM at h;rw[Bool.and_eq_true]at h;exact eq_of_beq h.1
theorem QaU_ {sg:List SgP} {st:RdSt} (h:Kd_ sg st 0=true):(Qu_ sg st 0).1=1:=by
 unfold Kd_ at h;rw[Bool.and_eq_true]at h;exact eq_of_beq h.1
theorem z3_ {sg:List SgP} {st:RdSt} (h:xU_ sg st=true):isM sg st ⟨#[40]⟩=true:=by
 unfold xU_ at h;rw[Bool.and_eq_true]at h;exact h.1
theorem QfJ_ {sg:List SgP} {st:RdSt} {k:Int} (h:(Qu_ sg st 0).1=k) (hk:k≠4) (m:BA):isM sg st m=false:=by
 rcases bft (isM sg st m)with e|e
 ·exact absurd (h.symm.trans (Qd6_ e)) hk
 ·exact e
theorem vY_ {sg:List SgP} {N f:Nat} (hm:Xx_ sg) (d:Nat) (st:RdSt):Yx_ sg (Qd_ sg N f) N d st=
  if Kd_ sg st 0=true then Qi_ sg st else if ((Qu_ sg st 0).1==2)=true then YD_ sg 2 st else if ((Qu_ sg st 0).1==3)=true then YD_ sg 3 st
  else if isM sg st ⟨#[91]⟩=true then Qcs_ sg (Qd_ sg N f) N d st else if xU_ sg st=true then fnS sg (Qd_ sg N f) N d st else if isM sg st ⟨#[40]⟩=true then parS sg (Qd_ sg N f) d st else (0,none):=by
 unfold Yx_;by_cases h1:(Qu_ sg st 0).1=1
 ·rw[if_pos h1];by_cases k:Kd_ sg st 0=true
  ·rw[if_pos k]
  ·have j:∀m,isM sg st m=false:=fun m=>QfJ_ h1 (by decide) m
   rw[if_neg k,if_neg (by rw[h1];decide),if_neg (by rw[h1];decide),if_neg (by rw[j];decide),if_neg (fun e=>by have:=z3_ e;rw[j]at this;exact absurd this (by decide)),if_neg (by rw[j];decide)];unfold Qi_;rw[if_neg k]
 ·rw[if_neg h1,if_neg (fun e=>h1 (QaU_ e))];by_cases h:(Qu_ sg st 0).1=2
  ·rw[if_pos h,if_pos (by rw[h];decide)]
  ·rw[if_neg h,if_neg (fun e=>h (eq_of_beq e))];by_cases i:(Qu_ sg st 0).1=3
   ·rw[if_pos i,if_pos (by rw[i];decide)]
   ·rw[if_neg i,if_neg (fun e=>i (eq_of_beq e))];by_cases b:isM sg st ⟨#[91]⟩=true
    ·rw[if_pos b,if_pos b]
    ·rw[if_neg b,if_neg b];rcases bft (xU_ sg st)with g|g
     ·rw[if_pos g,if_pos (z3_ g)];rcases bft (fnB sg st)with c|c
      ·rw[if_pos c]
      ·rw[if_neg (by rw[c];decide)];obtain⟨e1,e2⟩:=vX_ (N:=N) (f:=f) hm d st g c;rw[e1,e2]
     ·rw[if_neg (show ¬xU_ sg st=true by rw[g];decide)];by_cases a:isM sg st ⟨#[40]⟩=true
      ·rw[if_pos a,if_pos a];rcases bft (fnB sg st)with c|c
       ·rw[QdQ_ hm st a c]at g;cases g
       ·rw[if_neg (by rw[c];decide)]
      ·rw[if_neg a,if_neg a]
theorem Qa6_ (R:RC) (hi:R.imp=false) (hm:Xx_ R.sg) (N f:Nat) (hN:R.n < N) (HE:SC R N f) (d:Nat) (st:RdSt) (row:ON) (w:World) (Z:RdI R d st row w) (hn:Need R.n st 1 (f+1)) (hd:d+(f+1)<=100000) (H:Deep d st):
  Calls prog 234 #[.pointer (some ⟨R.T,0,none⟩)] w (Does R d row w (.int .i64 (Yx_ R.sg (Qd_ R.sg N f) N d st).1) (Yx_ R.sg (Qd_ R.sg N f) N d st).2):=by
 have t:=hid Z;have L:=hid (Kr.refl R.T row w);unfold Does
 cases st with
 |none=>
  have hz:Yx_ R.sg (Qd_ R.sg N f) N d none=(0,none):=GS_ (N:=N) (fun m d=>Xt_ f m d) .base d;rw[hz];obtain⟨a,b,AN,cN,l,hc,hb,af⟩:=Z;obtain⟨c0,c1,c2,c3,c4,cf,cz⟩:=hc.cs hi;obtain rfl:b=true:=hb;clear hc af c0 c1 c3 c4 hz;go_enter func234,ntmps234;go_wp2;go_ret;exact⟨rfl,row,t.o,L.o⟩
 |some s=>
  obtain⟨a,b,AN,cN,l,hc,hb,af⟩:=id Z;obtain⟨c0,c1,c2,c3,c4,cf,cz⟩:=hc.cs hi;obtain⟨rfl,_,_⟩:=hb;clear hc af c0 c1 c3 c4;have D:=Z.ok.len;have a2:=H s rfl;rw[vY_ hm];have T1:=hid (fun(W:World) h=>kR_ R hi d (some s) row W h);rcases bft (Kd_ R.sg (some s) 0)with V|V
  ·-- a name
   rw[if_pos V];rw[V]at T1;have E:=hid (Ja_ (sg:=R.sg) (some s));generalize Qi_ R.sg (some s)=r at E |-
   obtain⟨k,st2⟩:=r;dsimp only;clear Z hn H V D;go_enter func234,ntmps234;go_wp2_with fail
   refine(T1.o _ t.o).mono ?_;rintro e w1 ⟨rfl,h1⟩;have i:=hid (t.o.next h1);have x:=hid (L.o.below h1);clear h1 c2 cf cz;go_wp2_with fail
   refine pst (YK_ R.U hi d (some s) row w1 i.o) x ?_;intro w2 row2 j y;have aS:=hid j.o.lo;have M:=hid (Ym_ R.U hi d (nmS R.sg (some s)) row2 1 (nmT R.sg (some s)) _ 0 0 [] w2.heap.size (w2.alloc (.cells #[] 3)) (j.o.next bra) (q5_ w2) aS.o);rw[E.o]at M;dsimp only at M;go_wp2_with fail
   refine pst (M.o) y ?_;intro w3 ag v z;go_wp2;go_ret;exact⟨rfl,ag,v.o,z.o⟩
  ·rw[if_neg (by rw[V];decide)];rw[V]at T1;have T2:=hid (fun(W:World) h=>Yj_ R hi d (some s) row 2 (by decide) (by decide) W h);rcases bft ((Qu_ R.sg (some s) 0).1==2)with X|X
   ·rw[if_pos X];rw[X]at T2;have X2:=hid (fun(W:World) h=>Vl_ R hi d (some s) row 2 (by decide) (by decide) W h (eq_of_beq X));unfold Does at X2;have E:=hid (Qcp_ (sg:=R.sg) 2 (some s));generalize YD_ R.sg 2 (some s)=r at E |-
    obtain⟨k,st2⟩:=r;generalize (Qu_ R.sg (some s) 0).2.1=tx at X2 E;dsimp only;clear Z hn H V X D;go_enter func234,ntmps234;go_wp2_with fail
    refine(T1.o _ t.o).mono ?_;rintro e w1 ⟨rfl,h1⟩;have i:=hid (t.o.next h1);have x:=hid (L.o.below h1);clear h1 c2 cf cz;go_wp2_with fail
    refine(T2.o _ i.o).mono ?_;rintro e w2 ⟨rfl,B⟩;have j:=hid (i.o.next B);have y:=hid (x.o.below B);clear B;go_wp2_with fail
    refine pst (X2.o w2 j.o) y ?_;intro w3 ag v z;have aT:=hid v.o.lo;have M:=hid (Ym_ R.U hi d (Qe_ (some s)) ag 2 tx _ 0 0 [] w3.heap.size (w3.alloc (.cells #[] 3)) (v.o.next bra) (q5_ w3) aT.o);rw[E.o]at M;dsimp only at M;go_wp2_with fail
    refine pst (M.o) z ?_;intro w4 p o C;go_wp2;go_ret;exact⟨rfl,p,o.o,C.o⟩
   ·rw[if_neg (by rw[X];decide)];rw[X]at T2;have T3:=hid (fun(W:World) h=>Yj_ R hi d (some s) row 3 (by decide) (by decide) W h);rcases bft ((Qu_ R.sg (some s) 0).1==3)with g3|g3
    ·rw[if_pos g3];rw[g3]at T3;have X2:=hid (fun(W:World) h=>Vl_ R hi d (some s) row 3 (by decide) (by decide) W h (eq_of_beq g3));unfold Does at X2;have E:=hid (Qcp_ (sg:=R.sg) 3 (some s));generalize YD_ R.sg 3 (some s)=r at E |-
     obtain⟨k,st2⟩:=r;generalize (Qu_ R.sg (some s) 0).2.1=tx at X2 E;dsimp only;clear Z hn H V X g3 D;go_enter func234,ntmps234;go_wp2_with fail
     refine(T1.o _ t.o).mono ?_;rintro e w1 ⟨rfl,h1⟩;have i:=hid (t.o.next h1);have x:=hid (L.o.below h1);clear h1 c2 cf cz;go_wp2_with fail
     refine(T2.o _ i.o).mono ?_;rintro e w2 ⟨rfl,B⟩;have j:=hid (i.o.next B);have y:=hid (x.o.below B);clear B;go_wp2_with fail
     refine(T3.o _ j.o).mono ?_;rintro e w3 ⟨rfl,K⟩;have v:=hid (j.o.next K);have z:=hid (y.o.below K);clear K;go_wp2_with fail
     refine pst (X2.o w3 v.o) z ?_;intro w4 p o C;have aa:=hid o.o.lo;have M:=hid (Ym_ R.U hi d (Qe_ (some s)) p 3 tx _ 0 0 [] w4.heap.size (w4.alloc (.cells #[] 3)) (o.o.next bra) (q5_ w4) aa.o);rw[E.o]at M;dsimp only at M;go_wp2_with fail
     refine pst (M.o) C ?_;intro w5 ah J G;go_wp2;go_ret;exact⟨rfl,ah,J.o,G.o⟩
    ·rw[if_neg (by rw[g3];decide)];rw[g3]at T3;have T4:=hid (fun(W:World) h=>XX_ R.U hi d (some s) row ⟨#[91]⟩ W h);rcases bft (isM R.sg (some s) ⟨#[91]⟩)with Y|Y
     ·rw[if_pos Y];rw[Y,Qv_ Y]at T4;have ad:s.at_ < R.n:=by
       obtain⟨s2,e2,B⟩:=Xb_ Y;obtain rfl:=Option.some.inj e2;omega
      have HO:=hid (HE.one (d:=d) oo hn ad a2);have HA:=hid (fun st=>Qy_ (sg:=R.sg) (N:=N) f .value d st);have be:Hid (LoB (s.at_+1) (Qe_ (some s))):=(show LoB _ _ from fun t' e=>by obtain rfl:=Option.some.inj e;exact Nat.le_refl _);unfold Qcs_;generalize Qd_ R.sg N f .value d=one at HO HA |-
      have HV:=hid (fun(row:ON) (W:World) h=>Qgv_ R.U hi d (s.at_+1) one HO HA.o ⟨#[93]⟩ N (Qe_ (some s)) row W h be.o hN);generalize QF_ R.sg one ⟨#[93]⟩ N [] (Qe_ (some s))=q at HV |-
      obtain⟨ks,st2⟩:=q;dsimp only at HV |-
      clear Z hn H V X g3 Y D;go_enter func234,ntmps234;go_wp2_with fail
      refine(T1.o _ t.o).mono ?_;rintro e w1 ⟨rfl,h1⟩;have i:=hid (t.o.next h1);have x:=hid (L.o.below h1);clear h1 c2 cf cz;go_wp2_with fail
      refine(T2.o _ i.o).mono ?_;rintro e w2 ⟨rfl,B⟩;have j:=hid (i.o.next B);have y:=hid (x.o.below B);clear B;go_wp2_with fail
      refine(T3.o _ j.o).mono ?_;rintro e w3 ⟨rfl,K⟩;have v:=hid (j.o.next K);have z:=hid (y.o.below K);clear K;go_wp2_with fail
      refine pst (T4.o w3 v.o) z ?_;intro w4 p o C;have aa:=hid o.o.lo;go_wp2_with fail
      refine(HV.o p w4 o.o).mono ?_;rintro e w5 ⟨A5,n5,c5,rfl,m5,ah,S,k5⟩;have bg:=hid m5;have J:=hid S;have G:=hid (C.o.trans k5);clear S k5 m5;go_wp2_with fail
      refine pst (Ym_ R.U hi d _ ah 4 noT A5 n5 c5 ks w4.heap.size w5 J.o bg.o aa.o) G ?_;intro w6 I F O;go_wp2;go_ret;exact⟨rfl,I,F.o,O.o⟩
     ·rw[if_neg (by rw[Y];decide)];rw[Y,QC_ Y]at T4;have T5:=hid (fun(row:ON) (W:World) h=>QbK_ R hi d (some s) row W h);rcases bft (xU_ R.sg (some s))with g5|g5
      ·rw[if_pos g5];rw[g5]at T5;have ad:s.at_ < R.n:=by
        obtain⟨s2,e2,B⟩:=Xb_ (z3_ g5);obtain rfl:=Option.some.inj e2;omega
       obtain⟨i0,a3,a4,a5,a7⟩:=info_parts QB_;have an:=hid (And.intro a3 (And.intro a4 (And.intro a5 a7)));clear a3 a4 a5 a7;have aR:=hid Z.lo;unfold fnS;dsimp only;have HL:=hid (fun(row:ON) (W:World) h=>Wq_ R hi d N (some s) row W h hN);have T:=((Qo_ (sg:=R.sg) (some s) ⟨#[40]⟩).trans (Yv_ (sg:=R.sg) (QS_ (sg:=R.sg)) ⟨#[41]⟩ N [] (Qk_ R.sg (some s) ⟨#[40]⟩)).2);generalize QF_ R.sg (Qi_ R.sg) ⟨#[41]⟩ N [] (Qk_ R.sg (some s) ⟨#[40]⟩)=q at HL T |-
       obtain⟨ks,st2⟩:=q;dsimp only at HL T |-
       have P:=(T.trans (Qo_ (sg:=R.sg) _ ⟨#[41]⟩)).trans (Qo_ (sg:=R.sg) _ ⟨#[61,62]⟩);have M:=hid (fun(U:Nat->Prop) (row:ON) (W:World) h=>HE.pick U d (Qk_ R.sg (Qk_ R.sg st2 ⟨#[41]⟩) ⟨#[61,62]⟩) row W h (hn.next ad (P.weak (i':=1) (j':=0) oo oo) oo) oo (H.adv P));unfold PosS at M;generalize Qd_ R.sg N f .pick d (Qk_ R.sg (Qk_ R.sg st2 ⟨#[41]⟩) ⟨#[61,62]⟩)=r at M |-
       obtain⟨k,bq⟩:=r;dsimp only at M |-
       clear Z hn H V X g3 Y g5 D T P;go_enter func234,ntmps234;go_wp2_with fail
       refine(T1.o _ t.o).mono ?_;rintro e w1 ⟨rfl,h1⟩;have i:=hid (t.o.next h1);have x:=hid (L.o.below h1);clear h1 c2 cf cz;go_wp2_with fail
       refine(T2.o _ i.o).mono ?_;rintro e w2 ⟨rfl,B⟩;have j:=hid (i.o.next B);have y:=hid (x.o.below B);clear B;go_wp2_with fail
       refine(T3.o _ j.o).mono ?_;rintro e w3 ⟨rfl,K⟩;have v:=hid (j.o.next K);have z:=hid (y.o.below K);clear K;go_wp2_with fail
       refine pst (T4.o w3 v.o) z ?_;intro w4 p o C;go_wp2_with fail
       refine(T5.o _ _ o.o).mono ?_;rintro e w5 ⟨rfl,S⟩;have J:=hid (o.o.next S);have G:=hid (C.o.below S);clear S;go_wp2_with fail
       refine(HL.o _ _ J.o).mono ?_;rintro e w6 ⟨A,n,c,rfl,rfl,m6,bA,I,h6,k6⟩;have bn:=G.o.size;have aV:=hid (m6.more (B':=w.heap.size) bn);have F:=hid h6;have O:=hid (G.o.trans k6);clear h6 k6 m6 HL;go_wp2_with fail
       refine(X8_ _ hi d _ I ⟨#[61,62]⟩ w6 F.o).mono ?_;rintro e w7 ⟨rfl,aC,h7,k7⟩;have aX:=hid (F.o.keepI k7 aV.o);have al:=hid h7;have aE:=hid (O.o.trans k7);clear h7 k7 aV;go_wp2_with fail
       refine(M.o _ _ _ al.o).mono ?_;rintro e w8 ⟨rfl,ai,h8,k8⟩;have aG:=hid (al.o.keepI k8 aX.o);have am:=hid h8;have ao:=hid (aE.o.trans k8);clear h8 k8 aX M;have bB:=ao.o.size;have bc:=hid aR.o.1;go_wp2_with (at_builtin;(refine Qf_ _ rfl (.tmp 50) (.tmp 53) _ rfl w.heap.size 3 i0 (.int .i64 0) 1 8 underlying34 an.o.1 an.o.2.1 an.o.2.2.1 an.o.2.2.2 rfl (by decide) (.slice A ks.length c) ks.length (Qa_ ks) rfl (Mine.alloc aG.o _) ⟨w8.heap.size,0,none⟩ 1 1 [.int .i64 k] rfl rfl (Kq_ _ k _) (Kr_ _) (by unfold maxLen;omega) oo (by simp;omega) ?_);intro v' w9 ae aK aB;obtain⟨A7,c7,rfl,h7,m7⟩:=RdI.appended am.o aG.o bc.o bra ae aK aB)
       have aF:=hid ((ao.o.below bra).grown aK (fun g hg=>by rw[Qw_]at hg;exact(Mine.blk aG.o hg).1));rw[<-QO_]at m7;have aD:=hid h7.unres;have bf:=hid m7;clear ae aK aB h7 m7;go_wp2_with fail
       refine pst (Ym_ R.U hi d bq ai 9 noT A7 (ks.length+1) c7 (ks++[k]) w.heap.size w9 aD.o bf.o aR.o) aF ?_;intro bC aL aP aQ;go_wp2;go_ret;exact⟨rfl,aL,aP.o,aQ.o⟩
      ·rw[if_neg (by rw[g5];decide)];rw[g5]at T5;rcases bft (isM R.sg (some s) ⟨#[40]⟩)with g6|g6
       ·rw[if_pos g6];have T6:=hid (fun(row:ON) (W:World) h=>X8_ R.U hi d (some s) row ⟨#[40]⟩ W h);rw[Zk_ g6]at T6;have ad:s.at_ < R.n:=by
         obtain⟨s2,e2,B⟩:=Xb_ g6;obtain rfl:=Option.some.inj e2;omega
        unfold parS;dsimp only;have HV:=hid (fun(row:ON) (W:World) h=>HE.value R.U d (Qe_ (some s)) row W h (hn.next ad (Qh_ (some s)) oo) oo (H.adv (Qh_ _)));unfold PosS at HV;generalize Qd_ R.sg N f .value d (Qe_ (some s))=r at HV |-
        obtain⟨k,st2⟩:=r;dsimp only at HV |-
        clear Z hn H V X g3 Y g5 g6 D;go_enter func234,ntmps234;go_wp2_with fail
        refine(T1.o _ t.o).mono ?_;rintro e w1 ⟨rfl,h1⟩;have i:=hid (t.o.next h1);have x:=hid (L.o.below h1);clear h1 c2 cf cz;go_wp2_with fail
        refine(T2.o _ i.o).mono ?_;rintro e w2 ⟨rfl,B⟩;have j:=hid (i.o.next B);have y:=hid (x.o.below B);clear B;go_wp2_with fail
        refine(T3.o _ j.o).mono ?_;rintro e w3 ⟨rfl,K⟩;have v:=hid (j.o.next K);have z:=hid (y.o.below K);clear K;go_wp2_with fail
        refine pst (T4.o w3 v.o) z ?_;intro w4 p o C;go_wp2_with fail
        refine(T5.o _ _ o.o).mono ?_;rintro e w5 ⟨rfl,S⟩;have J:=hid (o.o.next S);have G:=hid (C.o.below S);clear S;go_wp2_with fail
        refine pst (T6.o p w5 J.o) G ?_;intro w6 I F O;obtain⟨a6,b6,bb,bl,l6,ac,aJ,Q⟩:=F.o;obtain⟨x0,x1,x2,x3,x4,xf,xz⟩:=ac.cs hi;obtain⟨rfl,_,_⟩:=aJ;clear ac Q x0 x1 x3 x4;go_wp2_with fail
        refine(HV.o _ _ F.o).mono ?_;rintro e w7 ⟨rfl,aC,h7,k7⟩;have al:=hid h7;have aE:=hid (O.o.trans k7);clear h7 k7 x2 xf xz;go_wp2_with fail
        refine pst (X8_ R.U hi d st2 aC ⟨#[41]⟩ w7 al.o) aE ?_;intro w8 ai am ao;have aU:=hid am.o.lo;go_wp2_with fail
        refine pst (Ym_ R.U hi d _ ai 11 noT (some ⟨w8.heap.size,0,none⟩) 1 1 [k] w8.heap.size _ (am.o.alloc _) (GZ_ w8 k) aU.o) ao ?_;intro w9 a8 aD aF;go_wp2;go_ret;exact⟨rfl,a8,aD.o,aF.o⟩
       ·rw[if_neg (by rw[g6];decide)];have T6:=hid (fun(row:ON) (W:World) h=>X8_ R.U hi d (some s) row ⟨#[40]⟩ W h);rw[GT_ g6]at T6;dsimp only;clear Z hn H V X g3 Y g5 g6 D;go_enter func234,ntmps234;go_wp2_with fail
        refine(T1.o _ t.o).mono ?_;rintro e w1 ⟨rfl,h1⟩;have i:=hid (t.o.next h1);have x:=hid (L.o.below h1);clear h1 c2 cf cz;go_wp2_with fail
        refine(T2.o _ i.o).mono ?_;rintro e w2 ⟨rfl,B⟩;have j:=hid (i.o.next B);have y:=hid (x.o.below B);clear B;go_wp2_with fail
        refine(T3.o _ j.o).mono ?_;rintro e w3 ⟨rfl,K⟩;have v:=hid (j.o.next K);have z:=hid (y.o.below K);clear K;go_wp2_with fail
        refine pst (T4.o w3 v.o) z ?_;intro w4 p o C;go_wp2_with fail
        refine(T5.o _ _ o.o).mono ?_;rintro e w5 ⟨rfl,S⟩;have J:=hid (o.o.next S);have G:=hid (C.o.below S);clear S;go_wp2_with fail
        refine pst (T6.o p w5 J.o) G ?_;intro w6 I F O;obtain⟨a6,b6,bb,bl,l6,ac,aJ,Q⟩:=F.o;obtain⟨x0,x1,x2,x3,x4,xf,xz⟩:=ac.cs hi;obtain rfl:b6=true:=aJ;clear ac Q x0 x1 x3 x4;go_wp2;go_ret;exact⟨rfl,I,F.o,O.o⟩
end Go.Proofs.YtgbikafalcbibaaGreatDoor

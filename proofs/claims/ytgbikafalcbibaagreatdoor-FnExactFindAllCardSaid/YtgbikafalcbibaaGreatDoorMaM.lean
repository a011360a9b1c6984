/-
  Put together by program (shake.py):ParI,ParL,ParJ,ParK,ParM,ParN.
-/
import Derived.Test.YtgbikafalcbibaaGreatDoorMaL
set_option maxRecDepth 100000
set_option linter.all false
set_option maxHeartbeats 25600000
open Go.Lib (hid)
open Go.Proofs.Tryz
namespace Go.Proofs.YtgbikafalcbibaaGreatDoor
open Go.RowKit
def Need (n:Nat) (st:RdSt) (r f:Nat):Prop:=r<=f/\∀s,st=some s->(n - s.at_) * 14+r<=f
theorem Need.same {n r r' f i j:Nat} {st st':RdSt} (h:Need n st r (f+1)) (hr:r'+1<=r) (k:Adv i j st st'):Need n st' r' f:=
 ⟨by have:=h.1;omega,fun t e=>by
  obtain⟨s,e2,h1,_⟩:=k t e;have:=h.2 s e2;have:n - t.at_<=n - s.at_:=oo;omega⟩
theorem Need.next {n r r' f i j:Nat} {s:PS} {st':RdSt} (h:Need n (some s) r (f+1)) (a:s.at_ < n) (k:Adv (i+1) j (some s) st') (hr:r'<=13):Need n st' r' f:=by
 have h2:=h.2 s rfl;have hD:(n - s.at_)=(n - s.at_ - 1)+1:=oo;refine⟨oo,fun t e=>?_⟩;obtain⟨s',e2,h1,_⟩:=k t e;obtain rfl:=Option.some.inj e2;have:n - t.at_<=n - s.at_ - 1:=oo;omega
structure EC (R:RC) (N f:Nat):Prop where
 value:∀(U:Nat->Prop) (d:Nat) (st:RdSt) (row:ON) (w:World),RdI { R with U:=U } d st row w->Need R.n st 11 f->d+f<=100000->Calls prog 216 #[.pointer (some ⟨R.T,0,none⟩)] w (Does { R with U:=U } d row w (.int .i64 (Qd_ R.sg N f .value d st).1) (Qd_ R.sg N f .value d st).2)
 pick:∀(U:Nat->Prop) (d:Nat) (st:RdSt) (row:ON) (w:World),RdI { R with U:=U } d st row w->Need R.n st 10 f->d+f<=100000->Calls prog 235 #[.pointer (some ⟨R.T,0,none⟩)] w (Does { R with U:=U } d row w (.int .i64 (Qd_ R.sg N f .pick d st).1) (Qd_ R.sg N f .pick d st).2)
 chain:∀(U:Nat->Prop) (l d:Nat) (st:RdSt) (row:ON) (w:World),RdI { R with U:=U } d st row w->l<=6->Need R.n st (9 - l) f->d+f<=100000->Calls prog 244 #[.pointer (some ⟨R.T,0,none⟩),.int .i64 l] w (Does { R with U:=U } d row w (.int .i64 (Qd_ R.sg N f (.chain l) d st).1) (Qd_ R.sg N f (.chain l) d st).2)
 end_:∀(U:Nat->Prop) (d:Nat) (st:RdSt) (row:ON) (w:World),RdI { R with U:=U } d st row w->Need R.n st 2 f->d+f<=100000->Calls prog 247 #[.pointer (some ⟨R.T,0,none⟩)] w (Does { R with U:=U } d row w (.int .i64 (Qd_ R.sg N f .end_ d st).1) (Qd_ R.sg N f .end_ d st).2)
 base:∀(U:Nat->Prop) (d:Nat) (st:RdSt) (row:ON) (w:World),RdI { R with U:=U } d st row w->Need R.n st 1 f->d+f<=100000->Calls prog 250 #[.pointer (some ⟨R.T,0,none⟩)] w (Does { R with U:=U } d row w (.int .i64 (Qd_ R.sg N f .base d st).1) (Qd_ R.sg N f .base d st).2)
 stmt:∀(U:Nat->Prop) (b:Bool) (d:Nat) (st:RdSt) (row:ON) (w:World),RdI { R with U:=U } d st row w->Need R.n st 12 f->d+f<=100000->Calls prog 222 #[.pointer (some ⟨R.T,0,none⟩),.bool b] w (Does { R with U:=U } d row w (.int .i64 (Qd_ R.sg N f (.stmt b) d st).1) (Qd_ R.sg N f (.stmt b) d st).2)
 block:∀(U:Nat->Prop) (d:Nat) (st:RdSt) (row:ON) (w:World),RdI { R with U:=U } d st row w->Need R.n st 13 f->d+f<=100000->Calls prog 181 #[.pointer (some ⟨R.T,0,none⟩)] w (Does { R with U:=U } d row w (.int .i64 (Qd_ R.sg N f .block d st).1) (Qd_ R.sg N f .block d st).2)
theorem EC.one {R:RC} {N f:Nat} (h:EC R N f) {d r:Nat} (hd:d+f<=100000) {s:PS} (hn:Need R.n (some s) r (f+1)) (b:s.at_ < R.n):OneC R 216 d (s.at_+1) (Qd_ R.sg N f .value d):=
 fun U st row w hI a=>h.value U d st row w hI (by
  have h2:=hn.2 s rfl;refine⟨oo,fun t e=>?_⟩;have:=a t e;have:R.n - t.at_<=R.n - s.at_ - 1:=oo;omega) hd
theorem qM_ {R:RC} {d:Nat} {st:RdSt} {row:ON} {w:World} (hi:R.imp=true) (h:RdI R (d+1) st row w):
  w.cell? ⟨R.T,3,none⟩=some (.int .i64 ((d:Int)+1))/\(∀i,w.frozen? ⟨R.T,i,none⟩=false)/\R.T < w.heap.size/\RdI R d st row (w.setCell ⟨R.T,3,none⟩ (.int .i64 d))/\Kr R.T row w row (w.setCell ⟨R.T,3,none⟩ (.int .i64 d)):=by
 obtain⟨a,b,AN,cN,l,hc,e,c⟩:=h;obtain⟨c0,c2,c3,c4,c5,cf,cz⟩:=hc.ci hi;have hF:=RdI.nest1 hi hc e c (u:=(d:Int)) (d':=d) rfl;exact⟨by rw[c3];simp,cf,cz,hF.1,hF.2⟩
theorem QcL_ (R:RC) (hi:R.imp=true) (N f:Nat) (U:EC R N f) (d:Nat) (st:RdSt) (row:ON) (w:World) (T:RdI R d st row w) (J:Need R.n st 10 (f+1)) (hd:d+(f+1)<=100000):
  Calls prog 235 #[.pointer (some ⟨R.T,0,none⟩)] w (Does R d row w (.int .i64 (Vf_ R.sg (Qd_ R.sg N f) d st).1) (Vf_ R.sg (Qd_ R.sg N f) d st).2):=by
 have D:=hid T;have F:=hid (Kr.refl R.T row w);have A:=J.same (r':=9) oo (Xn_ d st);have B:=hid (fun(row:ON) (W:World) (h:RdI R (d+1) (Ks_ d st) row W)=>U.chain R.U 0 (d+1) (Ks_ d st) row W h oo A oo);have a:=(Xn_ d st).trans (Qy_ (sg:=R.sg) (N:=N) f (.chain 0) (d+1) (Ks_ d st));have I:∀(d':Nat) (row:ON) (W:World) (t:PS),RdI R d' (some t) row W->t.at_<=R.n:=fun d' row W t h=>(h.le rfl).1
 have m:=T.ok.len;unfold Does at B |-
 unfold Vf_;dsimp only;generalize Qd_ R.sg N f (.chain 0) (d+1) (Ks_ d st)=r at B a |-
 obtain⟨k0,c⟩:=r;dsimp only at B a |-
 rcases bft (isM R.sg c ⟨#[63]⟩)with j|j
 ·rw[if_pos j];have K:=Qv_ j;obtain⟨t,et,ae⟩:=Xb_ j;obtain⟨s,es,ha,_⟩:=a t et;subst es;have L:s.at_ < R.n:=oo;have k:=hid (fun(row:ON) (W:World) (h:RdI R (d+1) (Qe_ c) row W)=>U.pick R.U (d+1) (Qe_ c) row W h (J.next L (a.trans (Qh_ _)) oo) oo);have b:=(a.trans (Qh_ c)).trans (Qy_ (sg:=R.sg) (N:=N) f .pick (d+1) (Qe_ c));unfold Does at k;generalize Qd_ R.sg N f .pick (d+1) (Qe_ c)=r2 at k b |-
  obtain⟨k1,st2⟩:=r2;dsimp only at k b |-
  have l:=hid (fun(row:ON) (W:World) (h:RdI R (d+1) (Qk_ R.sg st2 ⟨#[58]⟩) row W)=>U.pick R.U (d+1) (Qk_ R.sg st2 ⟨#[58]⟩) row W h (J.next L (b.trans (Qo_ _ _)) oo) oo);unfold Does at l;generalize Qd_ R.sg N f .pick (d+1) (Qk_ R.sg st2 ⟨#[58]⟩)=r3 at l |-
  obtain⟨k2,af⟩:=r3;dsimp only at l |-
  have z:=hid K;have y:=hid j;clear T J a b I m j K et ha ae A;go_enter func235,ntmps235;go_wp2_with fail
  refine pst (US_ R hi d (some s) row w D.o oo) F ?_;intro w1 O o q;go_wp2_with fail
  refine pst (B.o _ _ o.o) q ?_;intro w2 row2 p v;go_wp2_with fail
  refine(YG_ R hi (d+1) c row2 ⟨#[63]⟩ w2 p.o).mono ?_;rw[y.o,z.o];rintro e w3 ⟨rfl,n,H,M⟩;have x:=QQ_ v M;have V:=hid H;clear H M;go_wp2_with fail
  refine pst (k.o _ _ V.o) x ?_;intro w4 P X aa;go_wp2_with fail
  refine pst (ZP_ R hi (d+1) st2 P ⟨#[58]⟩ w4 X.o) aa ?_;intro w5 ag Y ab;go_wp2_with fail
  refine pst (l.o _ _ Y.o) ab ?_;intro w6 Q E ac;have G:=hid E.o.lo;go_wp2_with fail
  refine pst (vV_ R hi (d+1) af Q 8 noT (some ⟨w6.heap.size,0,none⟩) 3 3 [k0,k1,k2] false w6.heap.size _ (E.o.alloc _) (kid3 w6 k0 k1 k2) G.o) ac ?_;intro w7 S Z ad;obtain⟨c3,cf,cz,g,i⟩:=qM_ hi Z.o;have C:=hid (And.intro g (ad.o.trans i));clear g i;go_wp2;go_ret;exact⟨rfl,S,C.o.1,C.o.2⟩
 ·rw[if_neg (by rw[j];decide)];have z:=hid (QC_ j);have y:=hid j;clear T J a I m j A;go_enter func235,ntmps235;go_wp2_with fail
  refine pst (US_ R hi d st row w D.o oo) F ?_;intro w1 O o q;go_wp2_with fail
  refine pst (B.o _ _ o.o) q ?_;intro w2 row2 p v;go_wp2_with fail
  refine(YG_ R hi (d+1) c row2 ⟨#[63]⟩ w2 p.o).mono ?_;rw[y.o,z.o];rintro e w3 ⟨rfl,n,H,M⟩;have x:=QQ_ v M;obtain⟨c3,cf,cz,g,i⟩:=qM_ hi H;have C:=hid (And.intro g (x.o.trans i));clear H M g i;go_wp2;go_ret;exact⟨rfl,n,C.o.1,C.o.2⟩
theorem Qei_ {sg:List SgP} {st:RdSt}:∀{l:List BA},(∀m∈l,(m.toList==[])=false)->((Zs_ sg st l).toList==[])=false->isM sg st (Zs_ sg st l)=true:=by
 intro l
 induction l with
 |nil=>intro _ h;exact absurd X6_ (by rw[show(noT.toList==[])=false from h];decide)
 |cons m l ih=>
  intro hm h;unfold Zs_ at h |-
  rcases bft (isM sg st m)with e|e
  ·rw[if_pos e];exact e
  ·rw[if_neg (by rw[e];decide)]at h |-
   exact ih (fun x hx=>hm x (by simp[hx])) h
theorem Wf_ {l:List UInt8} (h:(l==[])=false):((⟨l.toArray⟩:BA).toList==[])=false:=by rw[ByteArray.toList_eq];simpa using h
theorem qI_ (l:Nat):∀m∈K8_ l,(m.toList==[])=false:=by
 unfold K8_;intro m a;split at a
 ·simp at a;subst a;exact Wf_ (l:=[124,124]) rfl
 ·split at a
  ·simp at a;subst a;exact Wf_ (l:=[38,38]) rfl
  ·split at a
   ·simp at a;subst a;exact Wf_ (l:=[61,61]) rfl
   ·split at a
    ·simp at a;subst a;exact Wf_ (l:=[60]) rfl
    ·split at a
     ·simp at a;rcases a with rfl|rfl
      ·exact Wf_ (l:=[43]) rfl
      ·exact Wf_ (l:=[45]) rfl
     ·simp at a;subst a;exact Wf_ (l:=[42]) rfl
theorem qH_ {sg:List SgP} {st:RdSt} {l:Nat} (h:((KK_ sg st l).toList==[])=false):isM sg st (KK_ sg st l)=true:=Qei_ (qI_ l) h
theorem v2_ (R:RC) (hi:R.imp=true) (N f:Nat) (hN:R.n < N) (HE:EC R N f) (l d:Nat) (hl:l<=6) (st:RdSt) (row:ON) (w:World) (hI:RdI R d st row w) (hn:Need R.n st (9 - l) (f+1)) (hd:d+(f+1)<=100000):
  Calls prog 244 #[.pointer (some ⟨R.T,0,none⟩),.int .i64 l] w (Does R d row w (.int .i64 (Xa_ R.sg (Qd_ R.sg N f) N l d st).1) (Xa_ R.sg (Qd_ R.sg N f) N l d st).2):=by
 have bc:=hid hI;have aj:=hid (Kr.refl R.T row w);have aL:=hid hI.lo;unfold Does;unfold Xa_;by_cases h6:l=6
 ·rw[if_pos h6];have B:=hid (HE.end_ R.U d st row w hI (hn.same (r':=2) oo (Adv.refl st)) oo);unfold Does at B;clear hI hn;subst h6;go_enter func244,ntmps244;go_wp2_with fail
  refine pst (B.o) aj ?_;intro w1 J O S;go_wp2;go_ret;exact⟨rfl,J,O.o,S.o⟩
 ·rw[if_neg h6];have bq:l < 6:=oo;have B:=HE.chain R.U (l+1) d st row w hI oo (hn.same (r':=9 - (l+1)) oo (Adv.refl st)) oo;rw[show((l+1:Nat):Int)=(l:Int)+1 from oo]at B;have n:=Qy_ (sg:=R.sg) (N:=N) f (.chain (l+1)) d st;have HA:=hid (fun st=>Qy_ (sg:=R.sg) (N:=N) f (.chain (l+1)) d st);have bE:=hI.ok.len;unfold Does at B;have B:=hid B;have HO:Hid (∀(U:Nat->Prop) (st':RdSt) (row:ON) (w:World),RdI { R with U:=U } d st' row w->Adv 1 0 st st'->(∀s,st=some s->s.at_ < R.n)->(st=none->st'=none)->Calls prog 244 #[.pointer (some ⟨R.T,0,none⟩),.int .i64 ((l:Int)+1)] w (Does { R with U:=U } d row w (.int .i64 (Qd_ R.sg N f (.chain (l+1)) d st').1) (Qd_ R.sg N f (.chain (l+1)) d st').2)):=(show ∀U st' row w,_->_->_->_->_ from fun U st' row w h ha bs bx=>by
   have:=HE.chain U (l+1) d st' row w h oo (by
    cases st with
    |none=>rw[bx rfl];exact hn.same oo (Adv.refl none)
    |some s=>exact hn.next (bs s rfl) (ha.weak (i':=0+1) (j':=0) oo oo) oo) oo
   rwa[show((l+1:Nat):Int)=(l:Int)+1 from oo]at this)
  have bH:((l:Int)==6)=false:=by rw[beq_eq_false_iff_ne];omega
  generalize Qd_ R.sg N f (.chain (l+1)) d=one at B n HA HO |-
  generalize hr:one st=r at B n |-
  obtain⟨k0,a2⟩:=r;dsimp only at B n |-
  have aa:=hid n;obtain⟨Q,hQ⟩:=ex_ (Zp_ R.sg one l N N k0 a2);rw[hQ];have HQ:=hid hQ;obtain⟨i0,aQ,aV,aX,ar⟩:=info_parts QB_;have P:=hid (And.intro aQ (And.intro aV (And.intro aX ar)));clear aQ aV aX ar hI hn n hQ hr;go_enter func244,ntmps244;go_wp2_with fail
  refine pst (B.o) aj ?_;intro w1 J O S;go_upto_region 4 with fail
  go_loopw [5] (fun v wr=>∃(M:Nat) (k:Int) (st':RdSt) (row':ON),v=.int .i64 k/\Hid (Zp_ R.sg one l N M k st'=Q)/\Hid (Adv 1 1 st st')/\Hid (Enough R.n M st')/\Hid (RdI R d st' row' wr)/\Hid (Kr R.T row w row' wr)) (fun _ wr=>ZY_ R wr)
  case atStart=>exact⟨N,k0,a2,J,rfl,HQ,aa,(show Enough _ _ _ from QL_ hN _),O,S⟩
  case round=>
   clear HQ aa bc O aj S B;obtain⟨M,k,st',row',rfl,HQ,af,aF,HI,HK⟩:=hrel;have F:=hid (z9_ R hi d st' row' l bq wr HI.o);rcases bft ((KK_ R.sg st' l).toList==[])with hM|hM
   ·have b:Q=(k,st'):=by
     have b:=HQ.o
     cases M with
     |zero=>exact b.symm
     |succ M=>unfold Zp_ at b;rw[if_pos hM]at b;exact b.symm
    subst b;generalize KK_ R.sg st' l=mk at F hM;clear HQ;go_wp2_with fail
    refine F.o.mono ?_;rintro e w2 ⟨rfl,g2⟩;go_wp2;go_ret;exact⟨rfl,row',HI.o.next g2,HK.o.below g2⟩
   ·have Y:=qH_ hM;obtain⟨s',y,aT⟩:=Xb_ Y;obtain⟨s,es,ha,bv⟩:=af.o s' y;obtain⟨M,rfl⟩:∃M',M=M'+1:=⟨M - 1,by
     have h1:=aF.o s' y;have h2:=(HI.o.le y).1;omega⟩
    have b:=HQ.o;unfold Zp_ at b;rw[if_neg (by rw[hM];decide)]at b;have bz:s.at_ < R.n:=oo;generalize KK_ R.sg st' l=mk at F hM b Y;have G:=xQ_ (sg:=R.sg) HA.o mk N [k] st';obtain⟨q2,I⟩:=ex_ (GK_ R.sg one mk N [k] st');rw[I]at b G;have bi:=hid b;have p:=hid I;have aJ:=hid Y;have aR:=(HI.o.le y).2;have ac:Hid (KidB [k] st'):=(show KidB _ _ from⟨by simp,fun t' e=>by rw[y]at e;obtain rfl:=Option.some.inj e;simp;omega⟩);have bh:Hid (∀(U:Nat->Prop) (st2:RdSt) (row:ON) (w:World),RdI { R with U:=U } d st2 row w->Adv 0 0 st' st2->Calls prog 244 #[.pointer (some ⟨R.T,0,none⟩),.int .i64 ((l:Int)+1)] w (Does { R with U:=U } d row w (.int .i64 (one st2).1) (one st2).2)):=(show ∀U st2 row w,_->_->_ from fun U st2 row w h ha=>HO.o U st2 row w h ((af.o.trans ha).weak oo oo) (fun s2 e2=>by rw[es]at e2;obtain rfl:=Option.some.inj e2;exact bz) (fun e=>by rw[es]at e;cases e));have bF:((mk.toList != [])=true):=(by rw[bne,hM];rfl);clear b I G Y HQ es y ha bv aT aR;go_wp2_with fail
    refine F.o.mono ?_;rintro e w2 ⟨rfl,g2⟩;have m:=hid (HI.o.next g2);have o:=hid (HK.o.below g2);clear g2 F;go_upto_region 8 with fail
    have ar:=o.o.size;have am:=hid ((GZ_ w2 k).more (B':=w.heap.size) oo);have ai:=hid (m.o.res_new (A:=some ⟨w2.heap.size,0,none⟩) (br.alloc (Nat.le_refl _) (.cells #[.int .i64 k] 3)) (fun g hg=>by simp at hg;subst hg;simp));have ak:=hid (o.o.below (br.alloc (Nat.le_refl _) (.cells #[.int .i64 k] 3)));generalize w2.alloc (.cells #[.int .i64 k] 3)=w3 at am ai ak |-
    go_loopw [7] (fun v wi=>∃(L:Nat) (ks:LI) (st2:RdSt) (row2:ON) (A:OA) (c:Nat),v=.slice A ks.length c/\Hid (GK_ R.sg one mk L ks st2=q2)/\Hid (Adv 0 0 st' st2)/\Hid (st2=st'\/Adv 1 0 st' st2)/\Hid (Enough R.n L st2)/\Hid (KidB ks st2)/\Hid (Mine wi w.heap.size 3 1 A ks.length c (Qa_ ks))/\Hid (RdI (R.res A) d st2 row2 wi)/\Hid (Kr R.T row w row2 wi)) (fun _ wi=>ZY_ R wi)
    case atStart=>exact⟨N,[k],st',row',_,1,rfl,p,(show Adv 0 0 st' st' from Adv.refl _),(show st'=st'\/_ from .inl rfl),(show Enough _ _ _ from QL_ hN _),ac,am,ai,ak⟩
    case round=>
     clear p ac am m ai o ak;obtain⟨L,ks,st2,row2,A,c,rfl,p,D,bl,ab,aK,HM,m,o⟩:=hrel;have HS:=hid (vP_ _ hi d st2 row2 mk wr m.o);rcases bft (isM R.sg st2 mk)with j|j
     ·obtain⟨s2,bn,aU⟩:=Xb_ j;subst bn;obtain⟨L,rfl⟩:∃M',L=M'+1:=⟨L - 1,by
       have h1:=ab.o s2 rfl;have h2:=(m.o.le rfl).1;have:(R.res A).n=R.n:=rfl;omega⟩
      rw[j,Qv_ j]at HS;have b:=p.o;unfold GK_ at b;rw[if_pos j]at b;have a:=(Qh_ (some s2)).trans (HA.o (Qe_ (some s2)));have HC:=hid (fun(row:ON) (W:World) h=>bh.o (fun x=>R.U x\/A.map (·.block)=some x) (Qe_ (some s2)) row W h ((D.o.trans (Qh_ _)).weak oo oo));unfold Does at HC;generalize one (Qe_ (some s2))=r3 at b a HC;obtain⟨kc,z⟩:=r3;dsimp only at b a HC;have bj:=hid b;have aD:=hid a;have bI:=(m.o.le rfl).2;have bD:=aK.o.2 s2 rfl;have bG:=aK.o.1;have a8:Hid (KidB (ks++[kc]) z):=(show KidB _ _ from⟨by rw[lA];simp;omega,fun t e=>by
       obtain⟨K,e2,_,h3⟩:=a t e;obtain rfl:=Option.some.inj e2;rw[lA];simp;omega⟩)
      have a9:Hid (Enough R.n L z):=ab.o.adv (i:=1) a;have a6:Hid (Adv 0 0 st' z):=(D.o.trans a).weak oo oo;have a7:Hid (z=st'\/Adv 1 0 st' z):=(show _\/_ from .inr ((D.o.trans a).weak oo oo));have aS:(ks++[kc]).length=ks.length+1:=(by simp);clear b j p a aU;go_wp2_with fail
      refine HS.o.mono ?_;rintro e w4 ⟨rfl,ae,h4,k4⟩;have V:=hid (m.o.keepI k4 HM.o);have E:=hid h4;have T:=hid (o.o.trans k4);clear h4 k4 HS;go_wp2_with fail
      refine(HC.o _ _ E.o).mono ?_;rintro e w6 ⟨rfl,a1,h6,k6⟩;have X:=hid (E.o.keepI k6 V.o);have aH:=hid h6;have al:=hid (T.o.trans k6);clear h6 k6 HC V E T;have bJ:=al.o.size;have ba:=hid aL.o.1;go_wp2_with (at_builtin;(refine Qf_ _ rfl (.tmp 32) (.tmp 34) _ rfl w.heap.size 3 i0 (.int .i64 0) 1 8 underlying34 P.o.1 P.o.2.1 P.o.2.2.1 P.o.2.2.2 rfl (by decide) (.slice A ks.length c) ks.length (Qa_ ks) rfl (Mine.alloc X.o _) ⟨w6.heap.size,0,none⟩ 1 1 [.int .i64 kc] rfl rfl (Kq_ _ kc _) (Kr_ _) (by unfold maxLen;omega) oo (by simp;omega) ?_);intro v' w7 H aq ad;obtain⟨A7,c7,rfl,h7,m7⟩:=RdI.appended aH.o X.o ba.o bra H aq ad)
      have be:=hid ((al.o.below bra).grown aq (fun g hg=>by rw[Qw_]at hg;exact(Mine.blk X.o hg).1));rw[<-QO_]at m7;have aI:=hid h7;have bg:=hid m7;clear H aq ad h7 m7 aH X al;go_wp2;go_roundw
      case rel=>exact⟨L,ks++[kc],z,a1,A7,c7,by rw[aS],bj,a6,a7,a9,a8,by rw[aS];exact bg,aI,be⟩
      case measure=>exact G5_ hi m.o aI.o (aD.o.weak (i':=1) (j':=0) oo oo)
     ·rw[j,QC_ j]at HS;have b:=p.o;have I:q2=(ks,st2):=by
       cases L with
       |zero=>exact b.symm
       |succ L=>unfold GK_ at b;rw[j,if_neg (by decide)]at b;exact b.symm
      subst I;have aN:Adv 1 0 st' st2:=by
       rcases bl.o with e|e
       ·rw[e]at j;exact absurd (aJ.o.symm.trans j) (by decide)
       ·exact e
      have C:=hid (aN.trans (Q5_ st2 ⟨7,mk,ks,false⟩));clear p b j aN;go_wp2_with fail
      refine HS.o.mono ?_;rintro e w4 ⟨rfl,ae,h4,k4⟩;have V:=hid (m.o.keepI k4 HM.o);have E:=hid h4.unres;have T:=hid (o.o.trans k4);clear h4 k4 HS HM m o;have Z:=bi.o;have ah:Hid (Enough R.n M (KC_ st2 ⟨7,mk,ks,false⟩).2):=aF.o.adv (i:=0) C.o;have ag:Hid (Adv 1 1 st (KC_ st2 ⟨7,mk,ks,false⟩).2):=(af.o.trans C.o).weak oo oo;have q:=vV_ R hi d st2 ae 7 mk A ks.length c ks false w.heap.size w4 E.o V.o aL.o;unfold Does at q;have q:=hid q;generalize KC_ st2 ⟨7,mk,ks,false⟩=r5 at Z ah ag q C;obtain⟨k5,bC⟩:=r5;dsimp only at Z ah ag q C;have bk:=hid Z;clear Z;go_wp2_with fail
      refine q.o.mono ?_;rintro e w5 ⟨rfl,a0,h5,aY⟩;have aG:=hid h5;have bd:=hid (T.o.trans aY);clear h5 aY;go_wp2;go_roundw
      case rel=>exact⟨M,k5,bC,a0,rfl,bk,ag,ah,aG,bd⟩
      case measure=>
       have bp:∃K,st'=some K:=by
        cases st' with
        |none=>exact absurd aJ.o (by rw[ZK_];decide)
        |some K=>exact⟨K,rfl⟩
       obtain⟨K,rfl⟩:=bp;exact Wi_ hi HI.o aG.o (C.o.weak (i':=1) (j':=0) oo oo)
theorem QgH_ {R:RC} (U:Nat->Prop) (hi:R.imp=true) (d lo:Nat) (one:RdSt->PR) (HO:Hid (OneC R 216 d lo one)) (h1:∀st,Adv 1 1 st (one st).2) (N:Nat) (k:Int) (st:RdSt) (row:ON) (w:World) (hI:RdI { R with U:=U } d st row w) (a:LoB lo st) (hN:R.n < N):
  Calls prog 236 #[.pointer (some ⟨R.T,0,none⟩),.int .i64 k] w fun e w'=>e=.returned (.int .i64 (Yc_ R.sg one N k st).1)/\∃row',RdI { R with U:=U } d (Yc_ R.sg one N k st).2 row' w'/\Kr R.T row w row' w':=
 vh_ { R with U:=U } hi d lo one HO h1 N k st row w hI a hN
theorem Qby_ (R:RC) (hi:R.imp=true) (N f:Nat) (hN:R.n < N) (HE:EC R N f) (d:Nat) (st:RdSt) (row:ON) (w:World) (hI:RdI R d st row w) (hn:Need R.n st 11 (f+1)) (hd:d+(f+1)<=100000):
  Calls prog 216 #[.pointer (some ⟨R.T,0,none⟩)] w (Does R d row w (.int .i64 (Xg_ R.sg (Qd_ R.sg N f) N d st).1) (Xg_ R.sg (Qd_ R.sg N f) N d st).2):=by
 have aR:=hid hI;have V:=hid (Kr.refl R.T row w);have ar:=hid hI.lo;have ae:=hn.same (r':=10) oo (Adv.refl st);have HP:=hid (HE.pick R.U d st row w hI ae oo);have k:=Qy_ (sg:=R.sg) (N:=N) f .pick d st;have h1:∀st,Adv 1 1 st (Qd_ R.sg N f .value d st).2:=fun st=>Qy_ f .value d st
 have K:=hI.ok.len;unfold Does at HP |-
 unfold Xg_;generalize Qd_ R.sg N f .pick d st=r at HP k |-
 obtain⟨k0,m⟩:=r;dsimp only at HP k |-
 rcases bft (isM R.sg m ⟨#[46,46]⟩)with b|b
 ·rw[if_pos b];obtain⟨t,et,a0⟩:=Xb_ b;obtain⟨s,es,ha,a1⟩:=k t et;subst es;have a3:s.at_ < R.n:=oo;have HO:=hid (HE.one (d:=d) oo hn a3);have HA:=hid h1;have ab:=hid b;have q:Hid (LoB (s.at_+1) m):=(show LoB _ _ from fun t' e=>by rw[et]at e;obtain rfl:=Option.some.inj e;omega);have I:Hid (KidB [k0] m):=(show KidB _ _ from⟨by simp,fun t' e=>by rw[et]at e;obtain rfl:=Option.some.inj e;simp;omega⟩);obtain⟨Q,hQ⟩:=ex_ (YS_ R.sg (Qd_ R.sg N f .value d) N N [k0] m);rw[hQ];have J:=hid hQ;generalize Qd_ R.sg N f .value d=one at HO HA J;obtain⟨i0,az,aC,aD,af⟩:=info_parts QB_;have z:=hid (And.intro az (And.intro aC (And.intro aD af)));clear az aC aD af hI hn k K b et ha a0 ae hQ h1 a1;go_enter func216,ntmps216;go_wp2_with fail
  refine pst (HP.o) V ?_;intro w1 l o B;go_wp2_with fail
  refine(Y5_ R hi d m l ⟨#[46,46]⟩ w1 o.o).mono ?_;rw[ab.o];rintro e w2 ⟨rfl,h2⟩;have am:=hid (o.o.next h2);have X:=hid (B.o.below h2);clear h2;go_upto_region 5 with fail
  have af:=X.o.size;have aa:=hid ((GZ_ w2 k0).more (B':=w.heap.size) oo);have T:=hid (am.o.res_new (A:=some ⟨w2.heap.size,0,none⟩) (br.alloc (Nat.le_refl _) (.cells #[.int .i64 k0] 3)) (fun g hg=>by simp at hg;subst hg;simp));have Y:=hid (X.o.below (br.alloc (Nat.le_refl _) (.cells #[.int .i64 k0] 3)));generalize w2.alloc (.cells #[.int .i64 k0] 3)=w3 at aa T Y |-
  go_loopw [4] (fun v wr=>∃(M:Nat) (ks:LI) (st':RdSt) (row':ON) (A:OA) (c:Nat),v=.slice A ks.length c/\Hid (YS_ R.sg one N M ks st'=Q)/\Hid (LoB (s.at_+1) st')/\Hid (Enough R.n M st')/\Hid (KidB ks st')/\Hid (Mine wr w.heap.size 3 1 A ks.length c (Qa_ ks))/\Hid (RdI (R.res A) d st' row' wr)/\Hid (Kr R.T row w row' wr)) (fun _ wr=>ZY_ R wr)
  case atStart=>exact⟨N,[k0],m,l,_,1,rfl,J,q,(show Enough _ _ _ from QL_ hN _),I,aa,T,Y⟩
  case round=>
   clear J q aR o am T V B X Y aa I HP;obtain⟨M,ks,st',row',A,c,rfl,J,q,al,aq,HM,S,HK⟩:=hrel;have HS:=hid (vP_ _ hi d st' row' ⟨#[46,46]⟩ wr S.o);rcases bft (isM R.sg st' ⟨#[46,46]⟩)with b|b
   ·obtain⟨G,aY,aB⟩:=Xb_ b;subst aY;obtain⟨M,rfl⟩:∃M',M=M'+1:=⟨M - 1,by
     have h1:=al.o G rfl;have h2:=(S.o.le rfl).1;have:(R.res A).n=R.n:=rfl;omega⟩
    rw[b,Qv_ b]at HS;have n:=J.o;unfold YS_ at n;rw[if_pos b]at n;have a:=((Qh_ (some G)).trans (QS_ (sg:=R.sg) _)).trans (Vn_ (sg:=R.sg) HA.o N (Qi_ R.sg (Qe_ (some G))).1 (Qi_ R.sg (Qe_ (some G))).2);have j:=(Qh_ (some G)).trans (QS_ (sg:=R.sg) (Qe_ (some G)));have F:=hid (fun(row:ON) (W:World) h=>QaT_ (fun x=>R.U x\/A.map (·.block)=some x) hi d (Qe_ (some G)) row W h);generalize Qi_ R.sg (Qe_ (some G))=r2 at n a j F;obtain⟨nm,st2⟩:=r2;dsimp only at n a j F;have HC:=hid (fun(row:ON) (W:World) h=>QgH_ (fun x=>R.U x\/A.map (·.block)=some x) hi d (s.at_+1) one HO HA.o N nm st2 row W h (q.o.adv j) hN);generalize Yc_ R.sg one N nm st2=r3 at n a HC;obtain⟨kc,H⟩:=r3;dsimp only at n a HC;have aX:=hid n;have aM:=hid a;have a8:=(S.o.le rfl).2;have a6:=aq.o.2 G rfl;have a7:=aq.o.1;have aN:Hid (KidB (ks++[kc]) H):=(show KidB _ _ from⟨by rw[lA];simp;omega,fun t e=>by
     obtain⟨ba,e2,_,h3⟩:=a t e;obtain rfl:=Option.some.inj e2;rw[lA];simp;omega⟩)
    have aP:Hid (Enough R.n M H):=al.o.adv (i:=2) a;have aO:Hid (LoB (s.at_+1) H):=q.o.adv a;have aA:(ks++[kc]).length=ks.length+1:=(by simp);clear n b J a j aB;go_wp2_with fail
    refine HS.o.mono ?_;rintro e w4 ⟨rfl,O,h4,k4⟩;have D:=hid (S.o.keepI k4 HM.o);have p:=hid h4;have C:=hid (HK.o.trans k4);clear h4 k4 HS;go_wp2_with fail
    refine(F.o _ _ p.o).mono ?_;rintro e w5 ⟨rfl,P,h5,k5⟩;have av:=hid (p.o.keepI k5 D.o);have U:=hid h5;have ap:=hid (C.o.trans k5);clear h5 k5 F D p C;go_wp2_with fail
    refine(HC.o _ _ U.o).mono ?_;rintro e w6 ⟨rfl,aG,h6,k6⟩;have E:=hid (U.o.keepI k6 av.o);have an:=hid h6;have Z:=hid (ap.o.trans k6);clear h6 k6 HC av U ap;have a9:=Z.o.size;have aQ:=hid ar.o.1;go_wp2_with (at_builtin;(refine Qf_ _ rfl (.tmp 22) (.tmp 24) _ rfl w.heap.size 3 i0 (.int .i64 0) 1 8 underlying34 z.o.1 z.o.2.1 z.o.2.2.1 z.o.2.2.2 rfl (by decide) (.slice A ks.length c) ks.length (Qa_ ks) rfl (Mine.alloc E.o _) ⟨w6.heap.size,0,none⟩ 1 1 [.int .i64 kc] rfl rfl (Kq_ _ kc _) (Kr_ _) (by unfold maxLen;omega) oo (by simp;omega) ?_);intro v' w7 y ad L;obtain⟨A7,c7,rfl,h7,m7⟩:=RdI.appended an.o E.o aQ.o bra y ad L)
    have aT:=hid ((Z.o.below bra).grown ad (fun g hg=>by rw[Qw_]at hg;exact(Mine.blk E.o hg).1));rw[<-QO_]at m7;have ao:=hid h7;have aV:=hid m7;clear y ad L h7 m7 an E Z;go_wp2;go_roundw
    case rel=>exact⟨M,ks++[kc],H,aG,A7,c7,by rw[aA],aX,aO,aP,aN,by rw[aA];exact aV,ao,aT⟩
    case measure=>exact G5_ hi S.o ao.o (aM.o.weak (i':=1) (j':=0) oo oo)
   ·rw[b,QC_ b]at HS;have n:=J.o;have a2:Q=(ks,st'):=by
     cases M with
     |zero=>exact n.symm
     |succ M=>unfold YS_ at n;rw[b,if_neg (by decide)]at n;exact n.symm
    subst a2;clear J n b;go_wp2_with fail
    refine HS.o.mono ?_;rintro e w4 ⟨rfl,O,h4,k4⟩;have D:=hid (S.o.keepI k4 HM.o);have p:=hid h4.unres;have C:=hid (HK.o.trans k4);clear h4 k4 HS HM S HK;go_wp2_with fail
    refine(vV_ R hi d st' O 10 noT A ks.length c ks false w.heap.size w4 p.o D.o ar.o).mono ?_;rintro e w5 ⟨rfl,P,h5,k5⟩;go_wp2;go_ret;exact⟨rfl,P,h5,C.o.trans k5⟩
 ·rw[if_neg (by rw[b];decide)];have ab:=hid b;clear hI hn k K b ae h1;go_enter func216,ntmps216;go_wp2_with fail
  refine pst (HP.o) V ?_;intro w1 l o B;go_wp2_with fail
  refine(Y5_ R hi d m l ⟨#[46,46]⟩ w1 o.o).mono ?_;rw[ab.o];rintro e w2 ⟨rfl,h2⟩;go_wp2;go_ret;exact⟨rfl,l,o.o.next h2,B.o.below h2⟩
theorem QdV_ (R:RC) (hi:R.imp=true) (N f:Nat) (hN:R.n < N) (HE:EC R N f) (d:Nat) (st:RdSt) (row:ON) (w:World) (hI:RdI R d st row w) (hn:Need R.n st 2 (f+1)) (hd:d+(f+1)<=100000):
  Calls prog 247 #[.pointer (some ⟨R.T,0,none⟩)] w (Does R d row w (.int .i64 (endS R.sg (Qd_ R.sg N f) N d st).1) (endS R.sg (Qd_ R.sg N f) N d st).2):=by
 have aF:=hid hI;have ak:=hid (Kr.refl R.T row w);have ar:=hn.same (r':=1) oo (Adv.refl st);have HP:=hid (HE.base R.U d st row w hI ar oo);have B:=Qy_ (sg:=R.sg) (N:=N) f .base d st;have HA:=hid (fun st=>Qy_ (sg:=R.sg) (N:=N) f .value d st);have aX:=hI.ok.len;unfold Does at HP |-
 unfold endS;generalize Qd_ R.sg N f .base d st=r at HP B |-
 obtain⟨k0,az⟩:=r;dsimp only at HP B |-
 have HO:Hid (∀s,st=some s->s.at_ < R.n->OneC R 216 d (s.at_+1) (Qd_ R.sg N f .value d)):=(show ∀s,_->_->_ from fun s e aQ=>HE.one (d:=d) oo (by rw[<-e];exact hn) aQ);have L:=hid B;obtain⟨Q,hQ⟩:=ex_ (W1_ R.sg (Qd_ R.sg N f .value d) N N k0 az);rw[hQ];have O:=hid hQ;generalize Qd_ R.sg N f .value d=one at HO HA O;have aY:=kx_;clear hI hn B ar hQ;go_enter func247,ntmps247;go_wp2_with fail
 refine pst (HP.o) ak ?_;intro w1 av af al;go_upto_region 2 with fail
 go_loopw [3] (fun v wr=>∃(M:Nat) (k:Int) (st':RdSt) (row':ON),v=.int .i64 k/\Hid (W1_ R.sg one N M k st'=Q)/\Hid (Adv 1 1 st st')/\Hid (Enough R.n M st')/\Hid (RdI R d st' row' wr)/\Hid (Kr R.T row w row' wr)) (fun _ wr=>ZY_ R wr)
 case atStart=>exact⟨N,k0,az,av,rfl,O,L,(show Enough _ _ _ from QL_ hN _),af,al⟩
 case round=>
  clear O L aF af ak al HP;obtain⟨M,k,st',row',rfl,O,T,X,C,HK⟩:=hrel
  cases st' with
  |none=>
   obtain⟨a,b,AN,cN,l,K,hb,o⟩:=C.o;obtain⟨c0,c2,c3,c4,c5,cf,cz⟩:=K.ci hi;obtain rfl:b=true:=hb;have n:=O.o;rw[YY_]at n;subst n;clear K c0 c2 c3 c5 o O;go_wp2;go_ret;exact⟨rfl,row',C.o,HK.o⟩
  |some g=>
   obtain⟨s,es,ha,aS⟩:=T.o g rfl;obtain⟨M,rfl⟩:∃M',M=M'+1:=⟨M - 1,by
    have h1:=X.o g rfl;have h2:=(C.o.le rfl).1;omega⟩
   have aV:=(C.o.le rfl).1;have aM:=hid (HO.o s es oo);have aK:Hid (LoB (s.at_+1) (some g)):=(show LoB _ _ from fun t' e=>by obtain rfl:=Option.some.inj e;omega);obtain⟨a,b,AN,cN,l,K,hb,o⟩:=C.o;obtain⟨c0,c2,c3,c4,c5,cf,cz⟩:=K.ci hi;obtain⟨rfl,_,_⟩:=hb;have m:=hid (Y5_ R hi d (some g) row' ⟨#[40]⟩ wr C.o);have n:=O.o;unfold W1_ at n;rw[if_neg (show ¬(some g).isNone=true by simp)]at n;clear K c0 c2 c3 c5 o O es ha aS;rcases bft (isM R.sg (some g) ⟨#[40]⟩)with J|J
   ·rw[J]at m;rw[if_pos J]at n;have c:=Vn_ (sg:=R.sg) HA.o N k (some g);have HC:=hid (fun(row:ON) (W:World) h=>vh_ R hi d (s.at_+1) one aM HA.o N k (some g) row W h aK.o hN);unfold Does at HC;generalize Yc_ R.sg one N k (some g)=r3 at n c HC;obtain⟨kc,ab⟩:=r3;dsimp only at n c HC;have Z:=hid n;have D:=hid c;have V:Hid (Enough R.n M ab):=X.o.adv (i:=0) c;have U:Hid (Adv 1 1 st ab):=(T.o.trans c).weak oo oo;clear n J c;go_wp2_with fail
    refine m.o.mono ?_;rintro e w2 ⟨rfl,A⟩;have y:=hid (C.o.next A);have z:=hid (HK.o.below A);clear A m c4 cf cz;go_wp2_with fail
    refine(HC.o _ _ y.o).mono ?_;rintro e w3 ⟨rfl,j,G,I⟩;have p:=hid G;have E:=hid (z.o.trans I);clear G I;go_wp2;go_roundw
    case rel=>exact⟨M,kc,ab,j,rfl,Z,U,V,p,E⟩
    case measure=>exact Wi_ hi C.o p.o (D.o.weak (i':=1) (j':=0) oo oo)
   ·rw[J]at m;rw[if_neg (by rw[J];decide)]at n;have P:=hid (fun(W:World) h=>YG_ R hi d (some g) row' ⟨#[46]⟩ W h);unfold Does at P;rcases bft (isM R.sg (some g) ⟨#[46]⟩)with H|H
    ·rw[H,Qv_ H]at P;rw[if_pos H]at n;have F:=hid (fun(row:ON) (W:World) h=>Ky_ R hi d (Qe_ (some g)) row 0 W h oo);rcases bft (Kd_ R.sg (Qe_ (some g)) 0)with q|q
     ·rw[if_pos q]at n;rw[q]at F;have S:∀t,Qe_ (some g)=some t->t.at_ < R.n:=fun t e=>by
       obtain⟨t',e',hl⟩:=Z4_ q;rw[e]at e';obtain rfl:=Option.some.inj e';omega
      have HX:=hid (fun(row:ON) (W:World) h=>Q8_ R hi d (Qe_ (some g)) row W h);have c:=((Qh_ (some g)).trans (Q5_ (Qe_ (some g)) ⟨6,(Qu_ R.sg (Qe_ (some g)) 0).2.1,[k],false⟩)).trans (Qh_ _);generalize Qu_ R.sg (Qe_ (some g)) 0=x at n HX c;obtain⟨xk,xt,xp,xz⟩:=x;dsimp only at n HX c;have aL:Hid (∀t,(KC_ (Qe_ (some g)) ⟨6,xt,[k],false⟩).2=some t->t.at_ < R.n):=(show ∀t,_->_ from fun t e=>by
       rw[zp_ (s:=⟨g.at_+1,g.nodes⟩) rfl e];exact S _ rfl)
      have Z:=hid n;have D:=hid c;have V:Hid (Enough R.n M (Qe_ (KC_ (Qe_ (some g)) ⟨6,xt,[k],false⟩).2)):=X.o.adv (i:=1) c;have U:Hid (Adv 1 1 st (Qe_ (KC_ (Qe_ (some g)) ⟨6,xt,[k],false⟩).2)):=(T.o.trans c).weak oo oo;clear n J H q c S;go_wp2_with fail
      refine m.o.mono ?_;rintro e w2 ⟨rfl,A⟩;have y:=hid (C.o.next A);have z:=hid (HK.o.below A);clear A m c4 cf cz;go_wp2_with fail
      refine(P.o _ y.o).mono ?_;rintro e w3 ⟨rfl,j,G,I⟩;have p:=hid G;have E:=hid (z.o.trans I);clear G I P;go_wp2_with fail
      refine(F.o _ _ p.o).mono ?_;rintro e w4 ⟨rfl,g4⟩;have ag:=hid (p.o.next g4);have Y:=hid (E.o.below g4);clear g4 F;go_wp2_with fail
      refine(HX.o _ _ ag.o).mono ?_;rintro e w5 ⟨rfl,g5⟩;have ah:=hid (ag.o.next g5);have aH:=hid (Y.o.below g5);clear g5 HX;have am:=hid ah.o.lo;go_wp2_with fail
      refine pst (vV_ R hi d (Qe_ (some g)) j 6 xt (some ⟨w5.heap.size,0,none⟩) 1 1 [k] false w5.heap.size _ (ah.o.alloc _) (GZ_ w5 k) am.o) aH ?_;intro w6 ax aG aI;go_wp2_with fail
      refine pst (Zi_ R hi d _ ax w6 aG.o aL.o) aI ?_;intro w7 ay ai aJ;go_wp2;go_roundw
      case rel=>exact⟨M,_,_,ay,rfl,Z,U,V,ai,aJ⟩
      case measure=>exact Wi_ hi C.o ai.o (D.o.weak (i':=1) (j':=0) oo oo)
     ·rw[if_neg (by rw[q];decide)]at n;rw[q]at F;subst n;clear J H q;go_wp2_with fail
      refine m.o.mono ?_;rintro e w2 ⟨rfl,A⟩;have y:=hid (C.o.next A);have z:=hid (HK.o.below A);clear A m c4 cf cz;go_wp2_with fail
      refine(P.o _ y.o).mono ?_;rintro e w3 ⟨rfl,j,G,I⟩;have p:=hid G;have E:=hid (z.o.trans I);clear G I P;go_wp2_with fail
      refine(F.o _ _ p.o).mono ?_;rintro e w4 ⟨rfl,g4⟩;obtain⟨a,b,AN,cN,l,K,aT,o⟩:=p.o.next g4;obtain⟨c0,c2,c3,c4,c5,cf,cz⟩:=K.ci hi;have HF:=hid (RdI.bad1 hi K o);have Y:=hid (E.o.below g4);clear K aT o c0 c2 c3 c5 g4;go_wp2;go_ret;exact⟨rfl,j,HF.o.1,Y.o.trans HF.o.2⟩
    ·rw[H,QC_ H]at P;rw[if_neg (by rw[H];decide)]at n;subst n;clear J H;go_wp2_with fail
     refine m.o.mono ?_;rintro e w2 ⟨rfl,A⟩;have y:=hid (C.o.next A);have z:=hid (HK.o.below A);clear A m c4 cf cz;go_wp2_with fail
     refine(P.o _ y.o).mono ?_;rintro e w3 ⟨rfl,j,G,I⟩;go_wp2;go_ret;exact⟨rfl,j,G,z.o.trans I⟩
theorem We_ {R:RC} (U:Nat->Prop) (hi:R.imp=true) (d:Nat) (st:RdSt) (row:ON) (m:BA) (N:Nat) (w:World) (hI:RdI { R with U:=U } d st row w) (hN:R.n < N):
  Calls prog 179 #[.pointer (some ⟨R.T,0,none⟩),.string m,.func (.func 180) #[.pointer (some ⟨R.T,0,none⟩)] #[]] w fun e w'=>∃(A:OA) (c:Nat),e=.returned (.slice A (QF_ R.sg (Qi_ R.sg) m N [] st).1.length c)/\Mine w' w.heap.size 3 1 A (QF_ R.sg (Qi_ R.sg) m N [] st).1.length c (Qa_ (QF_ R.sg (Qi_ R.sg) m N [] st).1)/\(QF_ R.sg (Qi_ R.sg) m N [] st).1.length<=301/\∃row',RdI (({ R with U:=U }:RC).res A) d (QF_ R.sg (Qi_ R.sg) m N [] st).2 row' w'/\Kr R.T row w row' w':=
 jl_ { R with U:=U } hi d 0 (Qi_ R.sg) (show OneC _ _ _ _ _ from fun U st row w h _=>Vd_ { R with U:=U } hi d st row w h) QS_ m N st row w hI (fun s _=>Nat.zero_le _) (QL_ hN _)
theorem Qfp_ (R:RC) (hi:R.imp=true) (N f:Nat) (hN:R.n < N) (HE:EC R N f) (d:Nat) (st:RdSt) (row:ON) (w:World) (hI:RdI R d st row w) (s:PS) (hs:st=some s) (ac:s.at_ < R.n) (hn:Need R.n st 1 (f+1)) (hd:d+(f+1)<=100000):
  Calls prog 252 #[.pointer (some ⟨R.T,0,none⟩)] w (Does R d row w (.int .i64 (fnS R.sg (Qd_ R.sg N f) N d st).1) (fnS R.sg (Qd_ R.sg N f) N d st).2):=by
 obtain⟨i0,E,F,l,G⟩:=info_parts QB_;have j:=hid (And.intro E (And.intro F (And.intro l G)));clear E F l G;have O:=hid hI;have T:=hid (Kr.refl R.T row w);have z:=hid hI.lo;subst hs;unfold Does fnS;dsimp only;have K:=hid (fun(row:ON) (W:World) h=>We_ R.U hi d (Qk_ R.sg (some s) ⟨#[40]⟩) row ⟨#[41]⟩ N W h hN);have a:=((Qo_ (sg:=R.sg) (some s) ⟨#[40]⟩).trans (Yv_ (sg:=R.sg) (QS_ (sg:=R.sg)) ⟨#[41]⟩ N [] (Qk_ R.sg (some s) ⟨#[40]⟩)).2);generalize QF_ R.sg (Qi_ R.sg) ⟨#[41]⟩ N [] (Qk_ R.sg (some s) ⟨#[40]⟩)=q at K a |-
 obtain⟨ks,st2⟩:=q;dsimp only at K a |-
 have b:=(a.trans (Qo_ (sg:=R.sg) _ ⟨#[41]⟩)).trans (Qo_ (sg:=R.sg) _ ⟨#[61,62]⟩);have D:=hid (fun(U:Nat->Prop) (row:ON) (W:World) h=>HE.pick U d (Qk_ R.sg (Qk_ R.sg st2 ⟨#[41]⟩) ⟨#[61,62]⟩) row W h (hn.next ac (b.weak (i':=1) (j':=0) oo oo) oo) oo);unfold Does at D;generalize Qd_ R.sg N f .pick d (Qk_ R.sg (Qk_ R.sg st2 ⟨#[41]⟩) ⟨#[61,62]⟩)=r at D |-
 obtain⟨k,ah⟩:=r;dsimp only at D |-
 clear hI hn a b;go_enter func252,ntmps252;go_wp2_with fail
 refine pst (ZP_ R hi d (some s) row ⟨#[40]⟩ w O.o) T ?_;intro w1 ai P x;go_wp2_with fail
 refine(K.o _ _ P.o).mono ?_;rintro e w2 ⟨A,c,rfl,m2,ak,row2,h2,k2⟩;have V:=QQ_ x k2;have p:=hid h2;have l:=x.o.size;have HM:=hid (m2.more (B':=w.heap.size) l);clear h2 k2 m2 K;go_wp2_with fail
 refine(vQ_ _ hi d st2 row2 ⟨#[41]⟩ w2 p.o).mono ?_;rintro e w3 ⟨rfl,H,h3,k3⟩;have B:=hid (p.o.keepI k3 HM.o);have t:=hid h3;have X:=hid (V.o.trans k3);clear h3 k3 HM;go_wp2_with fail
 refine(vQ_ _ hi d _ H ⟨#[61,62]⟩ w3 t.o).mono ?_;rintro e w4 ⟨rfl,aj,h4,k4⟩;have C:=hid (t.o.keepI k4 B.o);have v:=hid h4;have Y:=hid (X.o.trans k4);clear h4 k4 B;go_wp2_with fail
 refine(D.o _ _ _ v.o).mono ?_;rintro e w5 ⟨rfl,I,h5,k5⟩;have n:=hid (v.o.keepI k5 C.o);have Q:=hid h5;have y:=hid (Y.o.trans k5);clear h5 k5 C D;have am:=y.o.size;have M:=hid z.o.1;have al:(ks++[k]).length=ks.length+1:=by simp
 go_wp2_with (at_builtin;(refine Qf_ _ rfl (.tmp 18) (.tmp 20) _ rfl w.heap.size 3 i0 (.int .i64 0) 1 8 underlying34 j.o.1 j.o.2.1 j.o.2.2.1 j.o.2.2.2 rfl (by decide) (.slice A ks.length c) ks.length (Qa_ ks) rfl (Mine.alloc n.o _) ⟨w5.heap.size,0,none⟩ 1 1 [.int .i64 k] rfl rfl (Kq_ _ k _) (Kr_ _) (by unfold maxLen;omega) oo (by simp;omega) ?_);intro v' w7 i o m;obtain⟨A7,c7,rfl,h7,m7⟩:=RdI.appended Q.o n.o M.o bra i o m)
 have Z:=hid ((y.o.below bra).grown o (fun g hg=>by rw[Qw_]at hg;exact(Mine.blk n.o hg).1));rw[<-QO_]at m7;have S:=hid h7.unres;have aa:=hid m7;clear i o m h7 m7;have hA:=vV_ R hi d ah I 9 noT A7 (ks.length+1) c7 (ks++[k]) false w.heap.size w7 S.o aa.o z.o;unfold Does at hA;have L:=hid hA;clear hA;go_wp2_with fail
 refine L.o.mono ?_;rintro e w8 ⟨rfl,J,h8,k8⟩;go_wp2;go_ret;exact⟨rfl,J,h8,Z.o.trans k8⟩
theorem QbL_ (R:RC) (hi:R.imp=true) (N f:Nat) (hN:R.n < N) (HE:EC R N f) (d:Nat) (st:RdSt) (row:ON) (w:World) (I:RdI R d st row w) (V:Need R.n st 1 (f+1)) (hd:d+(f+1)<=100000):
  Calls prog 250 #[.pointer (some ⟨R.T,0,none⟩)] w (Does R d row w (.int .i64 (Yx_ R.sg (Qd_ R.sg N f) N d st).1) (Yx_ R.sg (Qd_ R.sg N f) N d st).2):=by
 have E:=hid I;have F:=hid (Kr.refl R.T row w);have Y:=hid (Q8_ R hi d st row w I);have D:st=none->(Qu_ R.sg st 0).1=0:=fun e=>by rw[e];rfl
 have v:∀s,st=some s->(Qu_ R.sg st 0).1≠0->s.at_ < R.n:=fun s e h=>by
  rcases Nat.lt_or_ge s.at_ R.sg.length with hl|hl
  ·rw[<-I.ok.len];exact hl
  ·exact absurd (by rw[e,ZM_ (i:=0) hl]) h
 have C:∀m,isM R.sg st m=true->(Qu_ R.sg st 0).1=4:=fun m h=>by unfold isM at h;simp only[Bool.and_eq_true]at h;exact eq_of_beq h.1
 have B:=fun m=>(show isM R.sg st m=(((Qu_ R.sg st 0).1==4)&&((Qu_ R.sg st 0).2.1.toList==m.toList))from rfl)
 unfold Does;unfold Yx_;generalize hx:Qu_ R.sg st 0=x at Y D v C B |-
 obtain⟨kd,xt,xp,xz⟩:=x;dsimp only at Y D v C B |-
 have aO:∀w1,Below w.heap.size w w1->Below w.heap.size w (w1.alloc (.cells #[.int .i64 kd,.string xt,.int .i64 xp,.bool xz] 68)):=fun w1 h=>h.alloc h.size _
 by_cases h1:kd=1
 ·rw[if_pos h1];subst h1;have p:=hid (fun(row:ON) (W:World) h=>Vd_ R hi d st row W h);unfold Does at p;generalize Qi_ R.sg st=r at p |-
  obtain⟨k,st2⟩:=r;dsimp only at p |-
  clear I V D v C B hx;go_enter func250,ntmps250;go_wp2_with fail
  refine rst (Y.o) E F ?_;intro w1 n o;go_wp2_with fail
  refine pst (p.o _ _ (n.o.alloc _)) o ?_;intro w2 row2 g j;go_wp2;go_ret;exact⟨rfl,row2,g.o,j.o⟩
 ·rw[if_neg h1];have an:(kd==1)=false:=by rw[beq_eq_false_iff_ne];exact h1
  by_cases y:kd=2
  ·rw[if_pos y];subst y;have p:=hid (fun(row:ON) (W:World) h=>VZ_ R hi d st row 2 W h (fun s e=>v s e (by decide)));unfold Does at p;generalize YD_ R.sg 2 st=r at p |-
   obtain⟨k,st2⟩:=r;dsimp only at p |-
   clear I V D v C B hx h1 an;go_enter func250,ntmps250;go_wp2_with fail
   refine rst (Y.o) E F ?_;intro w1 n o;go_wp2_with fail
   refine pst (p.o _ _ (n.o.alloc _)) o ?_;intro w2 row2 g j;go_wp2;go_ret;exact⟨rfl,row2,g.o,j.o⟩
  ·rw[if_neg y];have aF:(kd==2)=false:=(by rw[beq_eq_false_iff_ne];exact y);by_cases S:kd=3
   ·rw[if_pos S];subst S;have p:=hid (fun(row:ON) (W:World) h=>VZ_ R hi d st row 3 W h (fun s e=>v s e (by decide)));unfold Does at p;generalize YD_ R.sg 3 st=r at p |-
    obtain⟨k,st2⟩:=r;dsimp only at p |-
    clear I V D v C B hx h1 an y aF;go_enter func250,ntmps250;go_wp2_with fail
    refine rst (Y.o) E F ?_;intro w1 n o;go_wp2_with fail
    refine pst (p.o _ _ (n.o.alloc _)) o ?_;intro w2 row2 g j;go_wp2;go_ret;exact⟨rfl,row2,g.o,j.o⟩
   ·rw[if_neg S];have aN:(kd==3)=false:=(by rw[beq_eq_false_iff_ne];exact S);have HS:=hid (fun(m:BA) (row:ON) (W:World) h=>YG_ R hi d st row m W h);unfold Does at HS;rcases bft (isM R.sg st ⟨#[91]⟩)with L|L
    ·rw[if_pos L];have K:=Qv_ L;obtain⟨s,es,J⟩:=Xb_ L;subst es;have Z:s.at_ < R.n:=(by rw[<-I.ok.len];exact J);unfold Qcs_;dsimp only;have HO:=hid (HE.one (d:=d) oo V Z);have HA:=(fun st=>Qy_ (sg:=R.sg) (N:=N) f .value d st);have ak:LoB (s.at_+1) (Qe_ (some s)):=fun t e=>by obtain rfl:=Option.some.inj e;exact Nat.le_refl _
     have HL:=hid (fun(row:ON) (W:World) h=>G1_ R hi d (s.at_+1) (Qd_ R.sg N f .value d) HO HA ⟨#[93]⟩ N (Qe_ (some s)) row W h ak (QL_ hN _));unfold QbB_ at HL;generalize QF_ R.sg (Qd_ R.sg N f .value d) ⟨#[93]⟩ N [] (Qe_ (some s))=q at HL |-
     obtain⟨ks,aL⟩:=q;dsimp only at HL |-
     have O:=hid L;have P:=hid K;have aD:=hid I.lo;clear I V D v C B hx h1 y S HA ak L K J HO;go_enter func250,ntmps250;go_wp2_with fail
     refine rst (Y.o) E F ?_;intro w1 n o;go_wp2_with fail
     refine(HS.o ⟨#[91]⟩ _ _ (n.o.alloc _)).mono ?_;rw[O.o,P.o];rintro e w2 ⟨rfl,row2,y,T⟩;have j:=QQ_ o T;have g:=hid y;clear y T;have aK:=j.o.size;go_wp2_with fail
     refine(HL.o _ _ g.o).mono ?_;rintro e w3 ⟨A,c,rfl,m3,aP,ao,S,k3⟩;have G:=QQ_ j k3;have z:=hid S.unres;have aE:=hid (m3.more (B':=w.heap.size) aK);clear S k3 m3;have hA:=Ku_ R hi d aL ao ⟨#[93]⟩ 4 noT A ks.length c ks false w.heap.size w3 z.o aE.o aD.o;unfold Does at hA;have ay:=hid hA;clear hA;go_wp2_with fail
     refine ay.o.mono ?_;rintro e w4 ⟨rfl,U,h4,k4⟩;go_wp2;go_ret;exact⟨rfl,U,h4,G.o.trans k4⟩
    ·rw[if_neg (by rw[L];decide)];have O:=hid L;have P:=hid (QC_ L);have HQ:=hid (fun(row:ON) (W:World) h=>Y5_ R hi d st row ⟨#[40]⟩ W h);rcases bft (isM R.sg st ⟨#[40]⟩)with H|H
     ·rw[if_pos H];rw[H]at HQ;have K:=Qv_ H;obtain⟨s,es,J⟩:=Xb_ H;subst es;have Z:s.at_ < R.n:=(by rw[<-I.ok.len];exact J);have X:=hid (fun(row:ON) (W:World) h=>Qaj_ R hi d (some s) row W h);rcases bft (fnB R.sg (some s))with hF|hF
      ·rw[if_pos hF];rw[hF]at X;have p:=hid (fun(row:ON) (W:World) h=>Qfp_ R hi N f hN HE d (some s) row W h s rfl Z V hd);unfold Does at p;generalize fnS R.sg (Qd_ R.sg N f) N d (some s)=r at p |-
       obtain⟨k,ar⟩:=r;dsimp only at p |-
       clear I V D v C B hx h1 y S L H K J hF;go_enter func250,ntmps250;go_wp2_with fail
       refine rst (Y.o) E F ?_;intro w1 n o;go_wp2_with fail
       refine(HS.o ⟨#[91]⟩ _ _ (n.o.alloc _)).mono ?_;rw[O.o,P.o];rintro e w2 ⟨rfl,row2,y,T⟩;have j:=QQ_ o T;have g:=hid y;clear y T;go_wp2_with fail
       refine rst (HQ.o _ _ g.o) g j ?_;intro w3 z G;go_wp2_with fail
       refine rst (X.o _ _ z.o) z G ?_;intro w4 ad M;go_wp2_with fail
       refine pst (p.o _ _ ad.o) M ?_;intro w5 ab ae af;go_wp2;go_ret;exact⟨rfl,ab,ae.o,af.o⟩
      ·rw[if_neg (by rw[hF];decide)];rw[hF]at X;unfold parS;dsimp only;have p:=hid (fun(row:ON) (W:World) h=>HE.value R.U d (Qe_ (some s)) row W h (V.next Z (Qh_ _) oo) oo);unfold Does at p;generalize Qd_ R.sg N f .value d (Qe_ (some s))=r at p |-
       obtain⟨k,ar⟩:=r;dsimp only at p |-
       have ac:=hid H;have Q:=hid K;clear I V D v C B hx h1 y S L H K J hF;go_enter func250,ntmps250;go_wp2_with fail
       refine rst (Y.o) E F ?_;intro w1 n o;go_wp2_with fail
       refine(HS.o ⟨#[91]⟩ _ _ (n.o.alloc _)).mono ?_;rw[O.o,P.o];rintro e w2 ⟨rfl,row2,y,T⟩;have j:=QQ_ o T;have g:=hid y;clear y T;go_wp2_with fail
       refine rst (HQ.o _ _ g.o) g j ?_;intro w3 z G;go_wp2_with fail
       refine rst (X.o _ _ z.o) z G ?_;intro w4 ad M;go_wp2_with fail
       refine(HS.o ⟨#[40]⟩ _ _ ad.o).mono ?_;rw[ac.o,Q.o];rintro e w5 ⟨rfl,ab,h5,k5⟩;have af:=QQ_ M k5;have ae:=hid h5;clear h5 k5;go_wp2_with fail
       refine pst (p.o _ _ ae.o) af ?_;intro w6 ap aj aB;have al:=hid aj.o.lo;go_wp2_with fail
       refine pst (Ku_ R hi d ar ap ⟨#[41]⟩ 11 noT (some ⟨w6.heap.size,0,none⟩) 1 1 [k] false w6.heap.size _ (aj.o.alloc _) (GZ_ w6 k) al.o) aB ?_;intro w7 aq aA aC;go_wp2;go_ret;exact⟨rfl,aq,aA.o,aC.o⟩
     ·rw[if_neg (by rw[H];decide)];rw[H]at HQ;have ac:=hid H;have Q:=hid (QC_ H);clear I V D v C B hx h1 y S L H;go_enter func250,ntmps250;go_wp2_with fail
      refine rst (Y.o) E F ?_;intro w1 n o;go_wp2_with fail
      refine(HS.o ⟨#[91]⟩ _ _ (n.o.alloc _)).mono ?_;rw[O.o,P.o];rintro e w2 ⟨rfl,row2,y,T⟩;have j:=QQ_ o T;have g:=hid y;clear y T;go_wp2_with fail
      refine rst (HQ.o _ _ g.o) g j ?_;intro w3 z G;go_wp2_with fail
      refine(HS.o ⟨#[40]⟩ _ _ z.o).mono ?_;rw[ac.o,Q.o];rintro e w4 ⟨rfl,U,h4,k4⟩;have M:=QQ_ G k4;obtain⟨a,b,AN,cN,l,hc,aJ,aa⟩:=h4;obtain⟨c0,c2,c3,c4,c5,cf,cz⟩:=hc.ci hi;have HF:=hid (RdI.bad1 hi hc aa);clear hc aJ aa c0 c2 c3 c5 k4;go_wp2;go_ret;exact⟨rfl,U,HF.o.1,M.o.trans HF.o.2⟩
section
variable {R:RC} {d:Nat} {st:RdSt} {row row' row0:ON} {w w' w0:World} {g:Nat} {cs:Array Value}
theorem RdI.setBox (h:RdI R d st row w) (K:Blk w g 36 cs) (h2:some g≠row) (o:R.w0.heap.size<=g) (i:Nat) (u:Value):RdI R d st row (w.setCell ⟨g,i,none⟩ u):=by
 obtain⟨a,b,AN,cN,l,⟨c1,c2,j,c4,c5,c6,c7⟩,p,hr⟩:=h;refine⟨a,b,AN,cN,l,⟨c1.far (KM_ c1 K R.ty_node) u,?_,⟨fun x hx=>⟨(j.1 x hx).1,Kx_ (j.1 x hx).2 K (by decide) _ _⟩,fun g o=>by simpa[World.setCell]using j.2 g o⟩,c4,c5,c6.setCell o _,c7⟩,p,hr⟩;have c:=c2.len;rcases c2.own with⟨f,e2,e3⟩|⟨g',f,k,hn,n,rest,m,hs⟩
 ·rw[f,e2,e3];exact⟨by rw[c,e2],.inl ⟨rfl,rfl⟩⟩
 ·rw[f];refine Mine.mk_own ⟨rest,m.far (fun e=>?_) u,hs⟩ c k hn n;have e':g'=g:=e;apply h2;rw[hr,f,e'];rfl
theorem Kr.setBox {T:Nat} (h:Kr T row0 w0 row w) (hg:w0.heap.size<=g) (i:Nat) (u:Value):Kr T row0 w0 row (w.setCell ⟨g,i,none⟩ u):=
 ⟨Nat.le_trans h.1 (by simp[World.setCell]),h.2.1,fun q hq ht hr=>(Below.heap_setCell w ⟨g,i,none⟩ u q (by show q≠g;omega)).trans (h.2.2 q hq ht hr)⟩
theorem vO_ (w:World) (p:Addr) (u:Value):(w.setCell p u).heap.size=w.heap.size:=by simp[World.setCell]
theorem UB_ {T:Nat} {t:TypeId} (K:Blk w g t cs) (k:Kr T row w row' w') (h1:g≠T) (h2:some g≠row):Blk w' g t cs/\some g≠row':=
 ⟨K.kr k h1 h2,k.fresh h2 K.lt⟩
theorem Ww_ (h:RdI R d st row w):some w.heap.size≠row:=fun e=>by have:=h.row_lt e;omega
end
theorem Gh_ (R:RC) (hi:R.imp=true) (N f:Nat) (HE:EC R N f) (d:Nat) (b:Bool) (s:PS) (row:ON) (w:World) (V:RdI R d (some s) row w) (q:s.at_ < R.n) {r:Nat} (hn:Need R.n (some s) r (f+1)) (hd:d+f<=100000):
  Calls prog 175 #[.pointer (some ⟨R.T,0,none⟩),.bool b] w (Does R d row w (.int .i64 (Ji_ R.sg (Qd_ R.sg N f) d b (Qe_ (some s))).1) (Ji_ R.sg (Qd_ R.sg N f) d b (Qe_ (some s))).2):=by
 have J:=hid V;have L:=hid (Kr.refl R.T row w);have ab:=hid V.lo;have HL:=hid (fun t (e:(some s)=some t)=>show t.at_ < R.n by obtain rfl:=Option.some.inj e;exact q);have j:=hid (fun(row:ON) (W:World) h=>JV_ R hi d (Qe_ (some s)) row W h);unfold Does at j |-
 unfold Ji_;dsimp only;have g:=(Qh_ (some s)).trans (Jm_ (sg:=R.sg) (Qe_ (some s)));generalize nmT R.sg (Qe_ (some s))=X at j |-
 generalize nmS R.sg (Qe_ (some s))=st2 at j g |-
 have HS:=hid (fun(row:ON) (W:World) h=>YG_ R hi d st2 row ⟨#[61]⟩ W h);unfold Does at HS;rcases bft (isM R.sg st2 ⟨#[61]⟩)with p|p
 ·rw[if_pos p];have D:=hid p;have E:=hid (Qv_ p);have U:=hid (fun(row:ON) (W:World) h=>HE.value R.U d (Qe_ st2) row W h (hn.next q (g.trans (Qh_ _)) oo) hd);unfold Does at U;generalize Qd_ R.sg N f .value d (Qe_ st2)=r4 at U |-
  obtain⟨k,ak⟩:=r4;dsimp only at U |-
  clear V hn p g q;go_enter func175,ntmps175;go_wp2_with fail
  refine pst (Zi_ R hi d (some s) row w J.o HL.o) L ?_;intro w1 S z A;go_wp2_with fail
  refine pst (j.o _ _ z.o) A ?_;intro w2 row2 a i;have G:=i.o.size;have af:=a.o.lt;have c:=Ww_ a.o;have O:=Blk.new w2 36 #[.int .i64 12,.string X,.slice none 0 0,.bool b];go_wp2_with fail
  refine(HS.o _ _ (a.o.alloc _)).mono ?_;rw[D.o,E.o];rintro e w3 ⟨rfl,y,Q,v⟩;have B:=QQ_ i v;have o:=hid Q;obtain⟨x,m⟩:=UB_ O v oo c;clear Q v O;go_wp2_with fail
  refine(U.o _ _ o.o).mono ?_;rintro e H ⟨rfl,T,h4,k4⟩;have Z:=QQ_ B k4;have Y:=hid h4;obtain⟨I,F⟩:=UB_ x k4 oo m;clear h4 k4 x;have K:=hid (Y.o.setBox I F (Nat.le_trans ab.o.1 G) 2 (.slice (some ⟨H.heap.size,0,none⟩) 1 1));have aa:=hid (Z.o.setBox G 2 (.slice (some ⟨H.heap.size,0,none⟩) 1 1));have P:=(I.set_ 2 (.slice (some ⟨H.heap.size,0,none⟩) 1 1)).alloc (.cells #[.int .i64 k] 3);have hm:=GZ_ (H.setCell ⟨w2.heap.size,2,none⟩ (.slice (some ⟨H.heap.size,0,none⟩) 1 1)) k;have l:=K.o.lo;rw[vO_]at hm l;have ac:=hid hm;have M:=hid l;have j2:=I.cell 2;have jf:=I.frozen;have jz:=I.lt;have k0:=P.cell 0;have k1:=P.cell 1;have k2:=P.cell 2;have v:=P.cell 3;simp only[List.setIfInBounds_toArray,List.set_cons_succ,List.set_cons_zero,List.getElem?_toArray,List.getElem?_cons_zero,List.getElem?_cons_succ]at k0 k1 k2 v j2;clear I P hm l;go_wp2_with fail
  refine(Ku_ R hi d ak T ⟨#[59]⟩ 12 X (some ⟨H.heap.size,0,none⟩) 1 1 [k] b H.heap.size _ (K.o.alloc _) ac.o M.o).mono ?_;rintro e w6 ⟨rfl,n,h6,k6⟩;have C:=QQ_ aa k6;go_wp2;go_ret;exact⟨rfl,n,h6,C.o⟩
 ·rw[if_neg (by rw[p];decide)];have D:=hid p;have E:=hid (QC_ p);clear V hn p g q;go_enter func175,ntmps175;go_wp2_with fail
  refine pst (Zi_ R hi d (some s) row w J.o HL.o) L ?_;intro w1 S z A;go_wp2_with fail
  refine pst (j.o _ _ z.o) A ?_;intro w2 row2 a i;have G:=i.o.size;have af:=a.o.lt;have c:=Ww_ a.o;have O:=Blk.new w2 36 #[.int .i64 12,.string X,.slice none 0 0,.bool b];go_wp2_with fail
  refine(HS.o _ _ (a.o.alloc _)).mono ?_;rw[D.o,E.o];rintro e w3 ⟨rfl,y,Q,v⟩;have B:=QQ_ i v;have o:=hid Q;obtain⟨x,m⟩:=UB_ O v oo c;have k0:=x.q0;have k1:=x.q1;have k2:=x.q2;have al:=x.q3;clear Q v O x;go_wp2_with fail
  refine(Ku_ R hi d st2 y ⟨#[59]⟩ 12 X none 0 0 [] b w3.heap.size _ o.o (Mine.mk_nil _ _ _ _) o.o.lo).mono ?_;rintro e w6 ⟨rfl,n,h6,k6⟩;have C:=QQ_ B k6;go_wp2;go_ret;exact⟨rfl,n,h6,C.o⟩
theorem Qay_ (R:RC) (hi:R.imp=true) (N f:Nat) (HE:EC R N f) (d:Nat) (b:Bool) (s:PS) (row:ON) (w:World) (M:RdI R d (some s) row w) (n:s.at_ < R.n) {r:Nat} (X:Need R.n (some s) r (f+1)) (hd:d+f<=100000):
  Calls prog 237 #[.pointer (some ⟨R.T,0,none⟩),.bool b] w (Does R d row w (.int .i64 (Yk_ R.sg (Qd_ R.sg N f) d b (Qe_ (some s))).1) (Yk_ R.sg (Qd_ R.sg N f) d b (Qe_ (some s))).2):=by
 have C:=hid M;have E:=hid (Kr.refl R.T row w);have S:=hid M.lo;have HL:=hid (fun t (e:(some s)=some t)=>show t.at_ < R.n by obtain rfl:=Option.some.inj e;exact n);unfold Does Yk_;dsimp only;have c:=(Qh_ (some s));have L:=hid (fun(row:ON) (W:World) h=>Y5_ R hi d (Qe_ (some s)) row ⟨#[59]⟩ W h);rcases bft (isM R.sg (Qe_ (some s)) ⟨#[59]⟩)with x|x
 ·rw[if_pos x];rw[x]at L;clear M X x c n;go_enter func237,ntmps237;go_wp2_with fail
  refine pst (Zi_ R hi d (some s) row w C.o HL.o) E ?_;intro w1 p a l;have G:=Blk.new w1 36 #[.int .i64 15,.string ⟨#[]⟩,.slice none 0 0,.bool b];go_wp2_with fail
  refine(L.o _ _ (a.o.alloc _)).mono ?_;rintro e w3 ⟨rfl,m⟩;have q:=hid ((l.o.below bra).below m);have j:=hid ((a.o.alloc _).next m);have o:=G.next m;have k0:=o.q0;have k1:=o.q1;have k2:=o.q2;have ac:=o.q3;clear m G o;go_wp2_with fail
  refine(Ku_ R hi d _ p ⟨#[59]⟩ 15 noT none 0 0 [] b w3.heap.size _ j.o (Mine.mk_nil _ _ _ _) j.o.lo).mono ?_;rintro e w6 ⟨rfl,i,U,Z⟩;have v:=QQ_ q Z;go_wp2;go_ret;exact⟨rfl,i,U,v.o⟩
 ·rw[if_neg (by rw[x];decide)];rw[x]at L;have K:=hid (fun(row:ON) (W:World) h=>HE.value R.U d (Qe_ (some s)) row W h (X.next n c oo) hd);unfold Does at K;generalize Qd_ R.sg N f .value d (Qe_ (some s))=r4 at K |-
  obtain⟨k,aa⟩:=r4;dsimp only at K |-
  clear M X x c n;go_enter func237,ntmps237;go_wp2_with fail
  refine pst (Zi_ R hi d (some s) row w C.o HL.o) E ?_;intro w1 p a l;have I:=l.o.size;have ab:=a.o.lt;have y:=Ww_ a.o;have G:=Blk.new w1 36 #[.int .i64 15,.string ⟨#[]⟩,.slice none 0 0,.bool b];go_wp2_with fail
  refine(L.o _ _ (a.o.alloc _)).mono ?_;rintro e w3 ⟨rfl,m⟩;have q:=hid ((l.o.below bra).below m);have j:=hid ((a.o.alloc _).next m);have o:=G.next m;clear m G;go_wp2_with fail
  refine(K.o _ _ j.o).mono ?_;rintro e A ⟨rfl,J,h4,Y⟩;have P:=QQ_ q Y;have O:=hid h4;obtain⟨B,z⟩:=UB_ o Y oo y;clear h4 Y o;have D:=hid (O.o.setBox B z (Nat.le_trans S.o.1 I) 2 (.slice (some ⟨A.heap.size,0,none⟩) 1 1));have Q:=hid (P.o.setBox I 2 (.slice (some ⟨A.heap.size,0,none⟩) 1 1));have H:=(B.set_ 2 (.slice (some ⟨A.heap.size,0,none⟩) 1 1)).alloc (.cells #[.int .i64 k] 3);have V:=GZ_ (A.setCell ⟨w1.heap.size,2,none⟩ (.slice (some ⟨A.heap.size,0,none⟩) 1 1)) k;have g:=D.o.lo;rw[vO_]at V g;have T:=hid V;have F:=hid g;have j2:=B.cell 2;have jf:=B.frozen;have jz:=B.lt;have k0:=H.cell 0;have k1:=H.cell 1;have k2:=H.cell 2;have k3:=H.cell 3;simp only[List.setIfInBounds_toArray,List.set_cons_succ,List.set_cons_zero,List.getElem?_toArray,List.getElem?_cons_zero,List.getElem?_cons_succ]at k0 k1 k2 k3 j2;clear B H V g;go_wp2_with fail
  refine(Ku_ R hi d aa J ⟨#[59]⟩ 15 noT (some ⟨A.heap.size,0,none⟩) 1 1 [k] b A.heap.size _ (D.o.alloc _) T.o F.o).mono ?_;rintro e w6 ⟨rfl,i,U,Z⟩;have v:=QQ_ Q Z;go_wp2;go_ret;exact⟨rfl,i,U,v.o⟩
theorem VL_ (R:RC) (hi:R.imp=true) (N f:Nat) (HE:EC R N f) (d:Nat) (st:RdSt) (row:ON) (w:World) (hI:RdI R d st row w) (hn:Need R.n (Qk_ R.sg st ⟨#[40]⟩) 11 f) (hd:d+f<=100000):
  Calls prog 239 #[.pointer (some ⟨R.T,0,none⟩)] w fun e w'=>∃A,e=.returned (.slice A 1 1)/\Mine w' w.heap.size 3 1 A 1 1 (Qa_ [(JB_ R.sg (Qd_ R.sg N f) d st).1])/\∃row',RdI (R.res A) d (JB_ R.sg (Qd_ R.sg N f) d st).2 row' w'/\Kr R.T row w row' w':=by
 have i:=hid hI;have o:=hid (Kr.refl R.T row w);unfold JB_;dsimp only;have c:=hid (fun(row:ON) (W:World) h=>HE.value R.U d (Qk_ R.sg st ⟨#[40]⟩) row W h hn hd);unfold Does at c;generalize Qd_ R.sg N f .value d (Qk_ R.sg st ⟨#[40]⟩)=r4 at c |-
 obtain⟨k,s⟩:=r4;dsimp only at c |-
 clear hI hn;go_enter func239,ntmps239;go_wp2_with fail
 refine pst (ZP_ R hi d st row ⟨#[40]⟩ w i.o) o ?_;intro w1 t j p;go_wp2_with fail
 refine pst (c.o _ _ j.o) p ?_;intro w2 row2 l q;go_wp2_with fail
 refine pst (ZP_ R hi d s row2 ⟨#[41]⟩ w2 l.o) q ?_;intro w3 b m a;have hz:=a.o.size;have HM:=hid ((GZ_ w3 k).more (B':=w.heap.size) hz);have n:=hid (m.o.res_new (A:=some ⟨w3.heap.size,0,none⟩) (br.alloc (Nat.le_refl _) (.cells #[.int .i64 k] 3)) (fun g hg=>by simp at hg;subst hg;simp));have r:=hid (a.o.below (br.alloc (Nat.le_refl _) (.cells #[.int .i64 k] 3)));go_wp2;go_ret;exact⟨_,rfl,HM.o,b,n.o,r.o⟩
end Go.Proofs.YtgbikafalcbibaaGreatDoor

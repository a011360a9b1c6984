/-
  Put together by program (shake.py):ParE,ParF,ParG,ParH.
-/
import Derived.Test.YtgbikafalcbibaaGreatDoorMaK
import Derived.Laws.AppendOwnNone
set_option maxRecDepth 100000
set_option linter.all false
set_option maxHeartbeats 25600000
open Go.Lib (hid)
open Go.Proofs.Tryz
namespace Go.Proofs.YtgbikafalcbibaaGreatDoor
open Go.RowKit
theorem vD_ {w:World} {B:Nat} {e:TypeId} {s:Nat} {A:OA} {n c:Nat} {xs:List Value} (h:Mine w B e s A n c xs):n<=c:=by
 rcases h.own with⟨_,rfl,rfl⟩|⟨g,_,_,h,_⟩
 ·exact Nat.le_refl _
 ·exact h
theorem zp_ {st:RdSt} {x:PN} {s s':PS} (h:st=some s) (a:(KC_ st x).2=some s'):s'.at_=s.at_:=by
 subst h;unfold KC_ at a;simp only at a;split at a
 ·cases a
 ·rw[<-Option.some.inj a]
section
variable (R:RC) (hi:R.imp=true) (d:Nat) (st:RdSt) (row:ON)
include hi
theorem vV_ (k:Int) (t:BA) (A:OA) (n c:Nat) (ks:LI) (b:Bool) (B:Nat) (w:World) (hI:RdI R d st row w) (a:Mine w B 3 1 A n c (Qa_ ks)) (hB:R.Lo B):
  Calls prog 139 #[.pointer (some ⟨R.T,0,none⟩),.agg #[.int .i64 k,.string t,.slice A n c,.bool b]] w (Does R d row w (.int .i64 (KC_ st ⟨k,t,ks,b⟩).1) (KC_ st ⟨k,t,ks,b⟩).2):=
 Qfc_ R hi d st row ⟨k,t,A,n,c,ks,b⟩ w hI ⟨⟨vD_ a,fun g hg hu=>by have:=(Mine.blk a hg).1;have:=hB.2 g hu;omega⟩,a.more hB.1⟩
theorem add0 (k:Int) (t:BA) (b:Bool) (w:World) (hI:RdI R d st row w):
  Calls prog 139 #[.pointer (some ⟨R.T,0,none⟩),.agg #[.int .i64 k,.string t,.slice none 0 0,.bool b]] w (Does R d row w (.int .i64 (KC_ st ⟨k,t,[],b⟩).1) (KC_ st ⟨k,t,[],b⟩).2):=
 vV_ R hi d st row k t none 0 0 [] b w.heap.size w hI (Mine.mk_nil _ _ _ _) hI.lo
end
theorem RdI.lt_n {R:RC} {d:Nat} {st:RdSt} {row:ON} {w:World} (h:RdI R d st row w) {i:Nat} {s:PS} (hs:st=some s) (hl:s.at_+i < R.sg.length):s.at_+i < R.n:=by rw[<-h.ok.len];exact hl
theorem VZ_ (R:RC) (hi:R.imp=true) (d:Nat) (st:RdSt) (row:ON) (k:Int) (w:World) (l:RdI R d st row w) (b:∀s,st=some s->s.at_ < R.n):
  Calls prog 220 #[.pointer (some ⟨R.T,0,none⟩),.int .i64 k] w (Does R d row w (.int .i64 (YD_ R.sg k st).1) (YD_ R.sg k st).2):=by
 unfold YD_;have j:=hid (Q8_ R hi d st row w l);have HI:=hid l;generalize Qu_ R.sg st 0=x at j |-
 obtain⟨q,t,p,z⟩:=x;dsimp only at j |-
 have HL:=hid (fun(s':PS) (h:(KC_ st ⟨k,t,[],false⟩).2=some s')=>show s'.at_ < R.n by
  cases a:st with
  |none=>rw[a]at h;cases h
  |some s=>rw[zp_ a h];exact b s a)
 have m:=kx_;clear l b;unfold Does;go_enter func220,ntmps220;go_wp2_with fail
 refine j.o.mono ?_;rintro e w1 ⟨rfl,h1⟩;have f:=hid (HI.o.next h1);have g:=hid (Kr.of_below (T:=R.T) (row:=row) h1);clear h1;go_wp2_with fail
 refine(add0 R hi d st row k t false _ f.o).mono ?_;rintro e w2 ⟨rfl,row2,h2,k2⟩;have i:=hid (g.o.trans k2);clear k2;go_wp2_with fail
 refine(Zi_ R hi d _ row2 _ h2 HL.o).mono ?_;rintro e w3 ⟨rfl,c,h3,k3⟩;go_wp2;go_ret;exact⟨rfl,c,h3,i.o.trans k3⟩
theorem vK_ (R:RC) (hi:R.imp=true) (d:Nat) (st:RdSt) (row:ON) (b:Bool) (w:World) (l:RdI R d st row w) (c:∀s,st=some s->s.at_ < R.n):
  Calls prog 173 #[.pointer (some ⟨R.T,0,none⟩),.bool b] w (Does R d row w (.int .i64 (Xj_ R.sg b st).1) (Xj_ R.sg b st).2):=by
 unfold Xj_;have k:=hid (Q8_ R hi d st row w l);have HI:=hid l;generalize Qu_ R.sg st 0=x at k |-
 obtain⟨q,t,p,z⟩:=x;dsimp only at k |-
 have HL:=hid (fun(s':PS) (h:(KC_ st ⟨19,t,[],b⟩).2=some s')=>show s'.at_ < R.n by
  cases a:st with
  |none=>rw[a]at h;cases h
  |some s=>rw[zp_ a h];exact c s a)
 have m:=kx_;clear l c;unfold Does;go_enter func173,ntmps173;go_wp2_with fail
 refine k.o.mono ?_;rintro e w1 ⟨rfl,h1⟩;have g:=hid (HI.o.next h1);have i:=hid (Kr.of_below (T:=R.T) (row:=row) h1);clear h1;go_wp2_with fail
 refine(add0 R hi d st row 19 t b _ g.o).mono ?_;rintro e w2 ⟨rfl,row2,h2,k2⟩;have j:=hid (i.o.trans k2);clear k2;go_wp2_with fail
 refine(Zi_ R hi d _ row2 _ h2 HL.o).mono ?_;rintro e w3 ⟨rfl,f,h3,k3⟩;go_wp2;go_ret;exact⟨rfl,f,h3,j.o.trans k3⟩
theorem Vd_ (R:RC) (hi:R.imp=true) (d:Nat) (st:RdSt) (row:ON) (w:World) (n:RdI R d st row w):
  Calls prog 180 #[.pointer (some ⟨R.T,0,none⟩)] w (Does R d row w (.int .i64 (Qi_ R.sg st).1) (Qi_ R.sg st).2):=by
 have h:=hid (Ky_ R hi d st row 0 w n oo);have j:=hid n;unfold Does Qi_;clear n
 cases g:Kd_ R.sg st 0 with
 |false=>
  rw[if_neg (by decide)];rw[g]at h;clear g;go_enter func180,ntmps180;go_wp2_with fail
  refine h.o.mono ?_;rintro e w1 ⟨rfl,f⟩;obtain⟨a,b,AN,cN,l,o,p,c⟩:=j.o.next f;obtain⟨c0,c2,c3,c4,c5,cf,cz⟩:=o.ci hi;have HF:=hid (RdI.bad1 hi o c);clear o p c c0 c2 c3 c5;go_wp2;go_ret;exact⟨rfl,row,HF.o.1,(Kr.of_below f).trans HF.o.2⟩
 |true=>
  rw[if_pos rfl];rw[g]at h;have HL:=hid (fun(s:PS) (hs:st=some s)=>show s.at_ < R.n by
   obtain⟨s',e,hl⟩:=Z4_ g;rw[hs]at e;obtain rfl:=Option.some.inj e;exact j.o.lt_n (i:=0) hs hl)
  clear g;go_enter func180,ntmps180;go_wp2_with fail
  refine h.o.mono ?_;rintro e w1 ⟨rfl,f⟩;have k:=hid (j.o.next f);have m:=hid (Kr.of_below (T:=R.T) (row:=row) f);clear f;go_wp2_with fail
  refine(VZ_ R hi d st row 1 _ k.o HL.o).mono ?_;rintro e w2 ⟨rfl,row2,h2,k2⟩;go_wp2;go_ret;exact⟨rfl,row2,h2,m.o.trans k2⟩
theorem Ku_ (R:RC) (hi:R.imp=true) (d:Nat) (st:RdSt) (row:ON) (m:BA) (k:Int) (t:BA) (A:OA) (n c:Nat) (ks:LI) (b:Bool) (B:Nat) (w:World) (y:RdI R d st row w) (H:Mine w B 3 1 A n c (Qa_ ks)) (hB:R.Lo B):
  Calls prog 217 #[.pointer (some ⟨R.T,0,none⟩),.string m,.agg #[.int .i64 k,.string t,.slice A n c,.bool b]] w (Does R d row w (.int .i64 (KC_ (Qk_ R.sg st m) ⟨k,t,ks,b⟩).1) (KC_ (Qk_ R.sg st m) ⟨k,t,ks,b⟩).2):=by
 have f:Below w.heap.size w (w.alloc (.cells #[.int .i64 k,.string t,.slice A n c,.bool b] 36)):=grow_;have x:=hid (Y5_ R hi d st row m _ (y.next f));have z:=hid (y.next f);have HM:=hid (H.next f);have p:=hid (Kr.of_below (T:=R.T) (row:=row) f);have K:=Blk.new w 36 #[.int .i64 k,.string t,.slice A n c,.bool b];unfold Does
 cases o:isM R.sg st m with
 |false=>
  rw[GT_ o,Z6_];rw[o]at x;clear o y H K;go_enter func217,ntmps217;go_wp2_with fail
  refine x.o.mono ?_;rintro e w1 ⟨rfl,g⟩;obtain⟨a,b,AN,cN,l,G,I,j⟩:=z.o.next g;obtain⟨c0,c2,c3,c4,c5,cf,cz⟩:=G.ci hi;have HF:=hid (RdI.bad1 hi G j);clear G I j c0 c2 c3 c5;go_wp2;go_ret;exact⟨rfl,row,HF.o.1,(p.o.below g).trans HF.o.2⟩
 |true=>
  rw[Zk_ o,Vm_];rw[o]at x;have HL:=hid (fun(s':PS) (h:(KC_ st ⟨k,t,ks,b⟩).2=some s')=>show s'.at_ < R.n by
   obtain⟨s,e,hl⟩:=Xb_ o;rw[zp_ e h];exact z.o.lt_n (i:=0) e hl)
  clear o y H;go_enter func217,ntmps217;go_wp2_with fail
  refine x.o.mono ?_;rintro e w1 ⟨rfl,g⟩;have C:=hid (z.o.next g);have F:=hid (HM.o.next g);have D:=hid (p.o.below g);have q:=K.next g;have k0:=q.q0;have k1:=q.q1;have k2:=q.q2;have J:=q.q3;clear g K q;go_wp2_with fail
  refine(vV_ R hi d st row k t A n c ks b B _ C.o F.o hB).mono ?_;rintro e w2 ⟨rfl,row2,h2,r⟩;have E:=hid (D.o.trans r);clear r k0 k1 k2 J;go_wp2_with fail
  refine(Zi_ R hi d _ row2 _ h2 HL.o).mono ?_;rintro e w3 ⟨rfl,v,h3,J⟩;go_wp2;go_ret;exact⟨rfl,v,h3,E.o.trans J⟩
section
variable {R:RC} (U:Nat->Prop) (hi:R.imp=true) (d:Nat) (st:RdSt) (row:ON)
include hi
theorem RdC.cu {a:Nat} {b:Bool} {AN:OA} {cN:Nat} {l:List Nd} {w:World} (h:RdC { R with U:=U } a d b AN cN l w):
  w.cell? ⟨R.T,2,none⟩=some (.int .i64 a)/\w.cell? ⟨R.T,3,none⟩=some (.int .i64 d)/\w.cell? ⟨R.T,4,none⟩=some (.bool b)/\(∀i,w.frozen? ⟨R.T,i,none⟩=false)/\R.T < w.heap.size:=by
 obtain⟨c0,c2,c3,c4,c5,cf,cz⟩:=RdC.ci (R:={ R with U:=U }) hi h;exact⟨c2,c3,c4,cf,cz⟩
theorem is_u (m:BA) (w:World) (hI:RdI { R with U:=U } d st row w):
 Calls prog 218 #[.pointer (some ⟨R.T,0,none⟩),.string m] w fun e w'=>e=.returned (.bool (isM R.sg st m))/\Below w.heap.size w w':=Y5_ { R with U:=U } hi d st row m w hI
theorem vP_ (m:BA) (w:World) (hI:RdI { R with U:=U } d st row w):
 Calls prog 215 #[.pointer (some ⟨R.T,0,none⟩),.string m] w fun e w'=>e=.returned (.bool (isM R.sg st m))/\∃row',RdI { R with U:=U } d (zN_ R.sg st m) row' w'/\Kr R.T row w row' w':=YG_ { R with U:=U } hi d st row m w hI
theorem vQ_ (m:BA) (w:World) (hI:RdI { R with U:=U } d st row w):
 Calls prog 178 #[.pointer (some ⟨R.T,0,none⟩),.string m] w fun e w'=>e=.returned (.tuple #[])/\∃row',RdI { R with U:=U } d (Qk_ R.sg st m) row' w'/\Kr R.T row w row' w':=ZP_ { R with U:=U } hi d st row m w hI
theorem QaT_ (w:World) (hI:RdI { R with U:=U } d st row w):
 Calls prog 180 #[.pointer (some ⟨R.T,0,none⟩)] w fun e w'=>e=.returned (.int .i64 (Qi_ R.sg st).1)/\∃row',RdI { R with U:=U } d (Qi_ R.sg st).2 row' w'/\Kr R.T row w row' w':=Vd_ { R with U:=U } hi d st row w hI
end
def OneC (R:RC) (F:FuncId) (d lo:Nat) (one:RdSt->PR):Prop:=
 ∀(U:Nat->Prop) (st:RdSt) (row:ON) (w:World),RdI { R with U:=U } d st row w->(∀s,st=some s->lo<=s.at_)->Calls prog F #[.pointer (some ⟨R.T,0,none⟩)] w (Does { R with U:=U } d row w (.int .i64 (one st).1) (one st).2)
def LoB (lo:Nat) (st:RdSt):Prop:=∀s,st=some s->lo<=s.at_
def Enough (n N:Nat) (st:RdSt):Prop:=∀s,st=some s->n < N+s.at_
def KidB (ks:LI) (st:RdSt):Prop:=ks.length<=301/\∀s,st=some s->ks.length<=s.nodes.length
section
variable {lo n N i j:Nat} {st st':RdSt} {ks:LI}
theorem LoB.adv (h:LoB lo st) (k:Adv i j st st'):LoB lo st':=fun t e=>by
 obtain⟨s,e2,h1,_⟩:=k t e;have:=h s e2;omega
theorem Enough.adv (h:Enough n (N+1) st) (k:Adv (i+1) j st st'):Enough n N st':=fun t e=>by
 obtain⟨s,e2,h1,_⟩:=k t e;have:=h s e2;omega
end
theorem Enough.mono {n N i j:Nat} {st st':RdSt} (h:Enough n N st) (k:Adv i j st st'):Enough n N st':=fun t e=>by
 obtain⟨s,e2,h1,_⟩:=k t e;have:=h s e2;omega
theorem KidB.mono {i j:Nat} {st st':RdSt} {ks:LI} (h:KidB ks st) (k:Adv i j st st'):KidB ks st':=⟨h.1,fun t e=>by
 obtain⟨s,e2,_,h1⟩:=k t e;have:=h.2 s e2;omega⟩
def ZY_ (R:RC) (w:World):Nat:=match w.cell? ⟨R.T,4,none⟩,w.cell? ⟨R.T,2,none⟩with|some (.bool false),some (.int _ a)=>R.n+1 - a.toNat|_,_=>0
section
variable {R:RC} {d:Nat} {st:RdSt} {s:PS} {row:ON} {w w':World}
theorem Yl_ (hi:R.imp=true) (h:RdI R d (some s) row w):ZY_ R w=R.n+1 - s.at_/\s.at_<=R.n:=by
 obtain⟨a,b,AN,cN,l,hc,⟨rfl,rfl,_⟩,_⟩:=h;obtain⟨c0,c2,c3,c4,c5,cf,cz⟩:=hc.ci hi;have:=hc.2.2.2.2.1;unfold ZY_;rw[c4,c2];exact⟨rfl,this⟩
theorem Wj_ (hi:R.imp=true) (h:RdI R d none row w):ZY_ R w=0:=by
 obtain⟨a,b,AN,cN,l,hc,hb,_⟩:=h;obtain rfl:b=true:=hb;obtain⟨c0,c2,c3,c4,c5,cf,cz⟩:=hc.ci hi;unfold ZY_;rw[c4]
theorem Wi_ (hi:R.imp=true) (h:RdI R d (some s) row w) {st':RdSt} {d':Nat} {row':ON} (h':RdI R d' st' row' w') {i j:Nat} (k:Adv (i+1) j (some s) st'):ZY_ R w' < ZY_ R w:=by
 obtain⟨e1,e2⟩:=Yl_ hi h
 cases st' with
 |none=>rw[Wj_ hi h'];omega
 |some t=>
  obtain⟨e3,e4⟩:=Yl_ hi h';obtain⟨s',e5,h1,_⟩:=k t rfl;obtain rfl:=Option.some.inj e5;omega
end
theorem G5_ {R:RC} {U U':Nat->Prop} {d d':Nat} {s:PS} {row row':ON} {w w':World} (hi:R.imp=true) (h:RdI { R with U:=U } d (some s) row w) {st':RdSt} (h':RdI { R with U:=U' } d' st' row' w') {i j:Nat} (k:Adv (i+1) j (some s) st'):ZY_ R w' < ZY_ R w:=by
 have e1:=Yl_ (R:={ R with U:=U }) hi h;have e2:ZY_ { R with U:=U } w=ZY_ R w:=rfl;have e3:∀W,ZY_ { R with U:=U' } W=ZY_ R W:=fun _=>rfl
 have hn:({ R with U:=U }:RC).n=R.n:=rfl
 cases st' with
 |none=>have:=Wj_ (R:={ R with U:=U' }) hi h';rw[e3]at this;omega
 |some t=>
  have e4:=Yl_ (R:={ R with U:=U' }) hi h';obtain⟨s',e5,h1,_⟩:=k t rfl;obtain rfl:=Option.some.inj e5;have e6:({ R with U:=U' }:RC).n=R.n:=rfl;rw[e3]at e4;omega
def QbB_ (R:RC) (d:Nat) (row:ON) (w:World) (q:LI × RdSt) (e:Ending) (w':World):Prop:=
 ∃(A:OA) (c:Nat),e=.returned (.slice A q.1.length c)/\Mine w' w.heap.size 3 1 A q.1.length c (Qa_ q.1)/\q.1.length<=301/\∃row',RdI (R.res A) d q.2 row' w'/\Kr R.T row w row' w'
theorem G1_ (R:RC) (hi:R.imp=true) (d lo:Nat) (one:RdSt->PR) (HO:Hid (OneC R 216 d lo one)) (h1:∀st,Adv 1 1 st (one st).2) (m:BA) (N:Nat) (st:RdSt) (row:ON) (w:World) (hI:RdI R d st row w) (aa:LoB lo st) (hN:Enough R.n N st):
  Calls prog 179 #[.pointer (some ⟨R.T,0,none⟩),.string m,.func (.func 216) #[.pointer (some ⟨R.T,0,none⟩)] #[]] w (QbB_ R d row w (QF_ R.sg one m N [] st)):=by
 obtain⟨i0,aj,al,am,ab⟩:=info_parts QB_;have E:=hid (And.intro aj (And.intro al (And.intro am ab)));clear aj al am ab;have n:=hid hI;have ak:=hI.lo.1;have q:=hid aa;have HN:=hid hN;have HA:=hid h1;obtain⟨Q,hQ⟩:=ex_ (QF_ R.sg one m N [] st);rw[hQ];have i:=hid hQ;clear hQ;clear hI aa hN h1;unfold QbB_;go_enter func179,ntmps179;go_wp2;go_loopw [7] (fun v wr=>∃(M:Nat) (ks:LI) (st':RdSt) (row':ON) (A:OA) (c:Nat),v=.slice A ks.length c/\Hid (QF_ R.sg one m M ks st'=Q)/\Hid (LoB lo st')/\Hid (Enough R.n M st')/\Hid (KidB ks st')/\Hid (Mine wr w.heap.size 3 1 A ks.length c (Qa_ ks))/\Hid (RdI (R.res A) d st' row' wr)/\Hid (Kr R.T row w row' wr)) (fun _ wr=>ZY_ R wr)
 case atStart=>exact⟨N,[],st,row,none,0,rfl,i,q,HN,⟨by simp,fun s _=>by simp⟩,Mine.mk_nil _ _ _ _,n.o.res_new br (fun g hg=>by cases hg),Kr.refl _ _ _⟩
 case round=>
  clear i q HN n;obtain⟨M,ks,st',row',A,c,rfl,i,q,HN,G,HM,n,HK⟩:=hrel;have aJ:(R.res A).imp=true:=hi
  cases st' with
  |none=>
   obtain⟨a,b,AN,cN,l,hc,hb,y⟩:=n.o;obtain⟨c2,c3,c4,cf,cz⟩:=hc.cu _ hi;obtain rfl:b=true:=hb;have f:=i.o;rw[Vs_]at f;subst f;clear hc c2 c3 y i;go_wp2;go_ret;exact⟨A,c,rfl,HM.o,G.o.1,row',n.o,HK.o⟩
  |some s=>
   obtain⟨M,rfl⟩:∃M',M=M'+1:=⟨M - 1,by
    have h1:=HN.o s rfl;have h2:=(n.o.le rfl).1;have:(R.res A).n=R.n:=rfl;omega⟩
   obtain⟨a,b,AN,cN,l,hc,hb,y⟩:=n.o;obtain⟨c2,c3,c4,cf,cz⟩:=hc.cu _ hi;obtain⟨rfl,_,_⟩:=hb;have p:=hid (is_u _ hi d (some s) row' m wr n.o);have f:=i.o;unfold QF_ at f;rw[if_neg (show ¬(some s).isNone=true by simp)]at f;clear hc c2 c3 y i
   cases h:isM R.sg (some s) m with
   |true=>
    rw[h,if_pos rfl]at f;subst f;rw[h]at p;clear h;go_wp2_with fail
    refine p.o.mono ?_;rintro e w2 ⟨rfl,J⟩;clear c4 cf cz;go_wp2;go_ret;exact⟨A,c,rfl,HM.o.next J,G.o.1,row',n.o.next J,HK.o.below J⟩
   |false=>
    rw[h,if_neg (by decide)]at f;rw[h]at p;have i:=hid f;clear h f;go_wp2_with fail
    refine p.o.mono ?_;rintro e w2 ⟨rfl,J⟩;have C:=hid (n.o.next J);have ae:=hid (HM.o.next J);have T:=hid (HK.o.below J);have ab:=T.o.size;clear c4 cf cz J p HM HK;have HC:=hid (HO.o _ (some s) row' w2 C.o q.o);unfold Does at HC;have aI:=G.o.2 s rfl;have aL:=(C.o.le rfl).2;have j:=HA.o (some s);have O:Hid (LoB lo (one (some s)).2):=q.o.adv j;have P:Hid (Enough R.n M (one (some s)).2):=HN.o.adv j;have B:Hid (KidB (ks++[(one (some s)).1]) (one (some s)).2):=(show KidB _ _ from⟨by rw[lA];simp;omega,fun t e=>by
     obtain⟨s',e2,_,h3⟩:=j t e;obtain rfl:=Option.some.inj e2;rw[lA];simp;omega⟩)
    have L:=hid j;generalize one (some s)=r at HC i O P B L;obtain⟨k,st2⟩:=r;dsimp only at HC i O P B L;go_wp2_with fail
    refine HC.o.mono ?_;rintro e w3 ⟨rfl,an,h3,k3⟩;have H:=hid (C.o.keepI k3 ae.o);have S:=hid h3;have U:=hid (T.o.trans k3);have aM:=U.o.size;have aa:=S.o.lo.1;have Z:(ks++[k]).length=ks.length+1:=(by simp);clear h3 k3 C ae T HC;have aK:=G.o.1;have av:Hid (R.w0.heap.size<=w.heap.size):=(show R.w0.heap.size<=w.heap.size from ak);go_wp2_with (at_builtin;(refine Qf_ _ rfl (.tmp 22) (.tmp 24) _ rfl w.heap.size 3 i0 (.int .i64 0) 1 8 underlying34 E.o.1 E.o.2.1 E.o.2.2.1 E.o.2.2.2 rfl (by decide) (.slice A ks.length c) ks.length (Qa_ ks) rfl (Mine.alloc H.o _) ⟨w3.heap.size,0,none⟩ 1 1 [.int .i64 k] rfl rfl (Kq_ _ k _) (Kr_ _) (by unfold maxLen;omega) oo (by simp;omega) ?_);intro v' w4 x Y K)
    obtain⟨A4,ag,rfl,h4,m4⟩:=RdI.appended S.o H.o av.o bra x Y K;have F:=hid ((U.o.below bra).grown Y (fun g hg=>by rw[Qw_]at hg;exact(Mine.blk H.o hg).1));rw[<-QO_]at m4;have o:=hid h4;have I:=hid m4;clear x Y K h4 m4 S H U;have HS:=hid (vP_ _ hi d st2 an ⟨#[44]⟩ w4 o.o)
    cases h:isM R.sg st2 ⟨#[44]⟩with
    |true=>
     rw[h,Qv_ h]at HS;have f:=i.o;rw[h,if_pos rfl]at f;have ax:=hid f;clear f i h;go_wp2_with fail
     refine HS.o.mono ?_;rintro e w5 ⟨rfl,z,h5,k5⟩;have X:=hid (o.o.keepI k5 I.o);have D:=hid h5;have V:=hid (F.o.trans k5);clear h5 k5 o I F;go_wp2;go_roundw
     case rel=>exact⟨M,ks++[k],Qe_ st2,z,A4,ag,by rw[Z],ax,O.o.adv (Qh_ _),P.o.mono (Qh_ _),B.o.mono (Qh_ _),by rw[Z];exact X,D,V⟩
     case measure=>exact G5_ hi n.o D.o ((L.o.trans (Qh_ st2)).weak (i':=1) (j':=0) oo oo)
    |false=>
     rw[h,QC_ h]at HS;have f:=i.o;rw[h,if_neg (by decide)]at f;subst f;clear i h;go_wp2_with fail
     refine HS.o.mono ?_;rintro e w5 ⟨rfl,z,h5,k5⟩;have X:=hid (o.o.keepI k5 I.o);have D:=hid h5;have V:=hid (F.o.trans k5);clear h5 k5 o I F;go_wp2;go_ret;exact⟨A4,ag,rfl,X.o,(by have:=B.o.1;rw[Z]at this;omega),z,D.o,V.o⟩
theorem jl_ (R:RC) (hi:R.imp=true) (d lo:Nat) (one:RdSt->PR) (HO:Hid (OneC R 180 d lo one)) (h1:∀st,Adv 1 1 st (one st).2) (m:BA) (N:Nat) (st:RdSt) (row:ON) (w:World) (hI:RdI R d st row w) (aa:LoB lo st) (hN:Enough R.n N st):
  Calls prog 179 #[.pointer (some ⟨R.T,0,none⟩),.string m,.func (.func 180) #[.pointer (some ⟨R.T,0,none⟩)] #[]] w (QbB_ R d row w (QF_ R.sg one m N [] st)):=by
 obtain⟨i0,aj,al,am,ab⟩:=info_parts QB_;have E:=hid (And.intro aj (And.intro al (And.intro am ab)));clear aj al am ab;have n:=hid hI;have ak:=hI.lo.1;have q:=hid aa;have HN:=hid hN;have HA:=hid h1;obtain⟨Q,hQ⟩:=ex_ (QF_ R.sg one m N [] st);rw[hQ];have i:=hid hQ;clear hQ;clear hI aa hN h1;unfold QbB_;go_enter func179,ntmps179;go_wp2;go_loopw [7] (fun v wr=>∃(M:Nat) (ks:LI) (st':RdSt) (row':ON) (A:OA) (c:Nat),v=.slice A ks.length c/\Hid (QF_ R.sg one m M ks st'=Q)/\Hid (LoB lo st')/\Hid (Enough R.n M st')/\Hid (KidB ks st')/\Hid (Mine wr w.heap.size 3 1 A ks.length c (Qa_ ks))/\Hid (RdI (R.res A) d st' row' wr)/\Hid (Kr R.T row w row' wr)) (fun _ wr=>ZY_ R wr)
 case atStart=>exact⟨N,[],st,row,none,0,rfl,i,q,HN,⟨by simp,fun s _=>by simp⟩,Mine.mk_nil _ _ _ _,n.o.res_new br (fun g hg=>by cases hg),Kr.refl _ _ _⟩
 case round=>
  clear i q HN n;obtain⟨M,ks,st',row',A,c,rfl,i,q,HN,G,HM,n,HK⟩:=hrel;have aJ:(R.res A).imp=true:=hi
  cases st' with
  |none=>
   obtain⟨a,b,AN,cN,l,hc,hb,y⟩:=n.o;obtain⟨c2,c3,c4,cf,cz⟩:=hc.cu _ hi;obtain rfl:b=true:=hb;have f:=i.o;rw[Vs_]at f;subst f;clear hc c2 c3 y i;go_wp2;go_ret;exact⟨A,c,rfl,HM.o,G.o.1,row',n.o,HK.o⟩
  |some s=>
   obtain⟨M,rfl⟩:∃M',M=M'+1:=⟨M - 1,by
    have h1:=HN.o s rfl;have h2:=(n.o.le rfl).1;have:(R.res A).n=R.n:=rfl;omega⟩
   obtain⟨a,b,AN,cN,l,hc,hb,y⟩:=n.o;obtain⟨c2,c3,c4,cf,cz⟩:=hc.cu _ hi;obtain⟨rfl,_,_⟩:=hb;have p:=hid (is_u _ hi d (some s) row' m wr n.o);have f:=i.o;unfold QF_ at f;rw[if_neg (show ¬(some s).isNone=true by simp)]at f;clear hc c2 c3 y i
   cases h:isM R.sg (some s) m with
   |true=>
    rw[h,if_pos rfl]at f;subst f;rw[h]at p;clear h;go_wp2_with fail
    refine p.o.mono ?_;rintro e w2 ⟨rfl,J⟩;clear c4 cf cz;go_wp2;go_ret;exact⟨A,c,rfl,HM.o.next J,G.o.1,row',n.o.next J,HK.o.below J⟩
   |false=>
    rw[h,if_neg (by decide)]at f;rw[h]at p;have i:=hid f;clear h f;go_wp2_with fail
    refine p.o.mono ?_;rintro e w2 ⟨rfl,J⟩;have C:=hid (n.o.next J);have ae:=hid (HM.o.next J);have T:=hid (HK.o.below J);have ab:=T.o.size;clear c4 cf cz J p HM HK;have HC:=hid (HO.o _ (some s) row' w2 C.o q.o);unfold Does at HC;have aI:=G.o.2 s rfl;have aL:=(C.o.le rfl).2;have j:=HA.o (some s);have O:Hid (LoB lo (one (some s)).2):=q.o.adv j;have P:Hid (Enough R.n M (one (some s)).2):=HN.o.adv j;have B:Hid (KidB (ks++[(one (some s)).1]) (one (some s)).2):=(show KidB _ _ from⟨by rw[lA];simp;omega,fun t e=>by
     obtain⟨s',e2,_,h3⟩:=j t e;obtain rfl:=Option.some.inj e2;rw[lA];simp;omega⟩)
    have L:=hid j;generalize one (some s)=r at HC i O P B L;obtain⟨k,st2⟩:=r;dsimp only at HC i O P B L;go_wp2_with fail
    refine HC.o.mono ?_;rintro e w3 ⟨rfl,an,h3,k3⟩;have H:=hid (C.o.keepI k3 ae.o);have S:=hid h3;have U:=hid (T.o.trans k3);have aM:=U.o.size;have aa:=S.o.lo.1;have Z:(ks++[k]).length=ks.length+1:=(by simp);clear h3 k3 C ae T HC;have aK:=G.o.1;have av:Hid (R.w0.heap.size<=w.heap.size):=(show R.w0.heap.size<=w.heap.size from ak);go_wp2_with (at_builtin;(refine Qf_ _ rfl (.tmp 22) (.tmp 24) _ rfl w.heap.size 3 i0 (.int .i64 0) 1 8 underlying34 E.o.1 E.o.2.1 E.o.2.2.1 E.o.2.2.2 rfl (by decide) (.slice A ks.length c) ks.length (Qa_ ks) rfl (Mine.alloc H.o _) ⟨w3.heap.size,0,none⟩ 1 1 [.int .i64 k] rfl rfl (Kq_ _ k _) (Kr_ _) (by unfold maxLen;omega) oo (by simp;omega) ?_);intro v' w4 x Y K)
    obtain⟨A4,ag,rfl,h4,m4⟩:=RdI.appended S.o H.o av.o bra x Y K;have F:=hid ((U.o.below bra).grown Y (fun g hg=>by rw[Qw_]at hg;exact(Mine.blk H.o hg).1));rw[<-QO_]at m4;have o:=hid h4;have I:=hid m4;clear x Y K h4 m4 S H U;have HS:=hid (vP_ _ hi d st2 an ⟨#[44]⟩ w4 o.o)
    cases h:isM R.sg st2 ⟨#[44]⟩with
    |true=>
     rw[h,Qv_ h]at HS;have f:=i.o;rw[h,if_pos rfl]at f;have ax:=hid f;clear f i h;go_wp2_with fail
     refine HS.o.mono ?_;rintro e w5 ⟨rfl,z,h5,k5⟩;have X:=hid (o.o.keepI k5 I.o);have D:=hid h5;have V:=hid (F.o.trans k5);clear h5 k5 o I F;go_wp2;go_roundw
     case rel=>exact⟨M,ks++[k],Qe_ st2,z,A4,ag,by rw[Z],ax,O.o.adv (Qh_ _),P.o.mono (Qh_ _),B.o.mono (Qh_ _),by rw[Z];exact X,D,V⟩
     case measure=>exact G5_ hi n.o D.o ((L.o.trans (Qh_ st2)).weak (i':=1) (j':=0) oo oo)
    |false=>
     rw[h,QC_ h]at HS;have f:=i.o;rw[h,if_neg (by decide)]at f;subst f;clear i h;go_wp2_with fail
     refine HS.o.mono ?_;rintro e w5 ⟨rfl,z,h5,k5⟩;have X:=hid (o.o.keepI k5 I.o);have D:=hid h5;have V:=hid (F.o.trans k5);clear h5 k5 o I F;go_wp2;go_ret;exact⟨A4,ag,rfl,X.o,(by have:=B.o.1;rw[Z]at this;omega),z,D.o,V.o⟩
theorem Vq_ {R:RC} {d:Nat} {st:RdSt} {row row':ON} {w w1 w2:World} {B:Nat} {A:OA} {n c:Nat} {xs:List Value} (h:Hid (RdI R d st row w)) (k:Kr R.T row w1 row' w2) (m:Hid (Mine w B 3 1 A n c xs))
  (hb:Below w.heap.size w w1:=by repeat' (first|(with_reducible exact br)|(with_reducible refine Below.alloc ?_ ?_ _)|go_size)):Hid (Mine w2 B 3 1 A n c xs):=
 (show Mine w2 B 3 1 A n c xs from(h.o.next hb).keepI k (m.o.next hb))
theorem QQ_ {T:Nat} {row0 row row':ON} {w0 w w1 w2:World} (h:Hid (Kr T row0 w0 row w)) (k:Kr T row w1 row' w2)
  (hb:Below w.heap.size w w1:=by repeat' (first|(with_reducible exact br)|(with_reducible refine Below.alloc ?_ ?_ _)|go_size)):Hid (Kr T row0 w0 row' w2):=
 (show Kr T row0 w0 row' w2 from(h.o.below hb).trans k)
theorem pst {F:FuncId} {a:Array Value} {W w w0:World} {I:ON->World->Prop} {T:Nat} {row0 row:ON} {v:Value} {G:Ending->World->Prop} (hc:Calls prog F a W (fun e w'=>e=.returned v/\∃row',I row' w'/\Kr T row W row' w')) (HK:Hid (Kr T row0 w0 row w)) (k:∀w' row',Hid (I row' w')->Hid (Kr T row0 w0 row' w')->G (.returned v) w')
  (hb:Below w.heap.size w W:=by repeat' (first|(with_reducible exact br)|(with_reducible refine Below.alloc ?_ ?_ _)|go_size)):Calls prog F a W G:=
 hc.mono (by rintro e w' ⟨rfl,row',h,hk⟩;exact k w' row' h (QQ_ HK hk hb))
theorem rst {F:FuncId} {a:Array Value} {w w0:World} {R:RC} {d:Nat} {st:RdSt} {T:Nat} {row0 row:ON} {v:Value} {G:Ending->World->Prop} (hc:Calls prog F a w (fun e w'=>e=.returned v/\Below w.heap.size w w')) (HI:Hid (RdI R d st row w)) (HK:Hid (Kr T row0 w0 row w)) (k:∀w',Hid (RdI R d st row w')->Hid (Kr T row0 w0 row w')->G (.returned v) w'):Calls prog F a w G:=
 hc.mono (by rintro e w' ⟨rfl,h⟩;exact k w' (HI.o.next h) (HK.o.below h))
theorem Kn_ {i:Array Oper} {rest:List Oper} {o:Oper} {a:Act} {Q:Exit->Act->World->Prop} (s x:Operand) {R:RC} {d:Nat} {st:RdSt} {T:Nat} {row0 row:ON} {w w1:World} {A:OA} {b c:Nat} {ks:LI} {k:Int}
  (HI:Hid (RdI (R.res A) d st row w1)) (HK:Hid (Kr T row0 w row w1)) (l:Hid (Mine w1 w.heap.size 3 1 A b c (Qa_ ks))) (HB:Hid (R.w0.heap.size<=w.heap.size)) (m:o.guard=none) (ho:o.op=.call { callee:=.builtin .append,args:=#[s,x],argTypes:=#[34,34] }) (hs:a.eval s=.slice A b c) (hx:a.eval x=.slice (some ⟨w1.heap.size,0,none⟩) 1 1) (t:b<=100000)
  (h:∀A' c' w',Hid (RdI (R.res A') d st row w')->Hid (Kr T row0 w row w')->Hid (Mine w' w.heap.size 3 1 A' (b+1) c' (Qa_ (ks++[k])))->wpList prog i Q rest (a.put o.dst (.slice A' (b+1) c')) w'):wpList prog i Q (o::rest) a (w1.alloc (.cells #[.int .i64 k] 3)):=by
 obtain⟨i0,hi,p,q,r⟩:=info_parts QB_;have hz:=HK.o.size;refine Qf_ _ m s x _ ho w.heap.size 3 i0 (.int .i64 0) 1 8 underlying34 hi p q r rfl (by decide) (.slice A b c) b (Qa_ ks) hs (Mine.alloc l.o _) ⟨w1.heap.size,0,none⟩ 1 1 [.int .i64 k] hx rfl (Kq_ _ k _) (Kr_ _) (by unfold maxLen;omega) oo (by simp;omega) ?_;intro v' w5 f e n;obtain⟨A5,c5,rfl,h5,m5⟩:=RdI.appended HI.o l.o HB.o bra f e n;have j:=hid ((HK.o.below bra).grown e (fun g e=>by rw[Qw_]at e;exact(Mine.blk l.o e).1));rw[<-QO_]at m5;exact h A5 c5 w5 h5 j m5
theorem jx_ (w:World) (ks:LI) (h:ks.length<=100000):Mine (w.alloc (.cells (Qa_ ks).toArray 3)) w.heap.size 3 1 (some ⟨w.heap.size,0,none⟩) ks.length ks.length (Qa_ ks):=
 Mine.mk_own ⟨[],by simpa using Blk.new w 3 (Qa_ ks).toArray,by simp[Qa_]⟩ (by simp[Qa_]) (Nat.le_refl _) (Nat.le_refl _) (by unfold maxLen;omega)
theorem GZ_ (w:World) (k:Int):Mine (w.alloc (.cells #[.int .i64 k] 3)) w.heap.size 3 1 (some ⟨w.heap.size,0,none⟩) 1 1 (Qa_ [k]):=jx_ w [k] (by simp)
theorem kid3 (w:World) (k l m:Int):Mine (w.alloc (.cells #[.int .i64 k,.int .i64 l,.int .i64 m] 3)) w.heap.size 3 1 (some ⟨w.heap.size,0,none⟩) 3 3 (Qa_ [k,l,m]):=jx_ w [k,l,m] (by simp)
theorem QL_ {n N:Nat} (h:n < N) (st:RdSt):Enough n N st:=fun s _=>oo
section
variable {R:RC} (U:Nat->Prop) (hi:R.imp=true) (d:Nat) (st:RdSt) (row:ON)
include hi
theorem Qct_ (lo:Nat) (one:RdSt->PR) (HO:Hid (OneC R 216 d lo one)) (h1:∀st,Adv 1 1 st (one st).2) (m:BA) (N:Nat) (w:World) (hI:RdI { R with U:=U } d st row w) (a:LoB lo st) (hN:Enough R.n N st):
  Calls prog 179 #[.pointer (some ⟨R.T,0,none⟩),.string m,.func (.func 216) #[.pointer (some ⟨R.T,0,none⟩)] #[]] w fun e w'=>∃(A:OA) (c:Nat),e=.returned (.slice A (QF_ R.sg one m N [] st).1.length c)/\Mine w' w.heap.size 3 1 A (QF_ R.sg one m N [] st).1.length c (Qa_ (QF_ R.sg one m N [] st).1)/\(QF_ R.sg one m N [] st).1.length<=301/\∃row',RdI (({ R with U:=U }:RC).res A) d (QF_ R.sg one m N [] st).2 row' w'/\Kr R.T row w row' w':=
 G1_ { R with U:=U } hi d lo one HO h1 m N st row w hI a hN
end
theorem vh_ (R:RC) (hi:R.imp=true) (d lo:Nat) (one:RdSt->PR) (HO:Hid (OneC R 216 d lo one)) (h1:∀st,Adv 1 1 st (one st).2) (N:Nat) (k:Int) (st:RdSt) (row:ON) (w:World) (E:RdI R d st row w) (G:LoB lo st) (hN:R.n < N):
  Calls prog 236 #[.pointer (some ⟨R.T,0,none⟩),.int .i64 k] w (Does R d row w (.int .i64 (Yc_ R.sg one N k st).1) (Yc_ R.sg one N k st).2):=by
 obtain⟨i0,F,I,J,f⟩:=info_parts QB_;have i:=hid (And.intro F (And.intro I (And.intro J f)));clear F I J f;have P:=hid E;have S:=hid (Kr.refl R.T row w);have X:=hid G;have HA:=hid h1;have ah:=hid E.lo;unfold Does Yc_;clear E G h1;go_enter func236,ntmps236;go_wp2_with fail
 refine pst (ZP_ R hi d st row ⟨#[40]⟩ w P.o) S ?_;intro w1 K t y;have V:Hid (LoB lo (Qk_ R.sg st ⟨#[40]⟩)):=X.o.adv (Qo_ _ _);have h:=hid (t.o.res_new (A:=some ⟨w1.heap.size,0,none⟩) (br.alloc (Nat.le_refl _) (.cells #[.int .i64 k] 3)) (fun g hg=>by simp at hg;subst hg;simp));have D:=hid (GZ_ w1 k);have b:=hid t.o.lo;go_wp2_with fail
 refine(Qct_ _ hi d _ K lo one HO HA.o ⟨#[41]⟩ N _ h.o V.o (QL_ hN _)).mono ?_;rintro e w2 ⟨A,c,rfl,m2,am,row2,h2,O⟩;have l:=Vq_ h O D;have z:=QQ_ y O;have v:=hid h2.unres;have Y:=hid m2;have f:=O.size;clear h2 O m2 h D;have aj:w1.heap.size<=w2.heap.size:=by simp at f;omega
 have ag:R.w0.heap.size<=w1.heap.size:=b.o.1;have U:Hid (Qa_ [k]++Qa_ (QF_ R.sg one ⟨#[41]⟩ N [] (Qk_ R.sg st ⟨#[40]⟩)).1=Qa_ (k::(QF_ R.sg one ⟨#[41]⟩ N [] (Qk_ R.sg st ⟨#[40]⟩)).1)):=(show _=_ by simp[Qa_]);rcases Y.o.own with⟨eA,h0,ad⟩|⟨g,eA,ai,al,ak,o⟩
 ·have H:Hid ((QF_ R.sg one ⟨#[41]⟩ N [] (Qk_ R.sg st ⟨#[40]⟩)).1=[]):=List.eq_nil_of_length_eq_zero h0;have a:=hid (fun(w':World) (E:RdI (R.res (some ⟨w1.heap.size,0,none⟩)) d (QF_ R.sg one ⟨#[41]⟩ N [] (Qk_ R.sg st ⟨#[40]⟩)).2 row2 w') (hm:Mine w' w1.heap.size 3 1 (some ⟨w1.heap.size,0,none⟩) 1 1 (Qa_ [k]))=>Ku_ R hi d _ row2 ⟨#[41]⟩ 5 noT (some ⟨w1.heap.size,0,none⟩) 1 1 (k::(QF_ R.sg one ⟨#[41]⟩ N [] (Qk_ R.sg st ⟨#[40]⟩)).1) false w1.heap.size w' E.unres (by rw[H.o];exact hm) b.o);unfold Does at a;subst eA;subst ad;rw[h0];clear h0 f;go_wp2_with (at_builtin;(refine wpList_append_own_none rfl (.tmp 9) (.tmp 13) _ rfl w1.heap.size 3 i0 1 underlying34 i.o.1 (.slice (some ⟨w1.heap.size,0,none⟩) 1 1) 1 (Qa_ [k]) rfl l.o rfl ?_))
  go_wp2_with fail
  refine(a.o w2 v.o l.o).mono ?_;rintro e w3 ⟨rfl,L,h3,k3⟩;go_wp2;go_ret;exact⟨rfl,L,h3,z.o.trans k3⟩
 ·subst eA;have n:∀j u,(Qa_ (QF_ R.sg one ⟨#[41]⟩ N [] (Qk_ R.sg st ⟨#[40]⟩)).1)[j]? =some u->w2.cell? ((⟨g,0,none⟩:Addr).add j)=some u:=fun j u hj=>by
   obtain⟨rest,hb,_⟩:=o;rw[Addr.add_lit,hb.cell,Nat.zero_add];have ae:j < (Qa_ (QF_ R.sg one ⟨#[41]⟩ N [] (Qk_ R.sg st ⟨#[40]⟩)).1).length:=(List.getElem?_eq_some_iff.1 hj).1;simpa[List.getElem?_append_left ae]using hj
  have s:=hid n;have C:Hid (∀u∈Qa_ (QF_ R.sg one ⟨#[41]⟩ N [] (Qk_ R.sg st ⟨#[40]⟩)).1,u.oneCell'=true):=(show ∀u∈_,_ from fun u hu=>by
   simp only[Qa_,List.mem_map]at hu;obtain⟨x,_,rfl⟩:=hu
   rfl)
  have B:Hid ((Qa_ (QF_ R.sg one ⟨#[41]⟩ N [] (Qk_ R.sg st ⟨#[40]⟩)).1).length=(QF_ R.sg one ⟨#[41]⟩ N [] (Qk_ R.sg st ⟨#[40]⟩)).1.length * 1):=(show _=_ by simp[Qa_]);clear o n f;go_wp2_with (at_builtin;(refine Qf_ _ rfl (.tmp 9) (.tmp 13) _ rfl w1.heap.size 3 i0 (.int .i64 0) 1 8 underlying34 i.o.1 i.o.2.1 i.o.2.2.1 i.o.2.2.2 rfl (by decide) (.slice (some ⟨w1.heap.size,0,none⟩) 1 1) 1 (Qa_ [k]) rfl l.o ⟨g,0,none⟩ _ c _ rfl B.o s.o C.o (by unfold maxLen;omega) oo oo ?_);intro v' w4 m r p;obtain⟨A4,aa,rfl,h4,m4⟩:=RdI.appended v.o l.o b.o.1 br m r p)
  have T:=hid (z.o.grown r (fun q hq=>by rw[Qw_]at hq;have:=(Mine.blk l.o hq).1;have:=y.o.size;omega));rw[U.o]at m4;have Q:=hid h4.unres;have Z:=hid m4;clear m r p h4 m4;have a:=hid (Ku_ R hi d _ row2 ⟨#[41]⟩ 5 noT A4 _ aa (k::(QF_ R.sg one ⟨#[41]⟩ N [] (Qk_ R.sg st ⟨#[40]⟩)).1) false w1.heap.size w4 Q.o Z.o b.o);unfold Does at a;go_wp2_with fail
  refine a.o.mono ?_;rintro e w5 ⟨rfl,M,h5,k5⟩;go_wp2;go_ret;exact⟨rfl,M,h5,T.o.trans k5⟩
theorem xd_ (w:World):∃W,W=(((((((w.alloc (.cells #[.string ⟨#[124,124]⟩] 9)).alloc (.cells #[.string ⟨#[38,38]⟩] 9)).alloc (.cells #[.string ⟨#[61,61]⟩] 9)).alloc (.cells #[.string ⟨#[60]⟩] 9)).alloc (.cells #[.string ⟨#[43]⟩,.string ⟨#[45]⟩] 9)).alloc (.cells #[.string ⟨#[42]⟩] 9)).alloc (.cells #[.slice (some ⟨w.heap.size,0,none⟩) 1 1,.slice (some ⟨w.heap.size+1,0,none⟩) 1 1,.slice (some ⟨w.heap.size+1+1,0,none⟩) 1 1,.slice (some ⟨w.heap.size+1+1+1,0,none⟩) 1 1,.slice (some ⟨w.heap.size+1+1+1+1,0,none⟩) 2 2,.slice (some ⟨w.heap.size+1+1+1+1+1,0,none⟩) 1 1] 37))/\Below w.heap.size w W/\Blk W (w.heap.size) 9 #[.string ⟨#[124,124]⟩]/\Blk W (w.heap.size+1) 9 #[.string ⟨#[38,38]⟩]/\Blk W (w.heap.size+1+1) 9 #[.string ⟨#[61,61]⟩]/\Blk W (w.heap.size+1+1+1) 9 #[.string ⟨#[60]⟩]/\Blk W (w.heap.size+1+1+1+1) 9 #[.string ⟨#[43]⟩,.string ⟨#[45]⟩]/\Blk W (w.heap.size+1+1+1+1+1) 9 #[.string ⟨#[42]⟩]:=by
 refine⟨_,rfl,grow_,?_,?_,?_,?_,?_,?_⟩
 ·have h:=Blk.new w 9 #[.string ⟨#[124,124]⟩];exact((((((h.alloc _).alloc _).alloc _).alloc _).alloc _).alloc _)
 ·have h:=Blk.new (w.alloc (.cells #[.string ⟨#[124,124]⟩] 9)) 9 #[.string ⟨#[38,38]⟩];simp only[World.size_alloc]at h;exact(((((h.alloc _).alloc _).alloc _).alloc _).alloc _)
 ·have h:=Blk.new ((w.alloc (.cells #[.string ⟨#[124,124]⟩] 9)).alloc (.cells #[.string ⟨#[38,38]⟩] 9)) 9 #[.string ⟨#[61,61]⟩];simp only[World.size_alloc]at h;exact((((h.alloc _).alloc _).alloc _).alloc _)
 ·have h:=Blk.new (((w.alloc (.cells #[.string ⟨#[124,124]⟩] 9)).alloc (.cells #[.string ⟨#[38,38]⟩] 9)).alloc (.cells #[.string ⟨#[61,61]⟩] 9)) 9 #[.string ⟨#[60]⟩];simp only[World.size_alloc]at h;exact(((h.alloc _).alloc _).alloc _)
 ·have h:=Blk.new ((((w.alloc (.cells #[.string ⟨#[124,124]⟩] 9)).alloc (.cells #[.string ⟨#[38,38]⟩] 9)).alloc (.cells #[.string ⟨#[61,61]⟩] 9)).alloc (.cells #[.string ⟨#[60]⟩] 9)) 9 #[.string ⟨#[43]⟩,.string ⟨#[45]⟩];simp only[World.size_alloc]at h;exact((h.alloc _).alloc _)
 ·have h:=Blk.new (((((w.alloc (.cells #[.string ⟨#[124,124]⟩] 9)).alloc (.cells #[.string ⟨#[38,38]⟩] 9)).alloc (.cells #[.string ⟨#[61,61]⟩] 9)).alloc (.cells #[.string ⟨#[60]⟩] 9)).alloc (.cells #[.string ⟨#[43]⟩,.string ⟨#[45]⟩] 9)) 9 #[.string ⟨#[42]⟩];simp only[World.size_alloc]at h;exact(h.alloc _)
def OffM (b:Bool) (j:Nat):Prop:=0 < j->b=false
theorem qa_ (R:RC) (hi:R.imp=true) (d:Nat) (st:RdSt) (row:ON) (w:World) (hI:RdI R d st row w) (l:Int) (t:BA) (hl:(l=0/\t=⟨#[124,124]⟩)\/(l=1/\t=⟨#[38,38]⟩)\/(l=2/\t=⟨#[61,61]⟩)\/(l=3/\t=⟨#[60]⟩)\/(l=5/\t=⟨#[42]⟩)):
  Calls prog 248 #[.pointer (some ⟨R.T,0,none⟩),.int .i64 l] w fun e w'=>e=.returned (.string (if isM R.sg st t=true then t else noT))/\Below w.heap.size w w':=by
 have g:=hid (fun W (c:Below w.heap.size w W)=>Y5_ R hi d st row t W (hI.next c));obtain⟨W,c,x,B0,B1,B2,B3,B4,B5⟩:=xd_ w;replace c:=hid c;generalize isM R.sg st t=M at g |-
 generalize m:(if M=true then t else noT)=mk;have n:=hid m.symm;clear m;clear hI;rcases hl with⟨rfl,rfl⟩|⟨rfl,rfl⟩|⟨rfl,rfl⟩|⟨rfl,rfl⟩|⟨rfl,rfl⟩
 have k:=B0
 rotate_left
 have k:=B1
 rotate_left
 have k:=B2
 rotate_left
 have k:=B3
 rotate_left
 have k:=B5
 all_goals
  clear B0 B1 B2 B3 B4 B5;go_enter func248,ntmps248;go_upto_region 3 with fail
  rw[<-c.o];clear c;go_loopw [20] (fun i wr=>∃j:Nat,j<=1/\i=.int .i64 j/\OffM M j/\Below W.heap.size W wr) (fun i _=>1 - (intOf i).toNat)
  case atStart=>exact⟨0,oo,rfl,(fun h=>oo),br⟩
  case round=>
   obtain⟨j,hj,rfl,p,s⟩:=hrel;have q:=k.next s;have kz:=q.lt;have k0:=q.q0;have b:=Qb_ x s;clear q;rcases (show j=0\/j=1 from oo)with rfl|rfl
   ·have o:=hid (g.o _ b);rcases Bool.eq_false_or_eq_true M with a|a
    ·rw[a]at o;obtain rfl:=n.o.trans (if_pos a);clear n a;go_wp2_with fail
     refine o.o.mono ?_;rintro e w2 ⟨rfl,r⟩;go_wp2;go_ret;exact⟨rfl,Qb_ b r⟩
    ·rw[a]at o;have f:OffM M 1:=fun _=>a
     clear a;go_wp2_with fail
     refine o.o.mono ?_;rintro e w2 ⟨rfl,r⟩;have v:=Qb_ s r;clear k0;go_wp2;go_roundw
     case rel=>exact⟨1,oo,by go_num,f,v⟩
     case measure=>simp[intOf]
   ·obtain rfl:mk=noT:=(by rw[n.o,p oo,if_neg (by decide)]);clear n;go_wp2;go_ret;exact⟨rfl,b⟩
theorem QfU_ (sg:List SgP) (st:RdSt):KK_ sg st 4=if isM sg st ⟨#[43]⟩=true then ⟨#[43]⟩else if isM sg st ⟨#[45]⟩=true then ⟨#[45]⟩else noT:=rfl
theorem xZ_ (R:RC) (hi:R.imp=true) (d:Nat) (st:RdSt) (row:ON) (w:World) (t:RdI R d st row w):
  Calls prog 248 #[.pointer (some ⟨R.T,0,none⟩),.int .i64 4] w fun e w'=>e=.returned (.string (KK_ R.sg st 4))/\Below w.heap.size w w':=by
 have r:=hid (fun W (n:Below w.heap.size w W)=>Y5_ R hi d st row ⟨#[43]⟩ W (t.next n));have s:=hid (fun W (n:Below w.heap.size w W)=>Y5_ R hi d st row ⟨#[45]⟩ W (t.next n));have k:=hid (QfU_ R.sg st);generalize KK_ R.sg st 4=mk at k |-
 clear t;go_enter func248,ntmps248;go_upto_region 3 with fail
 obtain⟨W,n,v,B0,B1,B2,B3,K0,B5⟩:=xd_ w;rw[<-n];clear n B0 B1 B2 B3 B5;go_loopw [20] (fun i wr=>∃j:Nat,j<=2/\i=.int .i64 j/\Hid ((0 < j->isM R.sg st ⟨#[43]⟩=false)/\(1 < j->isM R.sg st ⟨#[45]⟩=false))/\Below W.heap.size W wr) (fun i _=>2 - (intOf i).toNat)
 case atStart=>exact⟨0,oo,rfl,(show(0 < 0->isM R.sg st ⟨#[43]⟩=false)/\(1 < 0->isM R.sg st ⟨#[45]⟩=false)from⟨fun h=>oo,fun h=>oo⟩),br⟩
 case round=>
  obtain⟨j,hj,rfl,f,q⟩:=hrel;have p:=K0.next q;have kz:=p.lt;have k0:=p.q0;have k1:=p.q1;have c:=Qb_ v q;clear p;rcases (show j=0\/j=1\/j=2 from oo)with rfl|rfl|rfl
  ·have g:=hid (r.o _ c);rcases bft (isM R.sg st ⟨#[43]⟩)with a|a
   ·rw[a]at g;have o:mk=⟨#[43]⟩:=(by rw[k.o,a,if_pos rfl]);subst o;clear k a;go_wp2_with fail
    refine g.o.mono ?_;rintro e w2 ⟨rfl,l⟩;go_wp2;go_ret;exact⟨rfl,Qb_ c l⟩
   ·rw[a]at g;have b:Hid ((0 < 1->isM R.sg st ⟨#[43]⟩=false)/\(1 < 1->isM R.sg st ⟨#[45]⟩=false)):=(show(0 < 1->isM R.sg st ⟨#[43]⟩=false)/\(1 < 1->isM R.sg st ⟨#[45]⟩=false)from⟨fun _=>a,fun h=>oo⟩);clear a;go_wp2_with fail
    refine g.o.mono ?_;rintro e w2 ⟨rfl,l⟩;have m:=Qb_ q l;clear k0 k1;go_wp2;go_roundw
    case rel=>exact⟨1,oo,by go_num,b,m⟩
    case measure=>simp[intOf]
  ·have g:=hid (s.o _ c);rcases bft (isM R.sg st ⟨#[45]⟩)with a|a
   ·rw[a]at g;have o:mk=⟨#[45]⟩:=(by rw[k.o,(f.o.1 oo),if_neg (by decide),a,if_pos rfl]);subst o;clear k a;go_wp2_with fail
    refine g.o.mono ?_;rintro e w2 ⟨rfl,l⟩;go_wp2;go_ret;exact⟨rfl,Qb_ c l⟩
   ·rw[a]at g;have b:Hid ((0 < 2->isM R.sg st ⟨#[43]⟩=false)/\(1 < 2->isM R.sg st ⟨#[45]⟩=false)):=(show(0 < 2->isM R.sg st ⟨#[43]⟩=false)/\(1 < 2->isM R.sg st ⟨#[45]⟩=false)from⟨fun _=>(f.o.1 oo),fun _=>a⟩);clear a;go_wp2_with fail
    refine g.o.mono ?_;rintro e w2 ⟨rfl,l⟩;have m:=Qb_ q l;clear k0 k1;go_wp2;go_roundw
    case rel=>exact⟨2,oo,by go_num,b,m⟩
    case measure=>simp[intOf]
  ·have o:mk=noT:=(by rw[k.o,(f.o.1 oo),if_neg (by decide),(f.o.2 oo),if_neg (by decide)]);subst o;clear k;go_wp2;go_ret;exact⟨rfl,c⟩
theorem z9_ (R:RC) (hi:R.imp=true) (d:Nat) (st:RdSt) (row:ON) (l:Nat) (hl:l < 6) (w:World) (hI:RdI R d st row w):
  Calls prog 248 #[.pointer (some ⟨R.T,0,none⟩),.int .i64 l] w fun e w'=>e=.returned (.string (KK_ R.sg st l))/\Below w.heap.size w w':=by
 rcases (show l=4\/l=0\/l=1\/l=2\/l=3\/l=5 from oo)with rfl|rfl|rfl|rfl|rfl|rfl
 ·exact xZ_ R hi d st row w hI
 all_goals exact qa_ R hi d st row w hI _ _ (by simp)
def FnAt (sg:List SgP) (st:RdSt) (i N:Nat):Prop:=∃f,sg.length<=f+i/\fnF sg st f i=N
theorem Qcb_ {sg:List SgP} {st:RdSt} {i N:Nat} (h:FnAt sg st i N) (hn:Kd_ sg st i=false):N=i:=by
 obtain⟨f,_,h⟩:=h
 cases f with
 |zero=>exact h.symm
 |succ f=>unfold fnF at h;rw[hn,if_neg (by decide)]at h;exact h.symm
theorem Qca_ {sg:List SgP} {st:RdSt} {i N:Nat} (h:FnAt sg st i N) (hn:Kd_ sg st i=true) (hc:((Qu_ sg st (i+1)).2.1.toList==[44])=true):FnAt sg st (i+2) N:=by
 obtain⟨f,hf,h⟩:=h;obtain⟨s,rfl,hl⟩:=Z4_ hn
 cases f with
 |zero=>omega
 |succ f=>unfold fnF at h;rw[hn,if_pos rfl,hc,if_pos rfl]at h;exact⟨f,oo,h⟩
theorem Qb9_ {sg:List SgP} {st:RdSt} {i N:Nat} (h:FnAt sg st i N) (hn:Kd_ sg st i=true) (hc:((Qu_ sg st (i+1)).2.1.toList==[44])=false):N=i+1:=by
 obtain⟨f,hf,h⟩:=h;obtain⟨s,rfl,hl⟩:=Z4_ hn
 cases f with
 |zero=>omega
 |succ f=>unfold fnF at h;rw[hn,if_pos rfl,hc,if_neg (by decide)]at h;exact h.symm
theorem Qaj_ (R:RC) (hi:R.imp=true) (d:Nat) (st:RdSt) (row:ON) (w:World) (J:RdI R d st row w):
  Calls prog 251 #[.pointer (some ⟨R.T,0,none⟩)] w fun e w'=>e=.returned (.bool (fnB R.sg st))/\Below w.heap.size w w':=by
 obtain⟨N,Q⟩:=ex_ (fnF R.sg st (R.sg.length+1) 1);have j:Hid (fnB R.sg st=(((Qu_ R.sg st N).2.1.toList==[41])&&((Qu_ R.sg st (N+1)).2.1.toList==[61,62]))):=(show _=_ by unfold fnB;rw[Q]);have D:Hid (FnAt R.sg st 1 N):=⟨R.sg.length+1,oo,Q⟩;have P:=hid (show R.sg.length<=3000 by rw[J.ok.len];exact J.ok.most);have q:=hid (fun(i:Nat) (z:i<=100000) W (S:Below w.heap.size w W)=>YF_ R hi d st row i W (J.next S) z);have L:=hid (fun(i:Nat) (z:i<=100000) W (S:Below w.heap.size w W)=>Ky_ R hi d st row i W (J.next S) z);generalize fnB R.sg st=B at j |-
 have Y:=kx_;clear J Q;go_enter func251,ntmps251;go_wp2;go_loopw [3] (fun n wr=>∃i:Nat,n=.int .i64 i/\i<=3002/\Hid (FnAt R.sg st i N)/\Below w.heap.size w wr) (fun n _=>4000 - (intOf n).toNat)
 case atStart=>exact⟨1,rfl,oo,D,br⟩
 case round=>
  clear D;obtain⟨i,rfl,Z,k,C⟩:=hrel;rcases bft (Kd_ R.sg st i)with o|o
  ·have aa:i < 3000:=(by obtain⟨s,_,hl⟩:=Z4_ o;have:=P.o;omega);have c:=hid (L.o i oo _ C);rw[o]at c;have F:=hid (fun h=>Qca_ k.o o h);have E:=hid (fun h=>Qb9_ k.o o h);clear o k;go_wp2_with fail
   refine c.o.mono ?_;rintro e w2 ⟨rfl,G⟩;have g:=Qb_ C G;clear G C c;have l:=q.o (i+1) oo _ g;rw[show((i+1:Nat):Int)=(i:Int)+1 from oo]at l;have m:=hid l;clear l;generalize U:Qu_ R.sg st (i+1)=x at m F E;obtain⟨xk,M,xp,xz⟩:=x;dsimp only at m F E;go_wp2_with fail
   refine m.o.mono ?_;rintro e w3 ⟨rfl,g3⟩;have v:=Qb_ g g3;clear g3 g m;rcases bft (M.toList==[44])with K|K
   ·have T:(M.toList != [44])=false:=(by rw[bne,K];rfl);have O:=hid (F.o K);clear F E U;go_wp2;refine⟨⟨i+2,by go_num,oo,O,v⟩,?_⟩;simp[intOf];omega
   ·have T:(M.toList != [44])=true:=(by rw[bne,K];rfl);obtain rfl:N=i+1:=E.o K;rw[U]at j;clear F E;have l:=q.o (i+1+1) oo;rw[show((i+1+1:Nat):Int)=(i:Int)+1+1 from oo]at l;have p:=q.o (i+1) oo _ v;rw[show((i+1:Nat):Int)=(i:Int)+1 from oo]at p;rw[U]at p;have a:=hid l;have b:=hid p;clear l p L q;generalize A:Qu_ R.sg st (i+1+1)=X at a j;obtain⟨bk,r,bp,bz⟩:=X;dsimp only at b a j;clear A;go_wp2_with fail
    refine b.o.mono ?_;rintro e wa ⟨rfl,H⟩;have f:=Qb_ v H;clear H b;rcases bft (M.toList==[41])with h1|h1
    ·have t:B=(r.toList==[61,62]):=(by rw[j.o,h1,Bool.true_and]);subst t;go_wp2_with fail
     refine(a.o _ f).mono ?_;rintro e wb ⟨rfl,I⟩;have y:=Qb_ f I;clear I a;go_wp2;go_ret;exact⟨rfl,y⟩
    ·have t:B=false:=(by rw[j.o,h1,Bool.false_and]);subst t;go_wp2;go_ret;exact⟨rfl,f⟩
  ·obtain rfl:N=i:=Qcb_ k.o o;have c:=hid (L.o N oo _ C);rw[o]at c;clear o k;go_wp2_with fail
   refine c.o.mono ?_;rintro e w2 ⟨rfl,G⟩;have g:=Qb_ C G;clear G C c;have l:=q.o (N+1) oo;rw[show((N+1:Nat):Int)=(N:Int)+1 from oo]at l;have a:=hid l;have b:=hid (q.o N oo _ g);clear l L q;generalize V:Qu_ R.sg st (N)=xa at b j;generalize A:Qu_ R.sg st (N+1)=X at a j;obtain⟨ak,at_,ap,az⟩:=xa;obtain⟨bk,r,bp,bz⟩:=X;dsimp only at b a j;clear V A;go_wp2_with fail
   refine b.o.mono ?_;rintro e wa ⟨rfl,H⟩;have f:=Qb_ g H;clear H b;rcases bft (at_.toList==[41])with h1|h1
   ·have t:B=(r.toList==[61,62]):=(by rw[j.o,h1,Bool.true_and]);subst t;go_wp2_with fail
    refine(a.o _ f).mono ?_;rintro e wb ⟨rfl,I⟩;have y:=Qb_ f I;clear I a;go_wp2;go_ret;exact⟨rfl,y⟩
   ·have t:B=false:=(by rw[j.o,h1,Bool.false_and]);subst t;go_wp2;go_ret;exact⟨rfl,f⟩
end Go.Proofs.YtgbikafalcbibaaGreatDoor

/-
  Put together by program (shake.py):TellN,TellG,TellI,LawFirst,LawLine.
-/
import Derived.Test.YtgbikafalcbibaaGreatDoorMaI
import Derived.Test.YtgbikafalcbibaaGreatDoorMaYP
import Derived.Test.YtgbikafalcbibaaGreatDoorMaD
set_option maxRecDepth 100000
set_option linter.all false
set_option maxHeartbeats 25600000
open Go.Lib (hid)
open Go.Proofs.Tryz
namespace Go.Proofs.YtgbikafalcbibaaGreatDoor
open Go.RowKit
theorem qr_ (T Sb:Nat) (A:OA) (n c:Nat) (w0 w:World) (ps:List PN) (f:Nat) (x:PN) (A':OA) (c':Nat) (s fin:TS) (hN:Yt_ 85 76 T Sb A n c w0 ps f) (h:TL 76 T Sb A n c w0 s w) (hr:Rd w0 1 A' x.kids.length (Qa_ x.kids)) (a:x.kids.length<=c') (hv:Hid (∀v∈x.kids,0<=v/\v < (f:Int)/\v < (n:Int))) (hk:1<=x.kind/\x.kind<=11) (d:QW_ x.kind<=(x.kids.length:Int)) (b:(x.kids.length:Int)<=QT_ x.kind) (hL:LeftE (Qn_ ps f) s (evs x) fin):
  Calls prog 120 #[.pointer (some ⟨T,0,none⟩),.agg #[.int .i64 x.kind,.string x.text,.slice A' x.kids.length c',.bool x.blank]] w (Xy_ 76 T Sb A n c w0 w fin):=by
 obtain⟨hm,hF⟩:=vm_ (t:=x.text) (z:=x.blank) oo d b (fun v h=>(hv.o v h).1);exact QgZ_ T Sb A n c w0 w ps f _ _ A' _ c' _ _ _ s fin hN h hr rfl hm a hv hk hF hL
theorem qp_ (T Sb:Nat) (A:OA) (n c:Nat) (w0 w:World) (ps:List PN) (f:Nat) (x:PN) (A':OA) (c':Nat) (s fin:TS) (hN:Yt_ 85 76 T Sb A n c w0 ps f) (h:TL 76 T Sb A n c w0 s w) (hr:Rd w0 1 A' x.kids.length (Qa_ x.kids)) (a:x.kids.length<=c') (hv:Hid (∀v∈x.kids,0<=v/\v < (f:Int)/\v < (n:Int))) (hk:12<=x.kind/\x.kind<=22) (d:QW_ x.kind<=(x.kids.length:Int)) (b:(x.kids.length:Int)<=QT_ x.kind) (hL:LeftE (Qn_ ps f) s (evs x) fin):
  Calls prog 121 #[.pointer (some ⟨T,0,none⟩),.agg #[.int .i64 x.kind,.string x.text,.slice A' x.kids.length c',.bool x.blank]] w (Xy_ 76 T Sb A n c w0 w fin):=by
 obtain⟨hm,hF⟩:=vm_ (t:=x.text) (z:=x.blank) oo d b (fun v h=>(hv.o v h).1);exact QgY_ T Sb A n c w0 w ps f _ _ A' _ c' _ _ _ s fin hN h hr rfl hm a hv hk hF hL
theorem zl_ (T Sb:Nat) (A:OA) (n c:Nat) (w0 w:World) (ps:List PN) (f:Nat) (x:PN) (A':OA) (c':Nat) (s fin:TS) (hN:Yt_ 80 97 T Sb A n c w0 ps f) (h:TL 97 T Sb A n c w0 s w) (hr:Rd w0 1 A' x.kids.length (Qa_ x.kids)) (a:x.kids.length<=c') (hv:Hid (∀v∈x.kids,0<=v/\v < (f:Int)/\v < (n:Int))) (hk:1<=x.kind/\x.kind<=11) (d:QW_ x.kind<=(x.kids.length:Int)) (b:(x.kids.length:Int)<=QT_ x.kind) (hL:LeftE (Qn_ ps f) s (evs x) fin):
  Calls prog 114 #[.pointer (some ⟨T,0,none⟩),.agg #[.int .i64 x.kind,.string x.text,.slice A' x.kids.length c',.bool x.blank]] w (Xy_ 97 T Sb A n c w0 w fin):=by
 obtain⟨hm,hF⟩:=vm_ (t:=x.text) (z:=x.blank) oo d b (fun v h=>(hv.o v h).1);exact Qhg_ T Sb A n c w0 w ps f _ _ A' _ c' _ _ _ s fin hN h hr rfl hm a hv hk hF hL
section
variable {ty:TypeId} {T Sb:Nat} {A:OA} {n c:Nat} {w0 w w':World} {s:TS}
theorem TL.drew (h:TL ty T Sb A n c w0 s w):TL ty T Sb A n c w0 s w.drew:=by
 obtain⟨AS,cS,hb,hm,ho,h1,h2,h3,h4,h5,a⟩:=h;exact⟨AS,cS,hb.drew,hm.drew,ho.drew,h1,h2,h3,h4,h5,a.drew⟩
theorem Kp.drew (h:Kp T Sb w w'):Kp T Sb w w'.drew:=⟨h.1,fun g t cs hb h1 h2 h3=>(h.2 g t cs hb h1 h2 h3).drew⟩
theorem Kp.setS (h:Kp T Sb w w') (i:Nat) (u:Value):Kp T Sb w (w'.setCell ⟨Sb,i,none⟩ u):=⟨Nat.le_trans h.1 (by simp[World.setCell]),fun g t cs hb h1 h2 h3=>(h.2 g t cs hb h1 h2 h3).far h2 u⟩
theorem TL.start (h:TL ty T Sb A n c w0 s w) {k:Nat} (hk:k < n):TL ty T Sb A n c w0 (s.1,s.2.set k (s.1.length:Int)) (w.setCell ⟨Sb,k,none⟩ (.int .i64 s.1.length)):=by
 obtain⟨AS,cS,hb,hm,ho,h1,h2,h3,h4,h5,b⟩:=h;refine⟨AS,cS,hb.far h2 _,?_,?_,by simp[h1],h2,h3,h4,h5,b.setCell h4 _⟩
 ·rcases hm.own with⟨e1,e2,e3⟩|⟨g,rfl,hB,e,d,f⟩
  ·have a:s.1=[]:=List.eq_nil_of_length_eq_zero e2;subst e1;subst e3;rw[a];exact Mine.mk_nil _ _ _ _
  ·exact Mine.mk_own (f.far (h5 g rfl).2 _) hm.len hB e d
 ·have:=ho.put (i:=k) (by simp[Qa_,h1];exact hk) (.int .i64 (s.1.length:Int));unfold Qa_ at this |-
  rw[List.map_set];exact this
end
theorem Vu_ {ps:List PN} {k:Nat} {x:PN} (a:K3_ ps k=true) (hx:ps[k]? =some x):(1<=x.kind/\x.kind<=22)/\QW_ x.kind<=(x.kids.length:Int)/\(x.kids.length:Int)<=QT_ x.kind:=by
 rw[<-Ws_]at a;unfold WQ_ at a;rw[hx]at a;simp only[Bool.and_eq_true]at a;exact⟨of_decide_eq_true a.1,of_decide_eq_true a.2.1⟩
theorem qo_ (T Sb:Nat) (A:OA) (n c:Nat) (w0 w:World) (ps:List PN) (f j:Nat) (s:TS) (hN:Yt_ 85 76 T Sb A n c w0 ps f) (am:j < f+1) (k:j < n) (h:TL 76 T Sb A n c w0 s w) (B:Nps w0 A n ps) (z:K3_ ps j=true) (hS:(Qn_ ps (f+1) j s).1.length<=1000000):
  Calls prog 85 #[.pointer (some ⟨T,0,none⟩),.int .i64 j] w (Xy_ 76 T Sb A n c w0 w (Qn_ ps (f+1) j s)):=by
 obtain⟨x,O⟩:=B.get k;have hL:=hid (show LeftE (Qn_ ps f) (s.1,s.2.set j (s.1.length:Int)) (evs x) (Qn_ ps (f+1) j s)from⟨QH_ ps f,(GU_ O s).symm,hS⟩);obtain⟨ao,L,J⟩:=Vu_ z O;have P:Hid (∀v∈x.kids,0<=v/\v < (f:Int)/\v < (n:Int)):=(show ∀v∈x.kids,_ from fun v P=>by have:=Ve_ z O P;omega);obtain⟨b,off,A2,c2,rfl,I,x0,x1,x2,x3,q,D⟩:=B.atc k O;have K:=h.len;obtain⟨af,ag⟩:=QE_ h.below;have d:=hid (fun(W:World) hT (t:1<=x.kind/\x.kind<=11)=>qr_ T Sb (some ⟨b,off,none⟩) n c w0 W ps f x A2 c2 _ _ hN hT D q P t L J hL.o);have a:=hid (fun(W:World) hT (t:12<=x.kind/\x.kind<=22)=>qp_ T Sb (some ⟨b,off,none⟩) n c w0 W ps f x A2 c2 _ _ hN hT D q P t L J hL.o);have H:=h;generalize Qn_ ps (f+1) j s=fin at d a hS |-
 obtain⟨AS,cS,l,hm,p,h1,h2,h3,h4,h5,o⟩:=h;have t0:=l.q0;have t1:=l.q1;have t2:=l.q2;have tz:=l.lt;have ai:=o.size;have N:=p.lt;obtain⟨o0,e0⟩:=p.there (i:=j) k;have M:=p.frozen;have gj:(j:Int) < n:=oo;have al:(0:Int)<=(j:Int):=oo;have R:=hid H;clear hL hS B O z hm p h5 o l H D hN K;unfold Xy_;go_enter func85,ntmps85;go_upto_region 1 with fail
 have r:=hid (R.o.alloc (.cells #[.int .i64 x.kind,.string x.text,.slice A2 x.kids.length c2,.bool x.blank] 36));have U:=hid (Blk.new w 36 #[.int .i64 x.kind,.string x.text,.slice A2 x.kids.length c2,.bool x.blank]);have PA:Kp T Sb w (w.alloc (.cells #[.int .i64 x.kind,.string x.text,.slice A2 x.kids.length c2,.bool x.blank] 36)):=(Kp.refl T Sb w).alloc _;have gS:w.heap.size≠Sb:=oo;clear t0 t1 t2 tz af ag I x0 x1 x2 x3 e0 M N ai;generalize (w.alloc (.cells #[.int .i64 x.kind,.string x.text,.slice A2 x.kids.length c2,.bool x.blank] 36))=W at r U PA |-
 have F:=r.o;obtain⟨aj,ak,l,hm,p,V,X,Y,Z,aa,o⟩:=F;have t1:=l.q1;have t2:=l.q2;have tz:=l.lt;have N:=p.lt;obtain⟨o0,e0⟩:=p.there (i:=j) k;have M:=p.frozen;have ap:=U.o.cell 0;clear l hm p V X Y Z aa o;go_still_tail 11,(by kernel_rfl);change wpList _ _ _ _ _ W.drew;have m:=hid (TL.start r.o k).drew;have E:Kp T Sb w (W.setCell ⟨Sb,j,none⟩ (.int .i64 s.1.length)).drew:=(PA.setS j _).drew;have G:Blk (W.setCell ⟨Sb,j,none⟩ (.int .i64 s.1.length)).drew w.heap.size 36 #[.int .i64 x.kind,.string x.text,.slice A2 x.kids.length c2,.bool x.blank]:=(U.o.far gS _).drew;have q0:=G.q0;have q1:=G.q1;have q2:=G.q2;have q3:=G.q3;have qz:=G.lt
 cases g:Qj_ x.kind with
 |true=>
  have t:1<=x.kind/\x.kind<=11:=of_decide_eq_true g;have S:=hid (fun W=>show Calls prog 119 #[.int .i64 x.kind] W fun e w'=>e=.returned (.bool true)/\W=w' by rw[<-g];exact Zy_ x.kind W);have Q:=hid (d.o _ m.o t);clear d a g m;go_wp2_with fail
  refine(S.o _).mono ?_;rintro e w1 ⟨rfl,rfl⟩;go_wp2_with fail
  refine Q.o.mono ?_;rintro e w2 ⟨rfl,C,y⟩;go_wp2;go_end0;exact⟨rfl,C,E.trans y⟩
 |false=>
  have an:¬(1<=x.kind/\x.kind<=11):=of_decide_eq_false g;have t:12<=x.kind/\x.kind<=22:=oo;have S:=hid (fun W=>show Calls prog 119 #[.int .i64 x.kind] W fun e w'=>e=.returned (.bool false)/\W=w' by rw[<-g];exact Zy_ x.kind W);have Q:=hid (a.o _ m.o t);clear d a g m;go_wp2_with fail
  refine(S.o _).mono ?_;rintro e w1 ⟨rfl,rfl⟩;go_wp2_with fail
  refine Q.o.mono ?_;rintro e w2 ⟨rfl,C,y⟩;go_wp2;go_end0;exact⟨rfl,C,E.trans y⟩
theorem kG_ (T Sb:Nat) (A:OA) (n c:Nat) (w0:World) (ps:List PN) (d:Nps w0 A n ps) (b:∀j,j < n->K3_ ps j=true):∀f,Yt_ 85 76 T Sb A n c w0 ps f:=by
 intro f
 induction f with
 |zero=>intro j s w hj;omega
 |succ f ih=>intro j s w hj a hT hS;exact qo_ T Sb A n c w0 w ps f j s ih hj a hT d (b j a) hS
theorem Qhd_ (T Sb:Nat) (A:OA) (n c:Nat) (w0 w:World) (ps:List PN) (f j:Nat) (x:PN) (s fin:TS) (U:Yt_ 80 97 T Sb A n c w0 ps f) (h:TL 97 T Sb A n c w0 s w) (M:Nps w0 A n ps) (D:j < n) (hx:Hid (ps[j]? =some x)) (Q:Hid (∀v∈x.kids,0<=v/\v < (f:Int)/\v < (n:Int))) (K:1<=x.kind/\x.kind<=22) (E:QW_ x.kind<=(x.kids.length:Int)) (C:(x.kids.length:Int)<=QT_ x.kind) (S:LeftE (Qn_ ps f) (s.1,s.2.set j (s.1.length:Int)) (evs x) fin):
  Calls prog 80 #[.pointer (some ⟨T,0,none⟩),.int .i64 j] w (Xy_ 97 T Sb A n c w0 w fin):=by
 obtain⟨b,off,A',c',rfl,I,x0,x1,x2,x3,J,F⟩:=M.atc D hx.o;have q:=hid (fun(W:World) V K=>zl_ T Sb (some ⟨b,off,none⟩) n c w0 W ps f x A' c' _ _ U V F J Q K E C S);obtain⟨L,B⟩:=vm_ (t:=x.text) (z:=x.blank) K E C (fun v h=>(Q.o v h).1);have p:=hid (fun(W:World) V hP=>At.new (W:=W) (w:=w) (kd:=x.kind) (text:=x.text) (c':=c') (z:=x.blank) V hP S U Q.o F rfl L);replace B:Hid (EvF x.text x.kind x.kids x.kids.length (evs x)):=B;have R:=hid F;clear M hx U F Q E C S;unfold Xy_;have G:=hid h;obtain⟨AS,cS,y,ab,O,h1,h2,h3,h4,h5,Y⟩:=h;have t1:=y.q1;have t2:=y.q2;have tz:=y.lt;have ad:=O.lt;obtain⟨o0,e0⟩:=O.there (i:=j) D;have ac:=O.frozen;have gj:(j:Int) < n:=oo;have aB:(0:Int)<=(j:Int):=oo;clear y ab O h1 h2 h3 h4 h5 Y;go_enter func80,ntmps80;go_upto_region 1 with fail
 go_still_tail 11,(by kernel_rfl);change wpList _ _ _ _ _ w.drew;go_upto_region 2 with fail
 have d:=hid (TL.start G.o D).drew;have N:Kp T Sb w (w.setCell ⟨Sb,j,none⟩ (.int .i64 s.1.length)).drew:=((Kp.refl T Sb w).setS j _).drew;clear t1 t2 tz ad e0 ac G;generalize (w.setCell ⟨Sb,j,none⟩ (.int .i64 s.1.length)).drew=W1 at d N |-
 generalize ae:(s.1,s.2.set j (s.1.length:Int))=S0 at d q p;clear ae;have X:=d.o;obtain⟨al,am,y,_⟩:=X;have t0:=y.q0;have tz:=y.lt;obtain⟨Z,aa⟩:=QE_ d.o.below;have ah:=d.o.below.size;go_upto_region 3 with fail
 have H:=p.o _ d.o N;have zT:=d.o.blkT;have zS:=d.o.blkS;have P:=N;have HT:=d;clear y t0 tz Z aa ah p d N x0 x1 x2 x3 I;by_cases r:x.kind<=11
 ·have a:∀i:Int,12<=i->(x.kind==i)=false:=fun i hi=>by rw[beq_eq_false_iff_ne];omega
  have aj:=a 12 (by decide);have an:=a 13 (by decide);have ao:=a 14 (by decide);have ap:=a 15 (by decide);have aq:=a 16 (by decide);have ar:=a 17 (by decide);have av:=a 18 (by decide);have ax:=a 19 (by decide);have ay:=a 20 (by decide);have az:=a 21 (by decide);have aA:=a 22 (by decide);clear a B R;have ag:1<=x.kind/\x.kind<=11:=⟨K.1,r⟩;go_wp2_with fail
  refine(q.o _ H.o.ht ag).mono ?_;rintro e w1 ⟨rfl,af,r⟩;go_wp2;go_end0;exact⟨rfl,af,H.o.P.trans r⟩
 ·clear q;have B:=B.o;have F:=R.o;clear R;obtain⟨kd,text,l,z⟩:=x;dsimp only at *;generalize evs ⟨kd,text,l,z⟩=es at B H;generalize hl:l.length=m at *
  cases B
  all_goals first|(exfalso;omega)|skip
  all_goals
   first|(have ha:=qS_ F hl oo;obtain⟨b5,ak,rfl⟩:=ha)|skip
   clear F hl K r
   first|obtain⟨g,k,o⟩:=At.kc3 H|obtain⟨g,k,o⟩:=At.kc2 H|obtain⟨g,k,o⟩:=At.kc1 H|obtain⟨g,k,o⟩:=At.kcl H|skip
   repeat
    go_wp2_with fail
    first
    |(go_at_call 80;refine At.one H ?_)
    |(go_at_call 111;refine At.sheld H ?_)
    |(go_at_call 108;refine At.sword H ?_)
    |(go_at_call 109;refine At.smark H ?_)
    |(go_at_call 112;refine At.sput H ?_)
    |(go_at_call 110;refine At.sall H ?_)
    |(go_at_call 113;refine At.ssome H H.o.hl H.o.hm H.o.hr (fun v h=>h) ?_)
    |(go_at_call 113;refine At.ssome H (JP_ H.o.hl) (Nat.le_of_succ_le H.o.hm) (UH_ H.o.hr H.o.hl) (fun v h=>List.mem_append_left _ h) ?_)
    try clear k0 k1 k2 k3 kz zT zS
    try clear g k o
    intro W1 s1 H1;clear H;have H:=H1;clear H1;obtain⟨k0,k1,k2,k3,kz,zT,zS⟩:=At.facts H
    first|obtain⟨g,k,o⟩:=At.kc3 H|obtain⟨g,k,o⟩:=At.kc2 H|obtain⟨g,k,o⟩:=At.kc1 H|obtain⟨g,k,o⟩:=At.kcl H|skip
   go_wp2;go_end0;exact⟨rfl,(At.fin_ H).1,(At.fin_ H).2⟩
theorem jJ_ (T Sb:Nat) (A:OA) (n c:Nat) (w0:World) (ps:List PN) (d:Nps w0 A n ps) (b:∀j,j < n->K3_ ps j=true):∀f,Yt_ 80 97 T Sb A n c w0 ps f:=by
 intro f
 induction f with
 |zero=>intro j s w hj;omega
 |succ f ih=>
  intro j s w hj a hT hS;obtain⟨x,e⟩:=d.get a;have hL:LeftE (Qn_ ps f) (s.1,s.2.set j (s.1.length:Int)) (evs x) (Qn_ ps (f+1) j s):=⟨QH_ ps f,(GU_ e s).symm,hS⟩;obtain⟨h,i,g⟩:=Vu_ (b j a) e;have k:Hid (∀v∈x.kids,0<=v/\v < (f:Int)/\v < (n:Int)):=(show ∀v∈x.kids,_ from fun v k=>by have:=Ve_ (b j a) e k;omega);exact Qhd_ T Sb A n c w0 w ps f j x s _ ih hT d a (hid e) k h i g hL
def K1_:List Ev->LI
 |[]=>[]
 |.sg _ _::es=>K1_ es
 |.kid j::es=>j::K1_ es
def Kf_:List Ev->Nat
 |[]=>0
 |.sg _ _::es=>Kf_ es+1
 |.kid _::es=>Kf_ es
theorem Zh_ (a b:List Ev):K1_ (a++b)=K1_ a++K1_ b:=by
 induction a with
 |nil=>rfl
 |cons e a ih=>cases e<;>simp[K1_,ih]
theorem KO_ (a b:List Ev):Kf_ (a++b)=Kf_ a+Kf_ b:=by
 induction a with
 |nil=>simp[Kf_]
 |cons e a ih=>cases e<;>simp[Kf_,ih]<;>omega
theorem ZX_ (mk:BA) (l:LI):K1_ (KG_ mk l)=l:=by
 cases l with
 |nil=>rfl
 |cons x r=>
  simp only[KG_,K1_];congr 1
  induction r with
  |nil=>rfl
  |cons y r ih=>rw[List.flatMap_cons,Zh_,ih];rfl
theorem Vi_ (mk:BA) (l:LI):Kf_ (KG_ mk l)<=l.length:=by
 cases l with
 |nil=>simp[KG_,Kf_]
 |cons x r=>
  simp only[KG_,Kf_,List.length_cons];have:∀r:LI,Kf_ (r.flatMap (fun v=>[mkE mk,.kid v]))=r.length:=by
   intro r
   induction r with
   |nil=>rfl
   |cons y r ih=>
    rw[List.flatMap_cons,KO_,ih,List.length_cons];show 1+r.length=r.length+1;omega
  rw[this];omega
theorem XM_ (l:LI):K1_ (Xz_ l)=l:=by
 unfold Xz_
 induction l with
 |nil=>rfl
 |cons x r ih=>simp[K1_,ih]
theorem Xe_ (l:LI):Kf_ (Xz_ l)=0:=by
 unfold Xz_
 induction l with
 |nil=>rfl
 |cons x r ih=>simp[Kf_,ih]
theorem QeA_ {f:Nat->TS->TS} {g:Nat->Nat} (hf:∀k s,(f k s).1.length<=s.1.length+g k):∀(es:List Ev) (s:TS),(Ki_ f s es).1.length<=s.1.length+Kf_ es+Ye_ g (K1_ es):=by
 intro es
 induction es with
 |nil=>
  intro s;show s.1.length<=s.1.length+0+0;omega
 |cons e es ih=>
  intro s;rw[JZ_];have h:=ih (zm_ f s e)
  cases e with
  |sg k t=>
   have:(zm_ f s (.sg k t)).1.length=s.1.length+1:=(by simp[zm_,GI_]);rw[this]at h;simp only[Kf_,K1_];omega
  |kid j=>
   have h2:(zm_ f s (.kid j)).1.length<=s.1.length+g j.toNat:=hf _ _;simp only[Kf_,K1_];have h3:Ye_ g (j::K1_ es)=g j.toNat+Ye_ g (K1_ es):=(by simp[Ye_]);omega
def XT_ (p:PN):Prop:=K1_ (evs p)=p.kids/\Kf_ (evs p)<=40
theorem Qd3_ (l:LI) (i:Nat) (x:Int) (h:l[i]? =some x):l.getD i 0=x:=by rw[List.getD_eq_getElem?_getD,h];rfl
theorem xG_ {l:LI} (h:1<=l.length):l.take (l.length - 1)++[l.getD (l.length - 1) 0]=l:=by
 obtain⟨x,hx⟩:∃x,l[l.length - 1]? =some x:=⟨_,gE oo⟩;rw[Qd3_ _ _ _ hx];have:=List.take_add_one (l:=l) (i:=l.length - 1);rw[show l.length - 1+1=l.length from oo,List.take_length,hx]at this;exact this.symm
theorem Qcc_ {l:LI} (h:1<=l.length):l.getD 0 0::l.drop 1=l:=by
 match l,h with
 |x::r,_=>rfl
theorem Qc2_ {p:PN} (hk:1<=p.kind/\p.kind<=22) (f:QW_ p.kind<=(p.kids.length:Int)) (d:(p.kids.length:Int)<=QT_ p.kind):XT_ p:=by
 obtain⟨kind,text,l,z⟩:=p;dsimp only at hk f d;have n:kind=1\/kind=2\/kind=3\/kind=4\/kind=5\/kind=6\/kind=7\/kind=8\/kind=9\/kind=10\/kind=11\/kind=12\/kind=13\/kind=14\/kind=15\/kind=16\/kind=17\/kind=18\/kind=19\/kind=20\/kind=21\/kind=22:=oo;have g:∀{m:Nat},(l.length:Int)<=0->l=[]:=fun h=>List.eq_nil_of_length_eq_zero oo
 have j:=fun mk=>Vi_ mk l
 have k:=fun mk=>Vi_ mk (l.drop 1)
 have i:=fun mk=>Vi_ mk (l.take (l.length - 1))
 have hT:(l.take (l.length - 1)).length<=l.length:=by rw[List.length_take];omega
 have hD:(l.drop 1).length<=l.length:=by rw[List.length_drop];omega
 rcases n with rfl|rfl|rfl|rfl|rfl|rfl|rfl|rfl|rfl|rfl|rfl|rfl|rfl|rfl|rfl|rfl|rfl|rfl|rfl|rfl|rfl|rfl
 ·have h:(l.length:Int)<=0:=d;rw[g (m:=0) h];exact⟨rfl,show 1<=40 by decide⟩
 ·have h:(l.length:Int)<=0:=d;rw[g (m:=0) h];exact⟨rfl,show 1<=40 by decide⟩
 ·have h:(l.length:Int)<=0:=d;rw[g (m:=0) h];exact⟨rfl,show 1<=40 by decide⟩
 ·have h:(l.length:Int)<=12:=d;have e:evs ⟨4,text,l,z⟩=mkE ⟨#[91]⟩::(KG_ ⟨#[44]⟩ l++[mkE ⟨#[93]⟩]):=rfl;unfold XT_;rw[e];simp only[K1_,mkE,Kf_,Zh_,KO_,ZX_,List.append_nil];have:=j ⟨#[44]⟩;exact⟨trivial,oo⟩
 ·have h:(l.length:Int)<=12:=d;have h1:(1:Int)<=(l.length:Int):=f;have e:evs ⟨5,text,l,z⟩=Ev.kid (l.getD 0 0)::mkE ⟨#[40]⟩::(KG_ ⟨#[44]⟩ (l.drop 1)++[mkE ⟨#[41]⟩]):=rfl;unfold XT_;rw[e];simp only[K1_,mkE,Kf_,Zh_,KO_,ZX_,List.append_nil];have:=k ⟨#[44]⟩;exact⟨Qcc_ oo,oo⟩
 ·have h:(l.length:Int)<=1:=d;have h1:(1:Int)<=(l.length:Int):=f
  match l,(show l.length=1 from oo)with
  |[a],_=>exact⟨rfl,show 2<=40 by decide⟩
 ·have h:(l.length:Int)<=12:=d;have e:evs ⟨7,text,l,z⟩=KG_ text l:=rfl;unfold XT_;rw[e,ZX_];have:=j text;exact⟨rfl,oo⟩
 ·have h:(l.length:Int)<=3:=d;have h1:(3:Int)<=(l.length:Int):=f
  match l,(show l.length=3 from oo)with
  |[a,b,c],_=>exact⟨rfl,show 2<=40 by decide⟩
 ·have h:(l.length:Int)<=12:=d;have h1:(1:Int)<=(l.length:Int):=f;have e:evs ⟨9,text,l,z⟩=mkE ⟨#[40]⟩::(KG_ ⟨#[44]⟩ (l.take (l.length - 1))++[mkE ⟨#[41]⟩,mkE ⟨#[61,62]⟩,Ev.kid (l.getD (l.length - 1) 0)]):=rfl;unfold XT_;rw[e];simp only[K1_,mkE,Kf_,Zh_,KO_,ZX_];have:=i ⟨#[44]⟩;exact⟨xG_ oo,oo⟩
 ·have h:(l.length:Int)<=12:=d;have e:evs ⟨10,text,l,z⟩=KG_ ⟨#[46,46]⟩ l:=rfl;unfold XT_;rw[e,ZX_];have:=j ⟨#[46,46]⟩;exact⟨rfl,oo⟩
 ·have h:(l.length:Int)<=1:=d;have h1:(1:Int)<=(l.length:Int):=f
  match l,(show l.length=1 from oo)with
  |[a],_=>exact⟨rfl,show 2<=40 by decide⟩
 ·have h:(l.length:Int)<=1:=d;by_cases h0:l.length=0
  ·have:l=[]:=List.eq_nil_of_length_eq_zero h0;subst this;exact⟨rfl,show 3<=40 by decide⟩
  ·match l,(show l.length=1 from oo)with
   |[a],_=>exact⟨rfl,show 4<=40 by decide⟩
 ·have h:(l.length:Int)<=1:=d;have h1:(1:Int)<=(l.length:Int):=f
  match l,(show l.length=1 from oo)with
  |[a],_=>exact⟨rfl,show 3<=40 by decide⟩
 ·have e:evs ⟨14,text,l,z⟩=Xz_ l++[mkE ⟨#[59]⟩]:=rfl;unfold XT_;rw[e];simp only[K1_,mkE,Kf_,Zh_,KO_,XM_,Xe_,List.append_nil];exact⟨trivial,oo⟩
 ·have e:evs ⟨15,text,l,z⟩=Ev.sg 1 ⟨#[114,101,116,117,114,110]⟩::(Xz_ l++[mkE ⟨#[59]⟩]):=rfl;unfold XT_;rw[e];simp only[K1_,mkE,Kf_,Zh_,KO_,XM_,Xe_,List.append_nil];exact⟨trivial,oo⟩
 ·have h:(l.length:Int)<=3:=d;have h1:(2:Int)<=(l.length:Int):=f;by_cases n:l.length=2
  ·match l,n with
   |[a,b],_=>exact⟨rfl,show 3<=40 by decide⟩
  ·match l,(show l.length=3 from oo)with
   |[a,b,c],_=>exact⟨rfl,show 4<=40 by decide⟩
 ·have h:(l.length:Int)<=2:=d;have h1:(2:Int)<=(l.length:Int):=f
  match l,(show l.length=2 from oo)with
  |[a,b],_=>exact⟨rfl,show 3<=40 by decide⟩
 ·have e:evs ⟨18,text,l,z⟩=mkE ⟨#[123]⟩::(Xz_ l++[mkE ⟨#[125]⟩]):=rfl;unfold XT_;rw[e];simp only[K1_,mkE,Kf_,Zh_,KO_,XM_,Xe_,List.append_nil];exact⟨trivial,oo⟩
 ·have h:(l.length:Int)<=0:=d;rw[g (m:=0) h];exact⟨rfl,show 1<=40 by decide⟩
 ·have h:(l.length:Int)<=12:=d;have h1:(1:Int)<=(l.length:Int):=f;have e:evs ⟨20,text,l,z⟩=Ev.sg 1 text::mkE ⟨#[40]⟩::(KG_ ⟨#[44]⟩ (l.take (l.length - 1))++[mkE ⟨#[41]⟩,Ev.kid (l.getD (l.length - 1) 0)]):=rfl;unfold XT_;rw[e];simp only[K1_,mkE,Kf_,Zh_,KO_,ZX_];have:=i ⟨#[44]⟩;exact⟨xG_ oo,oo⟩
 ·have e:evs ⟨21,text,l,z⟩=Ev.sg 1 ⟨#[99,108,97,115,115]⟩::Ev.sg 1 text::mkE ⟨#[123]⟩::(Xz_ l++[mkE ⟨#[125]⟩]):=rfl;unfold XT_;rw[e];simp only[K1_,mkE,Kf_,Zh_,KO_,XM_,Xe_,List.append_nil];exact⟨trivial,oo⟩
 ·have e:evs ⟨22,text,l,z⟩=Xz_ l:=rfl;unfold XT_;rw[e,XM_,Xe_];exact⟨rfl,oo⟩
theorem Qdk_ {ps:List PN} (hs:∀(k:Nat) (p:PN),ps[k]? =some p->XT_ p):∀f k s,(Qn_ ps f k s).1.length<=s.1.length+40 * xM_ ps f k:=by
 intro f
 induction f with
 |zero=>intro k s;simp[Qn_,xM_]
 |succ f c=>
  intro k s;unfold xM_
  cases b:ps[k]? with
  |none=>unfold Qn_;rw[b];simp
  |some p=>
   rw[GU_ b];obtain⟨h1,h2⟩:=hs k p b;have a:=QeA_ (f:=Qn_ ps f) (g:=fun k=>40 * xM_ ps f k) c (evs p) (s.1,s.2.set k (s.1.length:Int));rw[h1]at a;have h4:Ye_ (fun k=>40 * xM_ ps f k) p.kids=40 * Ye_ (xM_ ps f) p.kids:=by
    unfold Ye_;generalize p.kids=l
    induction l with
    |nil=>rfl
    |cons x r c=>simp only[List.map_cons,List.sum_cons,c];omega
   rw[h4]at a;simp only at a |-
   omega
theorem GV_ {ps:List PN} (h:KL_ ps=true):∃m,ps.length=m+1/\m+1<=300/\(∀j,j < m+1->K3_ ps j=true)/\∀st,(Qn_ ps (m+1) m ([],st)).1.length<=1000000:=by
 unfold KL_ at h;simp only[Bool.and_eq_true]at h;obtain⟨h1,h2,h3,f⟩:=h;have n:=of_decide_eq_true h1;obtain⟨m,g⟩:∃m,ps.length=m+1:=⟨ps.length - 1,oo⟩;have hd:¬Zc_ ps (ps.length - 1)=0:=by
  intro e;rw[e]at h3;cases h3
 have hg:=UZ_ hd;have d:∀j,j < m+1->K3_ ps j=true:=fun j hj=>qd_ hd j oo
 have hu:Xm_ ps (m+1) m:=by
  intro i hi;unfold Jg_ at f;rw[List.all_eq_true,g]at f;have:=f i (List.mem_range.2 oo);simpa using this
 have l:∀(k:Nat) (p:PN),ps[k]? =some p->XT_ p:=fun k p hp=>by
  have hk:=(List.getElem?_eq_some_iff.1 hp).1;obtain⟨a,b,c⟩:=Vu_ (d k oo) hp;exact Qc2_ a b c
 refine⟨m,g,oo,d,fun st=>?_⟩;have hl:=Qdk_ l (m+1) m ([],st);have hv:xM_ ps (m+1) m=m+1:=Qdy_ hg g hu;rw[hv]at hl;simp only[List.length_nil]at hl;omega
def VJ_ (ps:List PN):TS:=Qn_ ps ps.length (ps.length - 1) ([],List.replicate ps.length 0)
def Q3_ (ps:List PN) (k:Int):Int:=if KL_ ps=true/\0<=k/\k < (ps.length:Int)then (VJ_ ps).2.getD k.toNat 0 else -1
theorem TL.init (ty:TypeId) (a:ty≠68) (A:OA) (n c:Nat) (w:World):TL ty (w.heap.size+1) w.heap.size A n c w ([],List.replicate n 0) ((w.alloc (.cells (madeCells #[.int .i64 0] n) 3)).alloc (.cells #[.slice A n c,.slice none 0 0,.slice (some ⟨w.heap.size,0,none⟩) n n] ty)):=by
 have hb:=Blk.new (w.alloc (.cells (madeCells #[.int .i64 0] n) 3)) ty #[.slice A n c,.slice none 0 0,.slice (some ⟨w.heap.size,0,none⟩) n n];rw[World.size_alloc]at hb;exact⟨none,0,hb,Mine.mk_nil _ _ _ _,(Own.zeros n).alloc _,by simp,oo,oo,Nat.le_refl _,fun g hg=>by simp at hg,grow_⟩
theorem kI_ (A:OA) (n c:Nat) (ps:List PN) (w:World) (hn:n<=1048576) (f:Nps w A n ps) (g:KL_ ps=true):
  Calls prog 54 #[.slice A n c] w fun e w'=>e=.returned (.pointer (some ⟨w.heap.size+1,0,none⟩))/\TL 76 (w.heap.size+1) w.heap.size A n c w (VJ_ ps) w':=by
 obtain⟨m,hm,o,b,d⟩:=GV_ g;have hl:=f.len;obtain rfl:n=m+1:=oo;have h:=hid (kG_ (w.heap.size+1) w.heap.size A (m+1) c w ps f b (m+1) m ([],List.replicate (m+1) 0) _ oo oo (TL.init 76 (by decide) A (m+1) c w) (d _));have i:VJ_ ps=Qn_ ps (m+1) m ([],List.replicate (m+1) 0):=by unfold VJ_;rw[hm,Nat.add_sub_cancel]
 rw[i];obtain⟨i0,hi,j,k,l⟩:=info_parts QB_;have a:=fun W=>QK_ (P:=prog) 34 3 i0 _ underlying34 hi j .i64 .i64 (m+1) (m+1) (Nat.le_refl _) (by rw[l];omega) oo W
 rw[k,Nat.mul_one]at a;simp only[Value.cells]at a;have e9:((m+1:Nat):Int)=(m:Int)+1:=oo;have e8:(m:Int)+1 - 1=(m:Int):=oo;rw[e9]at a;generalize Qn_ ps (m+1) m ([],List.replicate (m+1) 0)=fin at h |-
 clear hi j k l b d i f;go_enter func54,ntmps54;go_wp2_with fail
 refine h.o.mono ?_;rintro e w2 ⟨rfl,ht,hk⟩;clear a;go_wp2;go_ret;exact⟨rfl,ht⟩
theorem GR_ (A:OA) (n c:Nat) (ps:List PN) (k:Int) (w:World) (hn:n<=1048576) (g:Nps w A n ps) (hb:Hid (PNs ps)):
  Calls prog 48 #[.slice A n c,.int .i64 k] w fun e w'=>e=.returned (.int .i64 (Q3_ ps k))/\Below w.heap.size w w':=by
 have K:=g.len;have s:=hid (fun(v:Bool) (h:KL_ ps=v)=>show Calls prog 47 #[.slice A n c] w fun e w'=>e=.returned (.bool v)/\Below w.heap.size w w' by rw[<-h];exact Zu_ A n c ps w hn g hb)
 cases a:KL_ ps with
 |false=>
  have j:Q3_ ps k= -1:=by unfold Q3_;rw[if_neg (by rw[a];simp)]
  rw[j];have b:=hid (s.o _ a);clear s a j;go_enter func48,ntmps48;go_wp2_with fail
  refine(b.o).mono ?_;rintro e w2 ⟨rfl,r⟩;go_wp2;go_ret;exact⟨rfl,r⟩
 |true=>
  have b:=hid (s.o _ a);by_cases y:0<=k/\k < (n:Int)
  ·obtain⟨q,rfl⟩:=Int.eq_ofNat_of_zero_le y.1;have M:q < n:=oo;have j:Q3_ ps (q:Int)=(VJ_ ps).2.getD q 0:=(by unfold Q3_;rw[if_pos ⟨a,y.1,by rw[K];exact y.2⟩,Int.toNat_natCast]);rw[j];obtain⟨m,hm,L,i,d⟩:=GV_ a;obtain rfl:n=m+1:=oo;have E:=hid (fun W=>Kh_ (show inB (q:Int) 0 (m:Int)=true from decide_eq_true oo) W);have o:=hid (fun(W:World) (hW:Below w.heap.size w W)=>jJ_ (W.heap.size+1) W.heap.size A (m+1) c W ps (g.next hW) i (m+1) m ([],List.replicate (m+1) 0) _ oo oo (TL.init 97 (by decide) A (m+1) c W) (d _));have z:VJ_ ps=Qn_ ps (m+1) m ([],List.replicate (m+1) 0):=(by unfold VJ_;rw[hm,Nat.add_sub_cancel]);rw[z];obtain⟨i0,hi,B,C,D⟩:=info_parts QB_;have f:=fun W=>QK_ (P:=prog) 34 3 i0 _ underlying34 hi B .i64 .i64 (m+1) (m+1) (Nat.le_refl _) (by rw[D];omega) oo W
   rw[C,Nat.mul_one]at f;simp only[Value.cells]at f;have e9:((m+1:Nat):Int)=(m:Int)+1:=oo;have e8:(m:Int)+1 - 1=(m:Int):=oo;rw[e9]at f;generalize Qn_ ps (m+1) m ([],List.replicate (m+1) 0)=fin at o |-
   have gq:(q:Int) < (m:Int)+1:=oo;clear hi B C D i d z j s a g y hm K hb hn;go_enter func48,ntmps48;go_wp2_with fail
   refine(b.o).mono ?_;rintro e w2 ⟨rfl,r⟩;go_wp2_with fail
   refine(E.o _).mono ?_;rintro e w1 ⟨rfl,rfl⟩;go_wp2_with fail
   refine(o.o w2 r).mono ?_;rintro e w3 ⟨rfl,N,J⟩;clear f;have I:=Qb_ r N.below;have l:=N.len;obtain⟨AS,cS,p,_,ho,_⟩:=N;obtain⟨x,O⟩:∃x,fin.2[q]? =some x:=⟨_,gE oo⟩;have t:fin.2.getD q 0=x:=(by rw[List.getD_eq_getElem?_getD,O];rfl);have F:=hid t;obtain⟨b6,Q,G,H,cq⟩:=Ql_ (ho.rd (size:=1) (n:=m+1) (by simp[Qa_,l])) M O;injection G with G;injection G with e61 e62;subst e61;subst e62;simp only[Nat.zero_add]at cq;have t2:=p.q2;have tz:=p.lt;clear o E b p ho l t O J;go_wp2;go_ret;exact⟨Vg_ F.o.symm,I⟩
  ·have E:=hid (fun W=>Kh_ (show inB k 0 ((n:Int) - 1)=false from decide_eq_false oo) W);have j:Q3_ ps k= -1:=(by unfold Q3_;rw[if_neg (by rw[K];exact fun h=>y h.2)]);rw[j];clear s a j;go_enter func48,ntmps48;go_wp2_with fail
   refine(b.o).mono ?_;rintro e w2 ⟨rfl,r⟩;go_wp2_with fail
   refine(E.o _).mono ?_;rintro e w1 ⟨rfl,rfl⟩;go_wp2;go_ret;exact⟨rfl,r⟩
theorem vA_ (l:List UInt8):∀a:List (List UInt8),(X4_ a l).length<=l.length:=by
 intro a
 induction a with
 |nil=>simp[X4_]
 |cons m a ih=>
  by_cases b:m.isPrefixOf l=true
  ·rw[Y9_ b];exact(List.isPrefixOf_iff_prefix.1 b).length_le
  ·rw[JR_ b];exact ih
theorem QeF_ (l:List UInt8) (q:Nat):(Ke_ l q).2.2.2<=l.length:=by
 unfold Ke_;split
 ·exact vJ_ l
 ·split
  ·exact Nat.zero_le _
  ·split
   ·split
    ·exact Nat.zero_le _
    ·exact KN_ _ _
   ·split
    ·split
     ·exact Nat.zero_le _
     ·exact KN_ _ _
    ·split
     ·exact QcO_ _
     ·exact vA_ _ _
def q7_ (w:World) (R:List SgP × Int × Bool) (e:Ending) (w':World):Prop:=
 ∃(A:OA) (c:Nat),e=.returned (.tuple #[.slice A R.1.length c,.int .i64 R.2.1,.bool R.2.2])/\Mine w' w.heap.size 68 4 A R.1.length c (R.1.flatMap Q1_)/\Below w.heap.size w w'
theorem VT_ (w:World) (a:Int) (b:BA) (c:Int) (d:Bool) (t:TypeId):∀j v,[Value.int .i64 a,.string b,.int .i64 c,.bool d][j]? =some v->(w.alloc (.cells #[.int .i64 a,.string b,.int .i64 c,.bool d] t)).cell? ((⟨w.heap.size,0,none⟩:Addr).add j)=some v:=by
 intro j v e;have f:=Blk.new w t #[.int .i64 a,.string b,.int .i64 c,.bool d]
 match j,e with
 |0,e=>obtain rfl:=Option.some.inj e;exact f.cell 0
 |1,e=>obtain rfl:=Option.some.inj e;exact f.cell 1
 |2,e=>obtain rfl:=Option.some.inj e;exact f.cell 2
 |3,e=>obtain rfl:=Option.some.inj e;exact f.cell 3
 |j+4,e=>simp at e
theorem VU_ (a:Int) (b:BA) (c:Int) (d:Bool):∀u∈[Value.int .i64 a,.string b,.int .i64 c,.bool d],u.oneCell'=true:=by
 intro u hu;simp at hu;rcases hu with rfl|rfl|rfl|rfl<;>rfl
theorem X7_ (acc:List SgP) (a:Int) (b:BA) (c:Int) (d:Bool):(acc++[(a,b,c,d)]).flatMap Q1_=acc.flatMap Q1_++[Value.int .i64 a,.string b,.int .i64 c,.bool d]:=by
 simp[Q1_]
theorem YN_ {w:World} {B:Nat} {e:TypeId} {s:Nat} {v:Value} {n:Nat} {xs:List Value} (h:w.ownsRow B e s v n xs) {g:Nat} (hg:v.ownBlock=some g):B<=g:=by
 rcases h.2 with⟨rfl,_⟩|⟨g',cap,a,rfl,b,_⟩
 ·simp[Value.ownBlock]at hg
 ·simp[Value.ownBlock]at hg;omega
theorem qs_:(prog.info? 68).map (fun i=>(i.zero,i.size,i.bytes))=some (some (.agg #[.int .i64 0,.string ⟨#[]⟩,.int .i64 0,.bool false]),4,40):=by kernel_rfl
theorem vc_ {c:UInt8} (h:c=32):((c.toNat:Int)==32)=true:=by rw[h];rfl
theorem vd_ {c:UInt8} (h:¬c=32):((c.toNat:Int)==32)=false:=by
 rw[beq_eq_false_iff_ne];intro e;apply h;apply UInt8.toNat_inj.1;show c.toNat=32;omega
theorem ji_ {c:UInt8} (h:c=10):((c.toNat:Int)==10)=true:=by rw[h];rfl
theorem Vj_ (s:BA) (w:World) (hs:s.size<=1048576):Calls prog 42 #[.string s] w (q7_ w (QY_ s)):=by
 by_cases h3:3000 < s.size
 ·rw[zM_ h3];have t:=QI_ w 68 4;go_enter func42,ntmps42;go_wp2;refine bodyPost_ret (by simp[results,Tryz.results42,go_sem,];try rfl) rfl ?_;exact⟨_,_,rfl,t,grow_⟩
 ·have y:Hid (KB_ s 0 0 [] (QY_ s)):=G7_ oo;have h4:s.size<=3000:=oo;generalize QY_ s=R at y |-
  obtain⟨i0,hi,p,H,Q⟩:=info_parts qs_;have S:=hid (And.intro hi (And.intro p (And.intro H Q)));clear hi p H Q;have t:Hid (Mine (w.alloc (.cells #[] 68)) w.heap.size 68 4 (some ⟨w.heap.size,0,none⟩) ([]:List SgP).length 0 (([]:List SgP).flatMap Q1_)):=QI_ w 68 4;have E:Below w.heap.size w (w.alloc (.cells #[] 68)):=grow_;go_enter func42,ntmps42;go_wp2;generalize w.alloc (.cells #[] 68)=w1 at t E |-
  go_loopw [5,6,7] (fun o i b wr=>∃(k br:Nat) (acc:List SgP) (A:OA) (c:Nat),k<=s.size/\br<=k/\acc.length<=k/\o=.slice A acc.length c/\i=.int .i64 k/\b=.int .i64 br/\Hid (KB_ s k br acc R)/\Hid (Mine wr w.heap.size 68 4 A acc.length c (acc.flatMap Q1_))/\Below w.heap.size w wr) (fun _ i _ _=>s.size - (intOf i).toNat)
  case atStart=>exact⟨0,0,[],_,_,oo,oo,by simp,rfl,rfl,rfl,y,t,E⟩
  case round=>
   clear y t E;obtain⟨k,br,acc,A,c,hk,ac,Y,rfl,rfl,rfl,v,B,D⟩:=hrel;obtain⟨m,T⟩:=ex_ acc.length;rw[T]at B Y;rw[T];have j:=hid T;clear T;by_cases l:k < s.size
   ·by_cases a:s[k]=32
    ·have K:Hid (KB_ s (k+1) br acc R):=J6_ v l a;have X:=vc_ a;clear a;go_wp2;go_roundw
     case rel=>exact⟨k+1,br,acc,A,c,oo,oo,by have:=j.o;omega,by rw[j.o],by go_num,rfl,K,by rw[j.o];exact B,D⟩
     case measure=>simp[intOf];omega
    ·have X:=vd_ a;by_cases d:s[k]=10
     ·have K:Hid (KB_ s (k+1) (br+1) acc R):=G8_ v l d;have V:=ji_ d;clear d a;go_wp2;go_roundw
      case rel=>exact⟨k+1,br+1,acc,A,c,oo,oo,by have:=j.o;omega,by rw[j.o],by go_num,by go_num,K,by rw[j.o];exact B,D⟩
      case measure=>simp[intOf];omega
     ·have V:=Qem_ d;have L:=hid (fun hz=>WG_ v l a d hz);have M:Hid (∀(kd:Int) (x:BA) (q:Int) (z:Nat),Ke_ (s.data.toList.drop k) k=(kd,x,q,z)->0 < z->KB_ s (k+z) 0 (acc++[(kd,x,q,decide (1 < br))]) R):=(show ∀(kd:Int) (x:BA) (q:Int) (z:Nat),_->_->_ from fun kd x q z h h0=>G9_ v l a d h h0);have I:=hid (fun W=>xC_ s k W l hs);have r:=QeF_ (s.data.toList.drop k) k;rw[Zd_]at r;revert L M I r;generalize Ke_ (s.data.toList.drop k) k=Z;obtain⟨kd,x,q,z⟩:=Z;intro L M I r;simp only at r;by_cases p:z=0
      ·subst p;obtain rfl:=L.o rfl;clear L M B v j a d;go_wp2_with fail
       refine(I.o _).mono ?_;rintro e w2 ⟨rfl,J⟩;have f:=Qb_ D J;have O:=f.size;clear I J D;have t:=QI_ (w2.alloc (.cells #[.int .i64 kd,.string x,.int .i64 q,.bool false] 68)) 68 4;simp only[World.size_alloc]at t;go_wp2;refine bodyPost_ret (by simp[results,Tryz.results42,go_sem,];try rfl) rfl ?_;exact⟨_,_,rfl,Mine.more (B':=w.heap.size) t oo,grow_⟩
      ·have K:Hid (KB_ s (k+z) 0 (acc++[(kd,x,q,decide (1 < br))]) R):=M.o kd x q z rfl oo;clear L M v a d;go_wp2_with fail
       refine(I.o _).mono ?_;rintro e w2 ⟨rfl,J⟩;have f:=Qb_ D J;have O:=f.size;have C:=hid (B.o.next J);have H:¬(z:Int)=0:=oo;clear I J D B;have P:decide (1 < br)=decide ((1:Int) < br):=by
        by_cases h:1 < br
        ·rw[decide_eq_true h,decide_eq_true oo]
        ·rw[decide_eq_false h,decide_eq_false oo]
       rw[P]at K;have F:=VT_ (w2.alloc (.cells #[.int .i64 kd,.string x,.int .i64 q,.bool (decide ((1:Int) < br))] 68)) kd x q (decide ((1:Int) < br)) 68;rw[World.size_alloc]at F;have HC:=hid F;clear F P;have ad:0 < z:=oo;go_wp2_with (at_builtin;(refine wpList_append_own _ rfl (.tmp 46) (.tmp 48) _ rfl w.heap.size 68 i0 (.agg #[.int .i64 0,.string ⟨#[]⟩,.int .i64 0,.bool false]) 4 40 underlying57 S.o.1 S.o.2.1 S.o.2.2.1 S.o.2.2.2 rfl (by decide) _ _ _ rfl (Mine.alloc (Mine.alloc C.o _) _) ⟨w2.heap.size+1,0,none⟩ 1 1 [.int .i64 kd,.string x,.int .i64 q,.bool (decide ((1:Int) < br))] rfl rfl HC.o (VU_ _ _ _ _) (by unfold maxLen;omega) oo (by have:=f.size;simp only[World.size_alloc];omega) ?_);intro v' w3 n N G)
       have aa:Below w.heap.size w w3:=Below.grown (show Below w.heap.size w ((w2.alloc (.cells #[.int .i64 kd,.string x,.int .i64 q,.bool (decide ((1:Int) < br))] 68)).alloc (.cells #[.int .i64 kd,.string x,.int .i64 q,.bool (decide ((1:Int) < br))] 68))from grow_) N (by have:=f.size;simp only[World.size_alloc];omega) (fun g hg=>YN_ C.o hg);obtain⟨A3,c3,rfl,m3⟩:=Mine.of n;rw[<-X7_]at m3;have U:=hid m3;clear n m3 N G HC C f;go_wp2;go_roundw
       case rel=>exact⟨k+z,0,acc++[(kd,x,q,decide ((1:Int) < br))],A3,c3,oo,oo,by rw[lA,j.o];simp;omega,by rw[lA,j.o];rfl,by go_num,rfl,K,by rw[lA,j.o];exact U,aa⟩
       case measure=>simp[intOf];omega
   ·obtain rfl:=WH_ v oo;go_wp2;refine bodyPost_ret (by simp[results,Tryz.results42,go_sem,];try rfl) rfl ?_;exact⟨A,c,by rw[j.o],by rw[j.o];exact B.o,D⟩
theorem XL_ (s:BA) (w:World) (hs:s.size<=1048576):Calls prog 83 #[.string s] w (q7_ w (QY_ s)):=by
 by_cases h3:3000 < s.size
 ·rw[zM_ h3];go_enter func83,ntmps83;go_wp2;refine bodyPost_ret (by simp[results,Tryz.results83,go_sem,];try rfl) rfl ?_;exact⟨_,_,rfl,Mine.mk_nil _ _ _ _,grow_⟩
 ·have v:Hid (KB_ s 0 0 [] (QY_ s)):=G7_ oo;have h4:s.size<=3000:=oo;generalize QY_ s=R at v |-
  obtain⟨i0,hi,r,t,J⟩:=info_parts qs_;have K:=hid (And.intro hi (And.intro r (And.intro t J)));clear hi r t J;have M0:Hid (Mine w w.heap.size 68 4 none ([]:List SgP).length 0 (([]:List SgP).flatMap Q1_)):=Mine.mk_nil _ _ _ _;have G:Below w.heap.size w w:=br;go_enter func83,ntmps83;go_wp2;go_loopw [5,6,7] (fun o b i wr=>∃(k br:Nat) (acc:List SgP) (A:OA) (c:Nat),k<=s.size/\br<=k/\acc.length<=k/\o=.slice A acc.length c/\i=.int .i64 k/\b=.int .i64 br/\Hid (KB_ s k br acc R)/\Hid (Mine wr w.heap.size 68 4 A acc.length c (acc.flatMap Q1_))/\Below w.heap.size w wr) (fun _ _ i _=>s.size - (intOf i).toNat)
  case atStart=>exact⟨0,0,[],_,_,oo,oo,by simp,rfl,rfl,rfl,v,M0,G⟩
  case round=>
   clear v M0 G;obtain⟨k,br,acc,A,c,hk,aa,U,rfl,rfl,rfl,C,D,F⟩:=hrel;obtain⟨m,L⟩:=ex_ acc.length;rw[L]at D U;rw[L];have j:=hid L;clear L;by_cases p:k < s.size
   ·by_cases d:s[k]=32
    ·have E:Hid (KB_ s (k+1) br acc R):=J6_ C p d;have S:=vc_ d;clear d;go_wp2;go_roundw
     case rel=>exact⟨k+1,br,acc,A,c,oo,oo,by have:=j.o;omega,by rw[j.o],by go_num,rfl,E,by rw[j.o];exact D,F⟩
     case measure=>simp[intOf];omega
    ·have S:=vd_ d;by_cases f:s[k]=10
     ·have E:Hid (KB_ s (k+1) (br+1) acc R):=G8_ C p f;have Q:=ji_ f;clear f d;go_wp2;go_roundw
      case rel=>exact⟨k+1,br+1,acc,A,c,oo,oo,by have:=j.o;omega,by rw[j.o],by go_num,by go_num,E,by rw[j.o];exact D,F⟩
      case measure=>simp[intOf];omega
     ·have Q:=Qem_ f;have M:=hid (fun hz=>WG_ C p d f hz);have N:Hid (∀(kd:Int) (x:BA) (q:Int) (z:Nat),Ke_ (s.data.toList.drop k) k=(kd,x,q,z)->0 < z->KB_ s (k+z) 0 (acc++[(kd,x,q,decide (1 < br))]) R):=(show ∀(kd:Int) (x:BA) (q:Int) (z:Nat),_->_->_ from fun kd x q z h h0=>G9_ C p d f h h0);have P:=hid (fun W=>kH_ (s.extract k s.size) W (by simp;omega) (by unfold maxLen;simp;omega));rw[GW_]at P;have gk:(k:Int)<=s.size:=oo;clear C d f;go_wp2_with fail
      refine(P.o _).mono ?_;rintro e w2 ⟨kd,x,z,ok,rfl,a,X,T⟩;rw[Zd_]at X;have y:=Qb_ F T;have Z:=y.size;have n:=hid (D.o.next T);unfold SgOk at a;clear P T F D
      cases ok with
      |false=>
       rw[if_neg (by decide)]at a;obtain rfl:=M.o (a k);clear M N a n j;go_wp2;refine bodyPost_ret (by simp[results,Tryz.results83,go_sem,];try rfl) rfl ?_;exact⟨_,_,rfl,Mine.mk_nil _ _ _ _,y⟩
      |true=>
       rw[if_pos rfl]at a;obtain⟨r,t,a⟩:=a;have E:Hid (KB_ s (k+z) 0 (acc++[(kd,x,(k:Int),decide (1 < br))]) R):=N.o kd x k z (a k) r;have I:decide (1 < br)=decide ((1:Int) < br):=by
        by_cases h:1 < br
        ·rw[decide_eq_true h,decide_eq_true oo]
        ·rw[decide_eq_false h,decide_eq_false oo]
       rw[I]at E;have HC:=hid (VT_ w2 kd x k (decide ((1:Int) < br)) 68);clear M N a t I;go_wp2_with (at_builtin;(refine wpList_append_own _ rfl (.tmp 44) (.tmp 51) _ rfl w.heap.size 68 i0 (.agg #[.int .i64 0,.string ⟨#[]⟩,.int .i64 0,.bool false]) 4 40 underlying57 K.o.1 K.o.2.1 K.o.2.2.1 K.o.2.2.2 rfl (by decide) _ _ _ rfl (Mine.alloc n.o _) ⟨w2.heap.size,0,none⟩ 1 1 [.int .i64 kd,.string x,.int .i64 k,.bool (decide ((1:Int) < br))] rfl rfl HC.o (VU_ _ _ _ _) (by unfold maxLen;omega) oo (by simp only[World.size_alloc];omega) ?_);intro v' w3 l H B)
       have V:Below w.heap.size w w3:=Below.grown (show Below w.heap.size w (w2.alloc (.cells #[.int .i64 kd,.string x,.int .i64 k,.bool (decide ((1:Int) < br))] 68))from grow_) H (by simp only[World.size_alloc];omega) (fun g hg=>YN_ n.o hg);obtain⟨A3,c3,rfl,Y⟩:=Mine.of l;rw[<-X7_]at Y;have O:=hid Y;clear l Y H B HC n y;go_wp2;go_roundw
       case rel=>exact⟨k+z,0,acc++[(kd,x,(k:Int),decide ((1:Int) < br))],A3,c3,oo,oo,by rw[lA,j.o];simp;omega,by rw[lA,j.o];rfl,by go_num,rfl,E,by rw[lA,j.o];exact O,V⟩
       case measure=>simp[intOf];omega
   ·obtain rfl:=WH_ C oo;go_wp2;refine bodyPost_ret (by simp[results,Tryz.results83,go_sem,];try rfl) rfl ?_;exact⟨A,c,by rw[j.o],by rw[j.o];exact D.o,F⟩
theorem jC_ {w:World} {A:OA} {n k:Nat} {l:List SgP} {d:SgP} (h:Rd w 4 A n (l.flatMap Q1_)) (hk:k < n) (hd:l[k]? =some d):
  ∃b off,A=some ⟨b,off,none⟩/\b < w.heap.size/\w.cell? ⟨b,off+k * 4,none⟩=some (.int .i64 d.1)/\w.cell? ⟨b,off+k * 4+1,none⟩=some (.string d.2.1)/\w.cell? ⟨b,off+k * 4+2,none⟩=some (.int .i64 d.2.2.1)/\w.cell? ⟨b,off+k * 4+3,none⟩=some (.bool d.2.2.2):=by
 obtain⟨b,off,rfl,hb,hc⟩:=h.at_ oo;have g:=fun(j:Nat) (v:Value) (hj:(Q1_ d)[j]? =some v)=>hc (k * 4+j) v (ZJ_ Q1_ WC_ hd hj)
 refine⟨b,off,rfl,hb,?_,?_,?_,?_⟩
 ·exact g 0 _ rfl
 ·exact g 1 _ rfl
 ·exact g 2 _ rfl
 ·exact g 3 _ rfl
theorem zP_ {a b:SgP} (h:(a.1==4)=false):Yp_ a b=false:=by unfold Yp_;rw[h];rfl
theorem zR_ {a b:SgP} (h:(a.2.1.toList==[44])=false):Yp_ a b=false:=by unfold Yp_;rw[h,Bool.and_false];rfl
theorem WK_ {a b:SgP} (h:(b.1==4)=false):Yp_ a b=false:=by unfold Yp_;rw[h,Bool.and_false];rfl
theorem zQ_ {a b:SgP} (h1:(a.1==4)=true) (h2:(a.2.1.toList==[44])=true) (h3:(b.1==4)=true):Yp_ a b=((b.2.1.toList==[41])||(b.2.1.toList==[93])):=by unfold Yp_;rw[h1,h2,h3];rfl
def SgsM (w:World) (l:List SgP) (e:Ending) (w':World):Prop:=
 ∃(A:OA) (c:Nat),e=.returned (.slice A l.length c)/\Mine w' w.heap.size 68 4 A l.length c (l.flatMap Q1_)/\Below w.heap.size w w'
theorem xy_ (A0:OA) (n c0:Nat) (l:List SgP) (w:World) (hn:n<=3000) (hl:l.length=n) (hr:Rd w 4 A0 n (l.flatMap Q1_)):Calls prog 81 #[.slice A0 n c0] w (SgsM w (Y7_ l)):=by
 obtain⟨V,hi,aa,ab,ac⟩:=info_parts qs_;have q:=hid (And.intro hi (And.intro aa (And.intro ab ac)));clear hi aa ab ac;have hL:Y7_ l=KR_ l n:=by unfold Y7_;rw[hl]
 rw[hL];clear hL;have HR:=hid hr;have HL:=hid hl;clear hr hl;have M0:Hid (Mine (w.alloc (.cells #[] 68)) w.heap.size 68 4 (some ⟨w.heap.size,0,none⟩) (KR_ l 0).length 0 ((KR_ l 0).flatMap Q1_)):=QI_ w 68 4;have S:Below w.heap.size w (w.alloc (.cells #[] 68)):=grow_;go_enter func81,ntmps81;go_wp2;generalize w.alloc (.cells #[] 68)=w1 at M0 S |-
 go_loopw [3,4] (fun o i wr=>∃(k:Nat) (A:OA) (c:Nat),k<=n/\i=.int .i64 k/\o=.slice A (KR_ l k).length c/\Hid (Mine wr w.heap.size 68 4 A (KR_ l k).length c ((KR_ l k).flatMap Q1_))/\Below w.heap.size w wr) (fun _ i _=>n - (intOf i).toNat)
 case atStart=>exact⟨0,_,_,Nat.zero_le _,rfl,rfl,M0,S⟩
 case round=>
  clear M0 S;obtain⟨k,A,c,hk,rfl,rfl,z,N⟩:=hrel;have R:=Gw_ l k;have D:=hid (HR.o.below N);have ap:=N.size;by_cases al:k < n
  ·obtain⟨a,Y⟩:∃a,l[k]? =some a:=⟨_,gE (by have:=HL.o;omega)⟩;obtain⟨b,off,rfl,an,ag,c1,c2,c3⟩:=jC_ D.o al Y;have M:=hid (fun(h:Za_ l k=true)=>zz_ Y h);have H:=hid (fun(h:Za_ l k=false)=>k4_ Y h);have Q:=hid (fun(b:SgP) (h:l[k+1]? =some b)=>WJ_ Y h);have E:=hid (fun(h:l[k+1]? =none)=>Ua_ (k:=k) h);obtain⟨acc,O⟩:=ex_ (KR_ l k);rw[O]at z R M H;rw[O];obtain⟨m,hm⟩:=ex_ acc.length;rw[hm]at z R;rw[hm];have G:=hid hm;clear O hm;obtain⟨v,y,C,B⟩:=a;simp only at ag c1 c2 c3;have P:=hid (fun(b:SgP)=>show((v==4)=false->Yp_ (v,y,C,B) b=false)/\((y.toList==[44])=false->Yp_ (v,y,C,B) b=false)/\((b.1==4)=false->Yp_ (v,y,C,B) b=false)from⟨fun h=>zP_ h,fun h=>zR_ h,fun h=>WK_ h⟩);clear Y;by_cases ak:k+1 < n
   ·obtain⟨X,T⟩:∃X,l[k+1]? =some X:=⟨_,gE (by have:=HL.o;omega)⟩;obtain⟨b',ao,e',U,d0,d1,d2,d3⟩:=jC_ D.o ak T;injection e' with e';injection e' with e1 e2;subst e1;subst e2;have J:=hid (Q.o X T);have I:=hid (P.o X);clear T U;obtain⟨kb,tb,pb,bb⟩:=X;simp only at d0 d1 d2 d3 I;have Z:(k:Int)+1 < n:=oo
    cases h1:(v==4)with
    |false=>
     have p:=J.o.trans (I.o.1 h1);clear J I;have f:=hid (H.o (p));have F:=hid (VT_ wr v y C B 68);clear M H Q E P D;go_wp2_with (at_builtin;(refine wpList_append_own _ rfl (.tmp 60) (.tmp 65) _ rfl w.heap.size 68 V (.agg #[.int .i64 0,.string ⟨#[]⟩,.int .i64 0,.bool false]) 4 40 underlying57 q.o.1 q.o.2.1 q.o.2.2.1 q.o.2.2.2 rfl (by decide) _ _ _ rfl (Mine.alloc z.o _) ⟨wr.heap.size,0,none⟩ 1 1 [.int .i64 v,.string y,.int .i64 C,.bool B] rfl rfl F.o (VU_ _ _ _ _) (by unfold maxLen;omega) oo (by simp only[World.size_alloc];omega) ?_);intro v' w3 d j e)
     have t:Below w.heap.size w w3:=Below.grown (show Below w.heap.size w (wr.alloc (.cells #[.int .i64 v,.string y,.int .i64 C,.bool B] 68))from grow_) j (by simp only[World.size_alloc];omega) (fun g L=>YN_ z.o L);obtain⟨K,s,rfl,x⟩:=Mine.of d;rw[<-X7_]at x;have r:=hid x;clear d x j e F z N;go_wp2;go_roundw
     case rel=>exact⟨k+1,K,s,oo,by go_num,by rw[f.o,lA,G.o];rfl,(by rw[f.o,lA,G.o];exact r),t⟩
     case measure=>simp[intOf];omega
    |true=>
     cases h2:(y.toList==[44])with
     |false=>
      have p:=J.o.trans (I.o.2.1 h2);clear J I;have f:=hid (H.o (p));have F:=hid (VT_ wr v y C B 68);clear M H Q E P D;go_wp2_with (at_builtin;(refine wpList_append_own _ rfl (.tmp 60) (.tmp 65) _ rfl w.heap.size 68 V (.agg #[.int .i64 0,.string ⟨#[]⟩,.int .i64 0,.bool false]) 4 40 underlying57 q.o.1 q.o.2.1 q.o.2.2.1 q.o.2.2.2 rfl (by decide) _ _ _ rfl (Mine.alloc z.o _) ⟨wr.heap.size,0,none⟩ 1 1 [.int .i64 v,.string y,.int .i64 C,.bool B] rfl rfl F.o (VU_ _ _ _ _) (by unfold maxLen;omega) oo (by simp only[World.size_alloc];omega) ?_);intro v' w3 d j e)
      have t:Below w.heap.size w w3:=Below.grown (show Below w.heap.size w (wr.alloc (.cells #[.int .i64 v,.string y,.int .i64 C,.bool B] 68))from grow_) j (by simp only[World.size_alloc];omega) (fun g L=>YN_ z.o L);obtain⟨K,s,rfl,x⟩:=Mine.of d;rw[<-X7_]at x;have r:=hid x;clear d x j e F z N;go_wp2;go_roundw
      case rel=>exact⟨k+1,K,s,oo,by go_num,by rw[f.o,lA,G.o];rfl,(by rw[f.o,lA,G.o];exact r),t⟩
      case measure=>simp[intOf];omega
     |true=>
      cases h3:(kb==4)with
      |false=>
       have p:=J.o.trans (I.o.2.2 h3);clear J I;have f:=hid (H.o (p));have F:=hid (VT_ wr v y C B 68);clear M H Q E P D;go_wp2_with (at_builtin;(refine wpList_append_own _ rfl (.tmp 60) (.tmp 65) _ rfl w.heap.size 68 V (.agg #[.int .i64 0,.string ⟨#[]⟩,.int .i64 0,.bool false]) 4 40 underlying57 q.o.1 q.o.2.1 q.o.2.2.1 q.o.2.2.2 rfl (by decide) _ _ _ rfl (Mine.alloc z.o _) ⟨wr.heap.size,0,none⟩ 1 1 [.int .i64 v,.string y,.int .i64 C,.bool B] rfl rfl F.o (VU_ _ _ _ _) (by unfold maxLen;omega) oo (by simp only[World.size_alloc];omega) ?_);intro v' w3 d j e)
       have t:Below w.heap.size w w3:=Below.grown (show Below w.heap.size w (wr.alloc (.cells #[.int .i64 v,.string y,.int .i64 C,.bool B] 68))from grow_) j (by simp only[World.size_alloc];omega) (fun g L=>YN_ z.o L);obtain⟨K,s,rfl,x⟩:=Mine.of d;rw[<-X7_]at x;have r:=hid x;clear d x j e F z N;go_wp2;go_roundw
       case rel=>exact⟨k+1,K,s,oo,by go_num,by rw[f.o,lA,G.o];rfl,(by rw[f.o,lA,G.o];exact r),t⟩
       case measure=>simp[intOf];omega
      |true=>
       have p:=J.o.trans (zQ_ h1 h2 h3);clear J I;simp only at p
       cases h4:(tb.toList==[41])with
       |true=>
        rw[h4,Bool.true_or]at p;have f:=hid (M.o (p));clear M H Q E P D;go_wp2;go_roundw
        case rel=>exact⟨k+1,A,c,oo,by go_num,by rw[f.o,G.o],(by rw[f.o,G.o];exact z),N⟩
        case measure=>simp[intOf];omega
       |false=>
        cases h5:(tb.toList==[93])with
        |true=>
         rw[h4,h5]at p;have f:=hid (M.o (p));clear M H Q E P D;go_wp2;go_roundw
         case rel=>exact⟨k+1,A,c,oo,by go_num,by rw[f.o,G.o],(by rw[f.o,G.o];exact z),N⟩
         case measure=>simp[intOf];omega
        |false=>
         rw[h4,h5]at p;have f:=hid (H.o (p));have F:=hid (VT_ wr v y C B 68);clear M H Q E P D;go_wp2_with (at_builtin;(refine wpList_append_own _ rfl (.tmp 60) (.tmp 65) _ rfl w.heap.size 68 V (.agg #[.int .i64 0,.string ⟨#[]⟩,.int .i64 0,.bool false]) 4 40 underlying57 q.o.1 q.o.2.1 q.o.2.2.1 q.o.2.2.2 rfl (by decide) _ _ _ rfl (Mine.alloc z.o _) ⟨wr.heap.size,0,none⟩ 1 1 [.int .i64 v,.string y,.int .i64 C,.bool B] rfl rfl F.o (VU_ _ _ _ _) (by unfold maxLen;omega) oo (by simp only[World.size_alloc];omega) ?_);intro v' w3 d j e)
         have t:Below w.heap.size w w3:=Below.grown (show Below w.heap.size w (wr.alloc (.cells #[.int .i64 v,.string y,.int .i64 C,.bool B] 68))from grow_) j (by simp only[World.size_alloc];omega) (fun g L=>YN_ z.o L);obtain⟨K,s,rfl,x⟩:=Mine.of d;rw[<-X7_]at x;have r:=hid x;clear d x j e F z N;go_wp2;go_roundw
         case rel=>exact⟨k+1,K,s,oo,by go_num,by rw[f.o,lA,G.o];rfl,(by rw[f.o,lA,G.o];exact r),t⟩
         case measure=>simp[intOf];omega
   ·have p:Za_ l k=false:=E.o (List.getElem?_eq_none (by have:=HL.o;omega));have Z:¬(k:Int)+1 < n:=oo
    cases h1:(v==4)with
    |false=>
     have f:=hid (H.o (p));have F:=hid (VT_ wr v y C B 68);clear M H Q E P D;go_wp2_with (at_builtin;(refine wpList_append_own _ rfl (.tmp 60) (.tmp 65) _ rfl w.heap.size 68 V (.agg #[.int .i64 0,.string ⟨#[]⟩,.int .i64 0,.bool false]) 4 40 underlying57 q.o.1 q.o.2.1 q.o.2.2.1 q.o.2.2.2 rfl (by decide) _ _ _ rfl (Mine.alloc z.o _) ⟨wr.heap.size,0,none⟩ 1 1 [.int .i64 v,.string y,.int .i64 C,.bool B] rfl rfl F.o (VU_ _ _ _ _) (by unfold maxLen;omega) oo (by simp only[World.size_alloc];omega) ?_);intro v' w3 d j e)
     have t:Below w.heap.size w w3:=Below.grown (show Below w.heap.size w (wr.alloc (.cells #[.int .i64 v,.string y,.int .i64 C,.bool B] 68))from grow_) j (by simp only[World.size_alloc];omega) (fun g L=>YN_ z.o L);obtain⟨K,s,rfl,x⟩:=Mine.of d;rw[<-X7_]at x;have r:=hid x;clear d x j e F z N;go_wp2;go_roundw
     case rel=>exact⟨k+1,K,s,oo,by go_num,by rw[f.o,lA,G.o];rfl,(by rw[f.o,lA,G.o];exact r),t⟩
     case measure=>simp[intOf];omega
    |true=>
     cases h2:(y.toList==[44])with
     |false=>
      have f:=hid (H.o (p));have F:=hid (VT_ wr v y C B 68);clear M H Q E P D;go_wp2_with (at_builtin;(refine wpList_append_own _ rfl (.tmp 60) (.tmp 65) _ rfl w.heap.size 68 V (.agg #[.int .i64 0,.string ⟨#[]⟩,.int .i64 0,.bool false]) 4 40 underlying57 q.o.1 q.o.2.1 q.o.2.2.1 q.o.2.2.2 rfl (by decide) _ _ _ rfl (Mine.alloc z.o _) ⟨wr.heap.size,0,none⟩ 1 1 [.int .i64 v,.string y,.int .i64 C,.bool B] rfl rfl F.o (VU_ _ _ _ _) (by unfold maxLen;omega) oo (by simp only[World.size_alloc];omega) ?_);intro v' w3 d j e)
      have t:Below w.heap.size w w3:=Below.grown (show Below w.heap.size w (wr.alloc (.cells #[.int .i64 v,.string y,.int .i64 C,.bool B] 68))from grow_) j (by simp only[World.size_alloc];omega) (fun g L=>YN_ z.o L);obtain⟨K,s,rfl,x⟩:=Mine.of d;rw[<-X7_]at x;have r:=hid x;clear d x j e F z N;go_wp2;go_roundw
      case rel=>exact⟨k+1,K,s,oo,by go_num,by rw[f.o,lA,G.o];rfl,(by rw[f.o,lA,G.o];exact r),t⟩
      case measure=>simp[intOf];omega
     |true=>
      have f:=hid (H.o (p));have F:=hid (VT_ wr v y C B 68);clear M H Q E P D;go_wp2_with (at_builtin;(refine wpList_append_own _ rfl (.tmp 60) (.tmp 65) _ rfl w.heap.size 68 V (.agg #[.int .i64 0,.string ⟨#[]⟩,.int .i64 0,.bool false]) 4 40 underlying57 q.o.1 q.o.2.1 q.o.2.2.1 q.o.2.2.2 rfl (by decide) _ _ _ rfl (Mine.alloc z.o _) ⟨wr.heap.size,0,none⟩ 1 1 [.int .i64 v,.string y,.int .i64 C,.bool B] rfl rfl F.o (VU_ _ _ _ _) (by unfold maxLen;omega) oo (by simp only[World.size_alloc];omega) ?_);intro v' w3 d j e)
      have t:Below w.heap.size w w3:=Below.grown (show Below w.heap.size w (wr.alloc (.cells #[.int .i64 v,.string y,.int .i64 C,.bool B] 68))from grow_) j (by simp only[World.size_alloc];omega) (fun g L=>YN_ z.o L);obtain⟨K,s,rfl,x⟩:=Mine.of d;rw[<-X7_]at x;have r:=hid x;clear d x j e F z N;go_wp2;go_roundw
      case rel=>exact⟨k+1,K,s,oo,by go_num,by rw[f.o,lA,G.o];rfl,(by rw[f.o,lA,G.o];exact r),t⟩
      case measure=>simp[intOf];omega
  ·obtain rfl:k=n:=oo;go_wp2;go_ret;exact⟨A,c,rfl,z.o,N⟩
theorem x7_ (A0:OA) (n c0 k:Nat) (l:List SgP) (w:World) (hn:n<=3000) (hk:k < n) (hl:l.length=n) (q:Rd w 4 A0 n (l.flatMap Q1_)):
  Calls prog 118 #[.slice A0 n c0,.int .i64 k] w fun e w'=>e=.returned (.bool (Za_ l k))/\Below w.heap.size w w':=by
 obtain⟨a,p⟩:∃a,l[k]? =some a:=⟨_,gE oo⟩;obtain⟨b,off,rfl,B,r,c1,c2,c3⟩:=jC_ q hk p;have x:=fun(b:SgP) (h:l[k+1]? =some b)=>WJ_ p h
 have f:=fun(h:l[k+1]? =none)=>Ua_ (k:=k) h
 obtain⟨z,A,pa,ba⟩:=a;simp only at r c1 c2 c3;by_cases y:k+1 < n
 ·obtain⟨m,g⟩:∃m,l[k+1]? =some m:=⟨_,gE oo⟩;obtain⟨b',D,s,i,d0,d1,d2,d3⟩:=jC_ q y g;injection s with s;injection s with e1 e2;subst e1;subst e2;have d:=x m g;clear g i x f p q hl;obtain⟨kb,tb,pb,bb⟩:=m;simp only at d0 d1 d2 d3 d;have C:(k:Int)+1 < n:=oo;have j:¬(n:Int)<=(k:Int)+1:=oo
  cases h1:(z==4)with
  |false=>
   have c:=d.trans (zP_ h1);have t:(z != 4)=true:=(by rw[bne,h1];rfl);rw[c];clear c d;go_enter func118,ntmps118;go_wp2;go_ret;exact⟨rfl,grow_⟩
  |true=>
   have t:(z != 4)=false:=by rw[bne,h1];rfl
   cases o:(A.toList==[44])with
   |false=>
    have c:=d.trans (zR_ o);have v:(A.toList != [44])=true:=(by rw[bne,o];rfl);rw[c];clear c d;go_enter func118,ntmps118;go_wp2;go_ret;exact⟨rfl,grow_⟩
   |true=>
    have v:(A.toList != [44])=false:=by rw[bne,o];rfl
    cases h3:(kb==4)with
    |false=>
     have c:=d.trans (WK_ h3);rw[c];clear c d;go_enter func118,ntmps118;go_wp2;go_ret;exact⟨rfl,grow_⟩
    |true=>
     have c:=d.trans (zQ_ h1 o h3);simp only at c
     cases h4:(tb.toList==[41])with
     |true=>
      rw[h4,Bool.true_or]at c;rw[c];clear c d;go_enter func118,ntmps118;go_wp2;go_ret;exact⟨rfl,grow_⟩
     |false=>
      rw[h4,Bool.false_or]at c;rw[c];clear c d;go_enter func118,ntmps118;go_wp2;go_ret;exact⟨rfl,grow_⟩
 ·have c:Za_ l k=false:=f (List.getElem?_eq_none oo);have j:(n:Int)<=(k:Int)+1:=oo;rw[c];clear c x f q p hl;go_enter func118,ntmps118;go_wp2;go_ret;exact⟨rfl,grow_⟩
theorem kB_ (A0:OA) (n c0:Nat) (l:List SgP) (w:World) (hn:n<=3000) (hl:l.length=n) (hr:Rd w 4 A0 n (l.flatMap Q1_)):Calls prog 84 #[.slice A0 n c0] w (SgsM w (Y7_ l)):=by
 obtain⟨i0,hi,L,M,N⟩:=info_parts qs_;have R:=hid (And.intro hi (And.intro L (And.intro M N)));clear hi L M N;have hL:Y7_ l=KR_ l n:=by unfold Y7_;rw[hl]
 rw[hL];clear hL;have HR:=hid hr;have HL:=hid hl;clear hr hl;have M0:Hid (Mine w w.heap.size 68 4 none (KR_ l 0).length 0 ((KR_ l 0).flatMap Q1_)):=Mine.mk_nil _ _ _ _;have H:Below w.heap.size w w:=grow_;go_enter func84,ntmps84;go_wp2;go_loopw [3,8] (fun o i wr=>∃(k:Nat) (A:OA) (c:Nat),k<=n/\i=.int .i64 k/\o=.slice A (KR_ l k).length c/\Hid (Mine wr w.heap.size 68 4 A (KR_ l k).length c ((KR_ l k).flatMap Q1_))/\Below w.heap.size w wr) (fun _ i _=>n - (intOf i).toNat)
 case atStart=>exact⟨0,_,_,Nat.zero_le _,rfl,rfl,M0,H⟩
 case round=>
  clear M0 H;obtain⟨k,A,c,hk,rfl,rfl,B,G⟩:=hrel;have z:=Gw_ l k;by_cases J:k < n
  ·obtain⟨a,X⟩:∃a,l[k]? =some a:=⟨_,gE (by have:=HL.o;omega)⟩;have s:=hid (HR.o.below G);obtain⟨b,off,rfl,y,C,c1,c2,c3⟩:=jC_ s.o J X;have U:=hid (fun(h:Za_ l k=true)=>zz_ X h);have S:=hid (fun(h:Za_ l k=false)=>k4_ X h);have T:=hid (fun(v:Bool) (h:Za_ l k=v) (W:World) (hW:Rd W 4 (some ⟨b,off,none⟩) n (l.flatMap Q1_))=>show Calls prog 118 #[.slice (some ⟨b,off,none⟩) n c0,.int .i64 k] W fun e w'=>e=.returned (.bool v)/\Below W.heap.size W w' by rw[<-h];exact x7_ _ n c0 k l W hn J HL.o hW);obtain⟨acc,p⟩:=ex_ (KR_ l k);rw[p]at B z U S;rw[p];obtain⟨m,Y⟩:=ex_ acc.length;rw[Y]at B z;rw[Y];have V:=hid Y;clear p Y;obtain⟨O,Q,P,F⟩:=a;simp only at C c1 c2 c3;clear X;have d:=hid (Rd.alloc s.o (.cells #[.int .i64 O,.string Q,.int .i64 P,.bool F] 68));have K:=Blk.new wr 68 #[.int .i64 O,.string Q,.int .i64 P,.bool F];have Z:=hid K;have ai:=G.size;clear K
   cases hs:Za_ l k with
   |true=>
    have r:=hid (U.o hs);have j:=hid (T.o _ hs);clear U S T hs;go_wp2_with fail
    refine(j.o _ d.o).mono ?_;rintro e w2 ⟨rfl,x⟩;have f:=hid (B.o.next1 x);have t:=QA_ G x;clear j d s B C c1 c2 c3 y Z x;go_wp2;go_roundw
    case rel=>exact⟨k+1,A,c,oo,by go_num,by rw[r.o,V.o],(by rw[r.o,V.o];exact f),t⟩
    case measure=>simp[intOf];omega
   |false=>
    have r:=hid (S.o hs);have j:=hid (T.o _ hs);clear U S T hs;go_wp2_with fail
    refine(j.o _ d.o).mono ?_;rintro e w2 ⟨rfl,x⟩;have f:=hid (B.o.next1 x);have t:=QA_ G x;have aj:=t.size;have E:=Z.o.next x;have k0:=E.q0;have k1:=E.q1;have k2:=E.q2;have k3:=E.q3;have kz:=E.lt;have HC:=hid (VT_ w2 O Q P F 68);clear j d s B C c1 c2 c3 y Z x E;go_wp2_with (at_builtin;(refine wpList_append_own _ rfl (.tmp 17) (.tmp 19) _ rfl w.heap.size 68 i0 (.agg #[.int .i64 0,.string ⟨#[]⟩,.int .i64 0,.bool false]) 4 40 underlying57 R.o.1 R.o.2.1 R.o.2.2.1 R.o.2.2.2 rfl (by decide) _ _ _ rfl (Mine.alloc f.o _) ⟨w2.heap.size,0,none⟩ 1 1 [.int .i64 O,.string Q,.int .i64 P,.bool F] rfl rfl HC.o (VU_ _ _ _ _) (by unfold maxLen;omega) oo (by simp only[World.size_alloc];omega) ?_);intro v' w3 q I D)
    have af:Below w.heap.size w w3:=Below.grown (show Below w.heap.size w (w2.alloc (.cells #[.int .i64 O,.string Q,.int .i64 P,.bool F] 68))from grow_) I (by simp only[World.size_alloc];omega) (fun g hg=>YN_ f.o hg);obtain⟨A3,ae,rfl,m3⟩:=Mine.of q;rw[<-X7_]at m3;have aa:=hid m3;clear q m3 I D HC f t k0 k1 k2 k3 kz;go_wp2;go_roundw
    case rel=>exact⟨k+1,A3,ae,oo,by go_num,by rw[r.o,lA,V.o];rfl,(by rw[r.o,lA,V.o];exact aa),af⟩
    case measure=>simp[intOf];omega
  ·obtain rfl:k=n:=oo;go_wp2;go_ret;exact⟨A,c,rfl,B.o,G⟩
def WV_ (l:List SgP) (k:Nat):LI:=(l.take k).map (fun d=>d.2.2.1)
theorem Uu_ {l:List SgP} {k:Nat} (h:k<=l.length):(WV_ l k).length=k:=by unfold WV_;simp;omega
theorem kc_ {l:List SgP} {k:Nat} {d:SgP} (h:l[k]? =some d):WV_ l (k+1)=WV_ l k++[d.2.2.1]:=by
 unfold WV_;rw[List.take_add_one,h];simp
theorem va_ (l:List SgP):WV_ l l.length=l.map (fun d=>d.2.2.1):=by unfold WV_;rw[List.take_length]
theorem JK_ (l:LI) (x:Int):Qa_ (l++[x])=Qa_ l++[.int .i64 x]:=by simp[Qa_]
theorem QbP_ (w:World) (u:Value) (t:TypeId):∀j v,[u][j]? =some v->(w.alloc (.cells #[u] t)).cell? ((⟨w.heap.size,0,none⟩:Addr).add j)=some v:=by
 intro j v a
 match j,a with
 |0,a=>
  obtain rfl:=Option.some.inj a;exact(Blk.new w t #[u]).cell 0
 |j+1,a=>simp at a
theorem JO_ (l:List SgP) (h:l.length<=3000):(Y7_ l).length<=3000:=by
 have:=Gw_ l l.length;unfold Y7_;omega
def VE_ (w:World) (l:LI) (e:Ending) (w':World):Prop:=
 ∃(A:OA) (c:Nat),e=.returned (.slice A l.length c)/\Mine w' w.heap.size 3 1 A l.length c (Qa_ l)/\Below w.heap.size w w'
theorem za_ (s:BA) (w:World) (hs:s.size<=1048576):Calls prog 53 #[.string s] w (VE_ w (K9_ s)):=by
 obtain⟨i0,hi,I,J,K⟩:=info_parts QB_;have O:=hid (And.intro hi (And.intro I (And.intro J K)));clear hi I J K;have U:=hid (fun W=>XL_ s W hs);have h:=Z0_ s;have z:Hid (K9_ s=if (QY_ s).2.2=true then (Y7_ (QY_ s).1).map (fun d=>d.2.2.1)else []):=rfl;generalize K9_ s=P at z |-
 generalize QY_ s=R at U h z;obtain⟨sg,q,ok⟩:=R;simp only at h;go_enter func53,ntmps53;go_wp2_with fail
 refine(U.o _).mono ?_;rintro e w1 ⟨A,c,rfl,hm,p⟩;have l:=hid hm;clear U hm
 cases ok with
 |false=>
  obtain rfl:P=[]:=by rw[z.o];rfl
  clear z l;go_wp2;go_ret;exact⟨_,_,rfl,Mine.mk_nil _ _ _ _,p⟩
 |true=>
  have r:Hid (P=WV_ (Y7_ sg) (Y7_ sg).length):=by show _=_;rw[z.o,va_];rfl
  have V:=hid (fun W A n c B hr=>kB_ A n c sg W oo B hr);have G:=JO_ sg h;clear z;generalize Y7_ sg=L at r V G;go_wp2_with fail
  refine(V.o _ _ _ _ rfl l.o.rd).mono ?_;rintro e w2 ⟨A2,c2,rfl,v,h2⟩;have D:=Qb_ p h2;obtain⟨n,B⟩:=ex_ L.length;rw[B]at v G r;rw[B];have Q:=hid B;have f:=hid (v.more (B':=w.heap.size) p.size);clear V l v h2 p B;have M0:Hid (Mine w2 w.heap.size 3 1 none (WV_ L 0).length 0 (Qa_ (WV_ L 0))):=Mine.mk_nil _ _ _ _;go_wp2;go_loopw [6,20] (fun o i wr=>∃(k:Nat) (A:OA) (c:Nat),k<=n/\i=.int .i64 k/\o=.slice A (WV_ L k).length c/\Hid (Mine wr w.heap.size 3 1 A (WV_ L k).length c (Qa_ (WV_ L k)))/\Hid (Mine wr w.heap.size 68 4 A2 n c2 (L.flatMap Q1_))/\Below w.heap.size w wr) (fun _ i _=>n - (intOf i).toNat)
  case atStart=>exact⟨0,_,_,Nat.zero_le _,rfl,rfl,M0,f,D⟩
  case round=>
   clear M0 f D;obtain⟨k,A,c,hk,rfl,rfl,l,f,p⟩:=hrel;have m:(WV_ L k).length=k:=Uu_ (by rw[Q.o];exact hk);rw[m]at l;rw[m];by_cases ab:k < n
   ·obtain⟨a,Y⟩:∃a,L[k]? =some a:=⟨_,gE (by have:=Q.o;omega)⟩;obtain⟨b,off,rfl,E,c0,c1,C,c3⟩:=jC_ f.o.rd ab Y;have H:=hid (kc_ Y);have N:=hid (QbP_ (wr.alloc (.cells #[.int .i64 a.1,.string a.2.1,.int .i64 a.2.2.1,.bool a.2.2.2] 68)) (.int .i64 a.2.2.1) 3);rw[World.size_alloc]at N;obtain⟨ka,ta,M,ba⟩:=a;simp only at c0 c1 C c3 H N;have ad:=p.size;clear Y;go_wp2_with (at_builtin;(refine wpList_append_own _ rfl (.tmp 24) (.tmp 27) _ rfl w.heap.size 3 i0 (.int .i64 0) 1 8 underlying34 O.o.1 O.o.2.1 O.o.2.2.1 O.o.2.2.2 rfl (by decide) _ _ _ rfl (Mine.alloc (Mine.alloc l.o _) _) ⟨wr.heap.size+1,0,none⟩ 1 1 [.int .i64 M] rfl rfl N.o (fun x hx=>by simp at hx;subst hx;rfl) (by unfold maxLen;omega) oo (by simp only[World.size_alloc];omega) ?_);intro v' w3 j t y)
    have Z:Below w.heap.size w w3:=Below.grown (show Below w.heap.size w ((wr.alloc (.cells #[.int .i64 ka,.string ta,.int .i64 M,.bool ba] 68)).alloc (.cells #[.int .i64 M] 3))from grow_) t (by simp only[World.size_alloc];omega) (fun g hg=>YN_ l.o hg);have T:=hid (Mine.grown (Mine.alloc (Mine.alloc f.o (.cells #[.int .i64 ka,.string ta,.int .i64 M,.bool ba] 68)) (.cells #[.int .i64 M] 3)) t (fun g hg=>.inr (Mine.apart f.o l.o (by decide) ((Qw_ A k c).symm.trans hg))));obtain⟨A3,X,rfl,m3⟩:=Mine.of j;rw[<-JK_,<-H.o]at m3;have S:=hid m3;have F:(WV_ L (k+1)).length=k+1:=Uu_ (by rw[Q.o];omega);clear j m3 t y N l f p c0 c1 C c3 E;go_wp2;go_roundw
    case rel=>exact⟨k+1,A3,X,oo,by go_num,by rw[F],(by rw[F];exact S),T,Z⟩
    case measure=>simp[intOf];omega
   ·obtain rfl:k=n:=oo;go_wp2;go_ret;rw[r.o];exact⟨A,c,by rw[m];rfl,by rw[m];exact l.o,p⟩
theorem zj_ (s:BA) (w:World) (hs:s.size<=1048576):Calls prog 49 #[.string s] w (VE_ w (K9_ s)):=by
 obtain⟨i0,hi,I,m,J⟩:=info_parts QB_;have K:=hid (And.intro hi (And.intro I (And.intro m J)));clear hi I m J;have S:=hid (fun W=>Vj_ s W hs);have f:=Z0_ s;have z:Hid (K9_ s=WV_ (Y7_ (QY_ s).1) (Y7_ (QY_ s).1).length):=by show _=_;rw[GH_,va_]
 generalize K9_ s=P at z |-
 generalize QY_ s=R at S f z;obtain⟨sg,q,ok⟩:=R;simp only at f z;have T:=hid (fun W A n c v hr=>xy_ A n c sg W oo v hr);have G:=JO_ sg f;generalize Y7_ sg=L at z T G;obtain⟨n,v⟩:=ex_ L.length;have ad:n<=3000:=oo;rw[v]at z;have N:=hid v;clear G;have M0:Hid (Mine (w.alloc (.cells #[] 3)) w.heap.size 3 1 (some ⟨w.heap.size,0,none⟩) 0 0 (Qa_ (WV_ L 0))):=QI_ w 3 1;go_enter func49,ntmps49;go_wp2_with fail
 refine(S.o _).mono ?_;rintro e w1 ⟨A,c,rfl,hm,h1⟩;have p:=Z7_ h1;have j:=hid hm;have HO:=hid (M0.o.next h1);have m:w.heap.size+1<=w1.heap.size:=by have:=h1.size;simpa using this
 clear S hm h1 M0;go_wp2_with fail
 refine(T.o _ _ _ _ rfl j.o.rd).mono ?_;rintro e w2 ⟨A2,c2,rfl,t,V⟩;have D:=Qb_ p V;have B:=hid (HO.o.next V);rw[v]at t;rw[v];have d:=hid (t.more (B':=w.heap.size) p.size);clear T j t V p v HO m;go_wp2;go_loopw [3,7] (fun o i wr=>∃(k:Nat) (A:OA) (c:Nat),k<=n/\i=.int .i64 k/\o=.slice A (WV_ L k).length c/\Hid (Mine wr w.heap.size 3 1 A (WV_ L k).length c (Qa_ (WV_ L k)))/\Hid (Mine wr w.heap.size 68 4 A2 n c2 (L.flatMap Q1_))/\Below w.heap.size w wr) (fun _ i _=>n - (intOf i).toNat)
 case atStart=>exact⟨0,_,_,Nat.zero_le _,rfl,rfl,B,d,D⟩
 case round=>
  clear B d D;obtain⟨k,A,c,hk,rfl,rfl,j,d,p⟩:=hrel;have l:(WV_ L k).length=k:=Uu_ (by rw[N.o];exact hk);rw[l]at j;rw[l];by_cases aa:k < n
  ·obtain⟨a,X⟩:∃a,L[k]? =some a:=⟨_,gE (by have:=N.o;omega)⟩;obtain⟨b,off,rfl,E,c0,c1,C,c3⟩:=jC_ d.o.rd aa X;have H:=hid (kc_ X);have M:=hid (QbP_ wr (.int .i64 a.2.2.1) 3);obtain⟨ka,ta,pa,ba⟩:=a;simp only at c0 c1 C c3 H M;have ae:=p.size;clear X;go_wp2_with (at_builtin;(refine wpList_append_own _ rfl (.tmp 23) (.tmp 29) _ rfl w.heap.size 3 i0 (.int .i64 0) 1 8 underlying34 K.o.1 K.o.2.1 K.o.2.2.1 K.o.2.2.2 rfl (by decide) _ _ _ rfl (Mine.alloc j.o _) ⟨wr.heap.size,0,none⟩ 1 1 [.int .i64 pa] rfl rfl M.o (fun x hx=>by simp at hx;subst hx;rfl) (by unfold maxLen;omega) oo (by simp only[World.size_alloc];omega) ?_);intro v' w3 h r y)
   have Y:Below w.heap.size w w3:=Below.grown (show Below w.heap.size w (wr.alloc (.cells #[.int .i64 pa] 3))from grow_) r (by simp only[World.size_alloc];omega) (fun g Z=>YN_ j.o Z);have Q:=hid (Mine.grown (Mine.alloc d.o (.cells #[.int .i64 pa] 3)) r (fun g Z=>.inr (Mine.apart d.o j.o (by decide) ((Qw_ A k c).symm.trans Z))));obtain⟨A3,U,rfl,m3⟩:=Mine.of h;rw[<-JK_,<-H.o]at m3;have O:=hid m3;have F:(WV_ L (k+1)).length=k+1:=Uu_ (by rw[N.o];omega);clear h m3 r y M j d p c0 c1 C c3 E;go_wp2;go_roundw
   case rel=>exact⟨k+1,A3,U,oo,by go_num,by rw[F],(by rw[F];exact O),Q,Y⟩
   case measure=>simp[intOf];omega
  ·obtain rfl:k=n:=oo;go_wp2;go_ret;rw[z.o];exact⟨A,c,by rw[l];rfl,by rw[l];exact j.o,p⟩
def QgD_ (w:World) (v:Int) (e:Ending) (w':World):Prop:=∃c:Int,e=.returned (.tuple #[.int .i64 v,.int .i64 c])/\w=w'
theorem UC_ {t:BA} {q:Int} (h:¬(0<=q/\q<=(t.size:Int))):Wc_ t q=0:=by unfold Wc_;rw[if_neg h]
theorem k6_ {t:BA} {q:Nat} (h:q<=t.size):Wc_ t (q:Int)=((t.data.toList.take q).count 10:Nat)+1:=by
 unfold Wc_;rw[if_pos oo,Int.toNat_natCast]
theorem vj_ (l:List UInt8) (q:Nat):(l.take q).count 10<=q:=Nat.le_trans List.count_le_length (by simp;omega)
theorem U4_ (t:BA) (q:Int) (w:World) (ht:t.size<=1048576):Calls prog 55 #[.string t,.int .i64 q] w (QgD_ w (Wc_ t q)):=by
 by_cases h0:q < 0
 ·rw[UC_ oo];go_enter func55,ntmps55;go_wp2;refine bodyPost_ret (by simp[results,Tryz.results55,go_sem,];try rfl) rfl ?_;exact⟨_,rfl,rfl⟩
 ·obtain⟨n,rfl⟩:=Int.eq_ofNat_of_zero_le (show 0<=q from oo);by_cases h1:n<=t.size
  ·rw[k6_ h1];have c:=hid (fun W=>Tryz.strings_Count_one (t.extract 0 n) 10 W);have HL:=hid (fun W=>Tryz.strings_LastIndexByte (t.extract 0 n) 10 (by simp;omega) W);have hc:Lib.countByte (t.extract 0 n).data.toList 10=(t.data.toList.take n).count 10:=(by rw[ZC_];rfl);rw[hc]at c;have d:=vj_ t.data.toList n;have b:=Lib.lastIndexByte_spec (t.extract 0 n) 10;have a: -1<=Lib.lastIndexByte (t.extract 0 n) 10/\Lib.lastIndexByte (t.extract 0 n) 10<=(n:Int):=by
    rcases b with⟨h,_⟩|⟨i,hi,h,_⟩
    ·omega
    ·simp at hi;omega
   clear hc b;generalize (t.data.toList.take n).count 10=K at c d |-
   generalize Lib.lastIndexByte (t.extract 0 n) 10=I at HL a;obtain⟨f,g⟩:=a;have g1:¬(t.size:Int) < n:=oo;have g2:(n:Int)<=t.size:=oo;go_enter func55,ntmps55;go_wp2_with (first|(go_at_call 86;refine(c.o _).mono ?_;rintro e w1 ⟨rfl,rfl⟩)|(go_at_call 87;refine(HL.o _).mono ?_;rintro e w1 ⟨rfl,rfl⟩))
   refine bodyPost_ret (by simp[results,Tryz.results55,go_sem,];try rfl) rfl ?_;exact⟨_,rfl,rfl⟩
  ·rw[UC_ oo];have g1:(t.size:Int) < n:=oo;go_enter func55,ntmps55;go_wp2;refine bodyPost_ret (by simp[results,Tryz.results55,go_sem,];try rfl) rfl ?_;exact⟨_,rfl,rfl⟩
theorem v6_ {t:BA} {k:Nat} (h:k < t.size):(t.data.toList.take (k+1)).count 10=(t.data.toList.take k).count 10+if t[k]=10 then 1 else 0:=by
 have hl:k < t.data.toList.length:=by rw[Qz_];exact h
 rw[List.take_succ_eq_append_getElem hl,List.count_append,List.count_cons];have:t.data.toList[k]=t[k]:=rfl;rw[this];simp
theorem WR_ (t:BA) (q:Int) (w:World) (ht:t.size<=1048576):Calls prog 51 #[.string t,.int .i64 q] w (QgD_ w (Wc_ t q)):=by
 by_cases h0:q < 0
 ·rw[UC_ oo];go_enter func51,ntmps51;go_wp2;refine bodyPost_ret (by simp[results,Tryz.results51,go_sem,];try rfl) rfl ?_;exact⟨_,rfl,rfl⟩
 ·obtain⟨n,rfl⟩:=Int.eq_ofNat_of_zero_le (show 0<=q from oo);by_cases h1:n<=t.size
  ·rw[k6_ h1];have g1:¬(t.size:Int) < n:=oo;obtain⟨K,f⟩:∃K:Nat->Nat,∀k,K k=(t.data.toList.take k).count 10:=⟨_,fun _=>rfl⟩;have HS:Hid (∀k,k < t.size->K (k+1)=K k+if t[k]! =10 then 1 else 0):=(show ∀k,k < t.size->K (k+1)=K k+if t[k]! =10 then 1 else 0 from fun k j=>by rw[f,f,v6_ j,getElem!_pos t k j]);have HL:=hid (fun k=>show K k<=k by rw[f];exact vj_ _ _);have h:K 0=0:=(by rw[f];rfl);rw[<-f n];clear f;go_enter func51,ntmps51;go_wp2
   go_loop [6,7,8] (fun a b i=>∃(k:Nat) (c:Nat),k<=n/\c<=k+1/\i=.int .i64 k/\a=.int .i64 ((K k:Int)+1)/\b=.int .i64 c) (fun _ _ i=>n - (intOf i).toNat)
   case atStart=>exact⟨0,1,oo,oo,rfl,by rw[h];rfl,rfl⟩
   case round=>
    obtain⟨k,c,j,hc,rfl,rfl,rfl⟩:=hrel;have m:=HL.o k;by_cases o:k < n
    ·have e:=HS.o k oo;have l:k < t.size:=oo;rw[getElem!_pos t k l]at e;by_cases d:t[k]=10
     ·have g:=ji_ d;rw[if_pos d]at e;clear d;go_wp2
      go_round
      case rel=>exact⟨k+1,1,oo,oo,by go_num,by rw[e];go_num,by go_num⟩
      case measure=>simp[intOf];omega
     ·have g:=Qem_ d;rw[if_neg d]at e;clear d;go_wp2
      go_round
      case rel=>exact⟨k+1,c+1,oo,oo,by go_num,by rw[e];go_num,by go_num⟩
      case measure=>simp[intOf];omega
    ·obtain rfl:k=n:=oo;go_wp2;refine bodyPost_ret (by simp[results,Tryz.results51,go_sem,];try rfl) rfl ?_;exact⟨_,rfl,rfl⟩
  ·rw[UC_ oo];have g1:(t.size:Int) < n:=oo;go_enter func51,ntmps51;go_wp2;refine bodyPost_ret (by simp[results,Tryz.results51,go_sem,];try rfl) rfl ?_;exact⟨_,rfl,rfl⟩
theorem vy_ {t:BA} {P:LI} (hP:K9_ t=P) {v:Int} (h:inB v 0 ((P.length:Int) - 1)=false):KS_ t v=0:=by
 subst hP;unfold KS_;rw[if_neg];intro h2;rw[show inB v 0 (((K9_ t).length:Int) - 1)=true from decide_eq_true oo]at h
 cases h
theorem k5_ {t:BA} {P:LI} (hP:K9_ t=P) {v:Nat} {x:Int} (h:P[v]? =some x):KS_ t (v:Int)=Wc_ t x:=by
 subst hP;have a:=(List.getElem?_eq_some_iff.1 h).1;unfold KS_;rw[if_pos oo,Int.toNat_natCast,List.getD_eq_getElem?_getD,h]
 rfl
theorem XZ_ (t:BA) (A:OA) (n c:Nat) (ps:List PN) (k:Int) (w:World) (ht:t.size<=1048576) (hn:n<=1048576) (i:Nps w A n ps) (hb:Hid (PNs ps)):
  Calls prog 20 #[.string t,.slice A n c,.int .i64 k] w fun e w'=>e=.returned (.int .i64 (KS_ t (Q3_ ps k)))/\Below w.heap.size w w':=by
 have y:=hid (fun W=>zj_ t W ht);have r:=hid (fun W (hW:Nps W A n ps)=>GR_ A n c ps k W hn hW hb);have HX:=hid (fun(x:Int) W=>WR_ t x W ht);have HN:=hid i;generalize Q3_ ps k=v at r |-
 have f:(K9_ t).length<=3000:=by
  rw[GH_,List.length_map];exact JO_ _ (Z0_ t)
 obtain⟨P,o⟩:=ex_ (K9_ t);rw[o]at y f;have l:=hid (fun h=>vy_ o (v:=v) h);have m:=hid (fun(q:Nat) (x:Int) (e:v=q) h=>show KS_ t v=Wc_ t x by rw[e];exact k5_ o (v:=q) (x:=x) h);generalize KS_ t v=Z at l m |-
 clear o i hb;go_enter func20,ntmps20;go_wp2_with fail
 refine(r.o _ HN.o).mono ?_;rintro e w1 ⟨rfl,h1⟩;go_wp2_with fail
 refine(y.o _).mono ?_;rintro e w2 ⟨A1,c1,rfl,g,h2⟩;have d:=Qb_ h1 h2;clear r HN h1 h2 y
 cases a:inB v 0 ((P.length:Int) - 1)with
 |false=>
  have s:=hid (fun W=>Kh_ a W);have p:=hid (l.o a);clear l m a;go_wp2_with fail
  refine(s.o _).mono ?_;rintro e w3 ⟨rfl,rfl⟩;go_wp2;go_ret;exact⟨Vg_ p.o.symm,d⟩
 |true=>
  have s:=hid (fun W=>Kh_ a W);have j:=of_decide_eq_true a;obtain⟨q,rfl⟩:=Int.eq_ofNat_of_zero_le j.1;have hq:q < P.length:=oo;obtain⟨x,z⟩:∃x,P[q]? =some x:=⟨_,List.getElem?_eq_getElem hq⟩;have p:=hid (m.o q x rfl z);obtain⟨b,off,rfl,B,c0⟩:=Ql_ g.rd hq z;have HY:=hid (HX.o x);clear l m a j HX z g;generalize Wc_ t x=L at HY p;go_wp2_with fail
  refine(s.o _).mono ?_;rintro e w3 ⟨rfl,rfl⟩;go_wp2_with fail
  refine(HY.o _).mono ?_;rintro e w3 ⟨c3,rfl,rfl⟩;go_wp2;go_ret;exact⟨Vg_ p.o.symm,d⟩
end Go.Proofs.YtgbikafalcbibaaGreatDoor

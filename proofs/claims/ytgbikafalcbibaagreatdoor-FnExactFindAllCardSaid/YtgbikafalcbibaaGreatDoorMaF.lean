/-
  Put together by program (shake.py):ShapeF,ShapeG,ShapeM,ShapeI,ShapeJ.
-/
import Derived.Test.YtgbikafalcbibaaGreatDoorMaE
import Derived.Deep.DeepCutAuto
set_option maxRecDepth 100000
set_option linter.all false
set_option maxHeartbeats 25600000
open Go.Lib (hid)
open Go.Proofs.Tryz
namespace Go.Proofs.YtgbikafalcbibaaGreatDoor
open Go.RowKit
theorem Js_ (w:World) (u:Value) (t:TypeId):∀j v,[u][j]? =some v->(w.alloc (.cells #[u] t)).cell? ((⟨w.heap.size,0,none⟩:Addr).add j)=some v:=by
 intro j v a
 match j,a with
 |0,a=>
  obtain rfl:=Option.some.inj a;exact(Blk.new w t #[u]).cell 0
 |j+1,a=>simp at a
theorem GG_ {w:World} {B:Nat} {e:TypeId} {s:Nat} {v:Value} {n:Nat} {xs:List Value} (h:w.ownsRow B e s v n xs) {g:Nat} (hg:v.ownBlock=some g):B<=g:=by
 rcases h.2 with⟨rfl,_⟩|⟨g',cap,a,rfl,b,_⟩
 ·simp[Value.ownBlock]at hg
 ·simp[Value.ownBlock]at hg;omega
def GC_ (k:Int):Bool:=Jf_ k||Q6_ k||k==21
def Ul_ (k:Nat) (kids:LI) (i:Nat) (x:Int):Bool:=inB x 0 ((k:Int) - 1)&&!(kids.take i).contains x
def JM_ (k:Nat) (kids:LI):Bool:=Q4_ (Ul_ k kids) kids
def Qg_ (ps:List PN) (kids:LI):LI:=kids.map (Qs_ ps)
def K3_ (ps:List PN) (k:Nat):Bool:=
 match ps[k]? with
 |some x=>decide (x.kids.length<=12)&&ZB_ x.kind x.text&&JM_ k x.kids&&(kfB x.kind (Qg_ ps x.kids)&&(Yd_ ps x.kind x.kids&&(GC_ x.kind||!x.blank)))
 |none=>false
def QaZ_ (ps:List PN) (k:Int):Bool:=if 0<=k/\k < (ps.length:Int)then K3_ ps k.toNat else false
def PNs (ps:List PN):Prop:=∀p∈ps,p.text.size<=1048576/\p.kids.length<=1048576
section
variable {ps:List PN} {k:Nat} {x:PN}
theorem zH_ (h:ps[k]? =some x) (h1:¬x.kids.length<=12):K3_ ps k=false:=by unfold K3_;rw[h];simp[h1]
theorem QaY_ (h:ps[k]? =some x) (h1:ZB_ x.kind x.text=false):K3_ ps k=false:=by unfold K3_;rw[h];simp[h1]
theorem zG_ (h:ps[k]? =some x) (h1:JM_ k x.kids=false):K3_ ps k=false:=by unfold K3_;rw[h];simp[h1]
theorem QaX_ (h:ps[k]? =some x) (h1:x.kids.length<=12) (h2:ZB_ x.kind x.text=true) (h3:JM_ k x.kids=true):K3_ ps k=(kfB x.kind (Qg_ ps x.kids)&&(Yd_ ps x.kind x.kids&&(GC_ x.kind||!x.blank))):=by unfold K3_;rw[h];simp[h1,h2,h3]
theorem QcJ_ {k:Int} (h:¬(0<=k/\k < (ps.length:Int))):QaZ_ ps k=false:=by unfold QaZ_;rw[if_neg h]
theorem vI_ (h:k < ps.length):QaZ_ ps (k:Int)=K3_ ps k:=by unfold QaZ_;rw[if_pos ⟨oo,oo⟩,Int.toNat_natCast]
end
theorem Qas_ {ps:List PN} {kids:LI} {t:Nat} {q:Nat} {y:PN} (hd:kids[t]? =some (q:Int)) (hy:ps[q]? =some y):Qg_ ps (kids.take (t+1))=Qg_ ps (kids.take t)++[y.kind]:=by
 unfold Qg_;rw[List.take_add_one,hd];simp[QR_ hy]
theorem W8_ (A:OA) (n c:Nat) (ps:List PN) (k:Int) (w:World) (hl:Hid (ps.length=n)) (hk:¬(0<=k/\k < (n:Int))):
  Calls prog 127 #[.slice A n c,.int .i64 k] w fun e w'=>e=.returned (.bool (QaZ_ ps k))/\Below w.heap.size w w':=by
 rw[QcJ_ (by rw[hl.o];exact hk)];have HN:=hid (fun W=>Y4_ (n:=n) (show inB k 0 ((n:Int) - 1)=false from decide_eq_false oo) A c W);go_enter func127,ntmps127;go_wp2_with (go_at_call 126;refine(HN.o _).mono ?_;rintro e w1 ⟨rfl,rfl⟩)
 go_ret;exact⟨rfl,grow_⟩
theorem Mine.cap {w:World} {B:Nat} {e:TypeId} {s:Nat} {A:OA} {n c:Nat} {xs:List Value} (h:Mine w B e s A n c xs):n<=c:=by
 rcases h.own with⟨_,rfl,rfl⟩|⟨g,_,_,h2,_⟩
 ·exact Nat.le_refl _
 ·exact h2
theorem vv_ {k:Nat} {kids:LI} {i:Nat} {x:Int} (h:inB x 0 ((k:Int) - 1)=false):Ul_ k kids i x=false:=by unfold Ul_;rw[h];rfl
theorem kP_ {k:Nat} {kids:LI} {i:Nat} {x:Int} (h:(kids.take i).contains x=true):Ul_ k kids i x=false:=by unfold Ul_;rw[h];simp
theorem kQ_ {k:Nat} {kids:LI} {i:Nat} {x:Int} (h:inB x 0 ((k:Int) - 1)=true) (h2:(kids.take i).contains x=false):Ul_ k kids i x=true:=by unfold Ul_;rw[h,h2];rfl
theorem QfG_ {l:LI} {j:Nat} {x:Int} (h:l[j]? =some x):l.getD j 0=x:=by rw[List.getD_eq_getElem?_getD,h];rfl
theorem qn_ (A:OA) (n c:Nat) (ps:List PN) (k:Nat) (w:World) (hn:n<=1048576) (V:Nps w A n ps) (hb:Hid (PNs ps)) (hk:k < n):
  Calls prog 127 #[.slice A n c,.int .i64 k] w fun e w'=>e=.returned (.bool (K3_ ps k))/\Below w.heap.size w w':=by
 have HP:=hid V;have HL:=hid V.len;have aO:Hid (∀p∈ps,p.kids.length<=1048576):=(show ∀p∈ps,_ from fun p hp=>(hb.o p hp).2);obtain⟨x,hx⟩:=V.get hk;obtain⟨b,off,A2,c2,rfl,av,x0,x1,x2,x3,bb,aB⟩:=V.atc hk hx;have a6:=hb.o x (List.mem_of_getElem? hx);have HX:=hid hx;have ar:=hid aB;have HN:=hid (fun W=>Y4_ (n:=n) (show inB (k:Int) 0 ((n:Int) - 1)=true from decide_eq_true oo) (some ⟨b,off,none⟩) c W);have bf:(k:Int) < n:=oo;obtain⟨bl,a7⟩:=a6;clear V hx aB;by_cases hm:x.kids.length<=12
 ·have a2:¬((12:Int) < x.kids.length):=oo;have HT:=hid (fun(v:Bool) (h:ZB_ x.kind x.text=v) A n c z W=>show Calls prog 156 #[.agg #[.int .i64 x.kind,.string x.text,.slice A n c,.bool z]] W fun e w'=>e=.returned (.bool v)/\Below W.heap.size W w' by rw[<-h];exact xH_ x.kind x.text A n c z W (by unfold maxLen;omega))
  cases ht:ZB_ x.kind x.text with
  |false=>
   have Z:=hid (HT.o _ ht);rw[QaY_ HX.o ht];clear HT ht;go_enter func127,ntmps127;go_wp2_with fail
   refine(HN.o _).mono ?_;rintro e w1 ⟨rfl,rfl⟩;go_wp2_with fail
   refine(Z.o _ _ _ _ _).mono ?_;rintro e w2 ⟨rfl,h2⟩;go_wp2;go_ret;exact⟨rfl,Z7_ h2⟩
  |true=>
   have Z:=hid (HT.o _ ht);have L:=hid (fun h3=>QaX_ HX.o hm ht h3);have E:=hid (fun h3=>zG_ (k:=k) HX.o h3);clear HT ht;generalize f:K3_ ps k=NB at L E |-
   clear f;go_enter func127,ntmps127;go_wp2_with fail
   refine(HN.o _).mono ?_;rintro e w1 ⟨rfl,rfl⟩;go_wp2_with fail
   refine(Z.o _ _ _ _ _).mono ?_;rintro e w2 ⟨rfl,h2⟩;have K:=Blk.fresh h2;have a:=Z7_ h2;clear h2 x0 x1 x2 x3 av HN Z;have ap:Mine w2 (w.heap.size+1) 3 1 none 0 0 (Qa_ (Qg_ ps (x.kids.take 0))):=Mine.mk_nil _ _ _ _;obtain⟨i0,hi,aC,aD,aE⟩:=info_parts QB_;have HI:=hid (And.intro hi (And.intro aC (And.intro aD aE)));clear hi aC aD aE;have k2:=K.q2;have kz:=K.lt;go_wp2;go_loopw [6,30] (fun s6 i wr=>∃(t:Nat) (A6:OA) (c6:Nat),t<=x.kids.length/\i=.int .i64 t/\s6=.slice A6 t c6/\Mine wr (w.heap.size+1) 3 1 A6 t c6 (Qa_ (Qg_ ps (x.kids.take t)))/\Hid (AllI (Ul_ k x.kids) x.kids t)/\Blk wr w.heap.size 36 #[.int .i64 x.kind,.string x.text,.slice A2 x.kids.length c2,.bool x.blank]/\Below w.heap.size w wr) (fun _ i _=>x.kids.length - (intOf i).toNat)
   case atStart=>exact⟨0,none,0,Nat.zero_le _,rfl,rfl,ap,Jn_ _ _,K,a⟩
   case round=>
    clear ap K a k2 kz;obtain⟨t,A6,c6,bk,rfl,rfl,X,HA,F,a⟩:=hrel;have o:=hid X;have kz:=F.lt;clear X;by_cases aA:t < x.kids.length
    ·have k2:=F.cell 2;simp only[List.getElem?_toArray,List.getElem?_cons_zero,List.getElem?_cons_succ]at k2;obtain⟨v,hd⟩:∃d,x.kids[t]? =some d:=⟨_,List.getElem?_eq_getElem aA⟩;have S:=ar.o.below a;obtain⟨b5,ac,rfl,a1,cv⟩:=Ql_ S aA hd
     cases H:inB v 0 ((k:Int) - 1)with
     |false=>
      have f:NB=false:=E.o (Zv_ hd (vv_ H));subst f;have ab:¬(0<=v/\v<=(k:Int) - 1):=of_decide_eq_false H;clear hd L E S H HA o;by_cases a4:v < 0
      ·go_wp2;go_ret;exact⟨rfl,a⟩
      ·have a5:(k:Int)<=v:=oo;go_wp2;go_ret;exact⟨rfl,a⟩
     |true=>
      have ab:0<=v/\v<=(k:Int) - 1:=of_decide_eq_true H;obtain⟨q,rfl⟩:=Int.eq_ofNat_of_zero_le ab.1;have bh:q < k:=oo;have a4:¬(q:Int) < 0:=oo;have a5:¬(k:Int)<=(q:Int):=oo;have bj:t<=c2:=oo;have bc:(t:Int)<=c2:=oo;have HC:=hid (fun(u:Bool) (h:(x.kids.take t).contains (q:Int)=u) c W (hW:Below wr.heap.size wr W)=>show Calls prog 157 #[.slice (some ⟨b5,ac,none⟩) t c,.int .i64 q] W fun e w'=>e=.returned (.bool u)/\W=w' by
       rw[<-h];refine(Tryz.slices_Contains_int b5 ac t c x.kids q W oo oo ?_).mono (fun e w' ⟨h1,h2⟩=>⟨h1,h2.symm⟩);exact(fun j hj=>by
        obtain⟨y,hy⟩:∃y,x.kids[j]? =some y:=⟨_,List.getElem?_eq_getElem hj⟩;obtain⟨b6,be,e6,_,cy⟩:=Ql_ (S.below hW) hj hy;injection e6 with e6;injection e6 with e61 e62;subst e61;subst e62;rw[QfG_ hy];exact cy))
      cases r:(x.kids.take t).contains (q:Int)with
      |true=>
       have f:NB=false:=E.o (Zv_ hd (kP_ r));subst f;have ad:=hid (HC.o _ r);clear hd L E S H HA o HC r;go_wp2_with (go_at_call 157;refine(ad.o _ _ br).mono ?_;rintro e w1 ⟨rfl,rfl⟩)
       go_ret;exact⟨rfl,a⟩
      |false=>
       have aU:=hid (XB_ HA.o hd (kQ_ H r));have ad:=hid (HC.o _ r);obtain⟨y,hy⟩:=HP.o.get (show q < n from oo);obtain⟨b3,bd,A3,c3,e3,a0,y0,y1,y2,y3,a8⟩:=(HP.o.below a).at_ (show q < n from oo) hy;injection e3 with e3;injection e3 with e31 e32;subst e31;subst e32;have a3:=hid (Qas_ hd hy);have bi:(q:Int) < n:=oo;have bg:(0:Int)<=q:=oo;clear hd L E H HA HC r a8 y1 y2 y3 hy;go_wp2_with (first|(go_at_call 157;refine(ad.o _ _ br).mono ?_;rintro e w1 ⟨rfl,rfl⟩)|(at_builtin;(refine wpList_append_own _ rfl (.tmp 50) (.tmp 56) _ rfl (w.heap.size+1) 3 i0 (.int .i64 0) 1 8 underlying34 HI.o.1 HI.o.2.1 HI.o.2.2.1 HI.o.2.2.2 rfl (by decide) _ _ _ rfl (Mine.alloc o.o _) ⟨wr.heap.size,0,none⟩ 1 1 [.int .i64 y.kind] rfl rfl (Js_ _ _ _) (fun x hx=>by simp at hx;subst hx;rfl) (by unfold maxLen;omega) oo (by simp;omega) ?_);intro v' w3 U ag ai))
       have af:=a.alloc a.size (.cells #[.int .i64 y.kind] 3);have aZ:Below w.heap.size w w3:=af.grown ag af.size (fun g hg=>by have:=(GG_ o.o hg);omega);have aV:=(F.alloc (.cells #[.int .i64 y.kind] 3)).grown ag (fun e=>by have:=GG_ o.o e.symm;omega);obtain⟨A7,c7,rfl,m3⟩:=Mine.of U;have aP:=hid m3;clear U ag ai af m3 S;go_wp2;go_roundw
       case rel=>exact⟨t+1,A7,c7,oo,by go_num,rfl,by rw[a3.o];simpa[Qa_]using aP.o,aU,aV,aZ⟩
       case measure=>simp[intOf];omega
    ·obtain rfl:t=x.kids.length:=oo;have ah:=Ut_ HA.o (Nat.le_refl _);have l:=hid (L.o ah);have O:Hid (∀v∈x.kids,0<=v/\v < (n:Int)):=(show ∀v∈x.kids,_ from fun v hv=>by
      obtain⟨j,hj⟩:=List.mem_iff_getElem?.1 hv;have h1:=Z3_ ah hj;unfold Ul_ at h1;rw[Bool.and_eq_true]at h1;have h2:=of_decide_eq_true h1.1;exact⟨h2.1,oo⟩)
     have az:Qg_ ps (x.kids.take x.kids.length)=Qg_ ps x.kids:=(by rw[List.take_length]);rw[az]at o;clear L E HA ah az;have k0:=F.q0;go_upto_region 14 with fail
     go_cut [9] (fun s wx=>s=.bool (GC_ x.kind)/\Mine wx (w.heap.size+1) 3 1 A6 x.kids.length c6 (Qa_ (Qg_ ps x.kids))/\Blk wx w.heap.size 36 #[.int .i64 x.kind,.string x.text,.slice A2 x.kids.length c2,.bool x.blank]/\Below w.heap.size w wx)
     case first=>
      have HS:=hid (fun(u:Bool) (h:Jf_ x.kind=u) (W:World)=>show Calls prog 158 #[.int .i64 x.kind] W fun e w'=>e=.returned (.bool u)/\W=w' by rw[<-h];exact zv_ _ W);have P:=hid (fun(u:Bool) (h:Q6_ x.kind=u) (W:World)=>show Calls prog 159 #[.int .i64 x.kind] W fun e w'=>e=.returned (.bool u)/\W=w' by rw[<-h];exact Y3_ _ W)
      cases hs:Jf_ x.kind with
      |true=>
       have Y:=hid (HS.o _ hs);have T:GC_ x.kind=true:=(by unfold GC_;rw[hs];rfl);clear HS P hs l;go_wp2_with (go_at_call 158;refine(Y.o _).mono ?_;rintro e w1 ⟨rfl,rfl⟩)
       go_meet
       case rel=>exact⟨by rw[T],o.o,F,a⟩
      |false=>
       have Y:=hid (HS.o _ hs)
       cases M:Q6_ x.kind with
       |true=>
        have Q:=hid (P.o _ M);have T:GC_ x.kind=true:=(by unfold GC_;rw[hs,M];rfl);clear HS P hs M l;go_wp2_with (first|(go_at_call 158;refine(Y.o _).mono ?_;rintro e w1 ⟨rfl,rfl⟩)|(go_at_call 159;refine(Q.o _).mono ?_;rintro e w1 ⟨rfl,rfl⟩))
        go_meet
        case rel=>exact⟨by rw[T],o.o,F,a⟩
       |false=>
        have Q:=hid (P.o _ M);have T:GC_ x.kind=(x.kind==21):=(by unfold GC_;rw[hs,M];rfl);clear HS P hs M l;go_wp2_with (first|(go_at_call 158;refine(Y.o _).mono ?_;rintro e w1 ⟨rfl,rfl⟩)|(go_at_call 159;refine(Q.o _).mono ?_;rintro e w1 ⟨rfl,rfl⟩))
        go_meet
        case rel=>exact⟨by rw[T],o.o,F,a⟩
     case rest=>
      clear o F a k0 kz;obtain⟨rfl,X,F,a⟩:=hcut;have k0:=F.q0;have k1:=F.q1;have k2:=F.q2;have k3:=F.q3;have kz:=F.lt;have J:=hid (fun(u:Bool) (h:kfB x.kind (Qg_ ps x.kids)=u)=>show Calls prog 160 #[.int .i64 x.kind,.slice A6 x.kids.length c6] wc fun e w'=>e=.returned (.bool u)/\Below wc.heap.size wc w' by rw[<-h];exact kS_ x.kind A6 x.kids.length c6 (Qg_ ps x.kids) wc oo X.cap (hid (by unfold Qg_;rw[List.length_map])) X.rd)
      cases D:kfB x.kind (Qg_ ps x.kids)with
      |false=>
       have f:NB=false:=(by rw[l.o,D];rfl);subst f;have B:=hid (J.o _ D);clear J D l X O;go_wp2_with fail
       refine(B.o).mono ?_;rintro e w5 ⟨rfl,R⟩;go_wp2;go_ret;exact⟨rfl,Qb_ a R⟩
      |true=>
       have B:=hid (J.o _ D);have f:NB=(Yd_ ps x.kind x.kids&&(GC_ x.kind||!x.blank)):=(by rw[l.o,D];rfl);have N:=hid (fun(u:Bool) (h:Yd_ ps x.kind x.kids=u) (W:World) (hW:Below w.heap.size w W)=>show Calls prog 161 #[.slice (some ⟨b,off,none⟩) n c,.agg #[.int .i64 x.kind,.string x.text,.slice A2 x.kids.length c2,.bool x.blank]] W fun e w'=>e=.returned (.bool u)/\Below W.heap.size W w' by rw[<-h];exact kj_ _ n c ps x.kind x.text x.kids x.blank A2 x.kids.length c2 W hn a7 (HP.o.below hW) (hid rfl) (ar.o.below hW) O aO)
       cases G:Yd_ ps x.kind x.kids with
       |false=>
        have I:=hid (N.o _ G);rw[G]at f;have C:NB=false:=f;subst C;clear J D l X O f N G;go_wp2_with fail
        refine(B.o).mono ?_;rintro e w5 ⟨rfl,R⟩;have m:=Qb_ a R;obtain⟨ax,ay⟩:=QE_ R;go_wp2_with fail
        refine(I.o _ m).mono ?_;rintro e w6 ⟨rfl,h6⟩;go_wp2;go_ret;exact⟨rfl,Qb_ m h6⟩
       |true=>
        have I:=hid (N.o _ G);rw[G,Bool.true_and]at f;generalize GC_ x.kind=mb at f
        cases mb with
        |true=>
         have C:NB=true:=f;subst C;clear J D l X O f N G;go_wp2_with fail
         refine(B.o).mono ?_;rintro e w5 ⟨rfl,R⟩;have m:=Qb_ a R;obtain⟨ax,ay⟩:=QE_ R;go_wp2_with fail
         refine(I.o _ m).mono ?_;rintro e w6 ⟨rfl,h6⟩;go_wp2;go_ret;exact⟨rfl,Qb_ m h6⟩
        |false=>
         have C:NB=!x.blank:=f;subst C;clear J D l X O N G f;go_wp2_with fail
         refine(B.o).mono ?_;rintro e w5 ⟨rfl,R⟩;have m:=Qb_ a R;have aX:=F.next R;obtain⟨ax,ay⟩:=QE_ R;go_wp2_with fail
         refine(I.o _ m).mono ?_;rintro e w6 ⟨rfl,h6⟩;have aY:=aX.next h6;have bm:=aY.q3;go_wp2;go_ret;exact⟨rfl,Qb_ m h6⟩
 ·have a2:(12:Int) < x.kids.length:=oo;rw[zH_ HX.o hm];go_enter func127,ntmps127;go_wp2_with fail
  refine(HN.o _).mono ?_;rintro e w1 ⟨rfl,rfl⟩;go_wp2;go_ret;exact⟨rfl,grow_⟩
theorem W7_ (A:OA) (n c:Nat) (ps:List PN) (k:Int) (w:World) (hn:n<=1048576) (a:Nps w A n ps) (hb:Hid (PNs ps)):
  Calls prog 127 #[.slice A n c,.int .i64 k] w fun e w'=>e=.returned (.bool (QaZ_ ps k))/\Below w.heap.size w w':=by
 have hl:=a.len;by_cases hk:0<=k/\k < (n:Int)
 ·obtain⟨q,rfl⟩:=Int.eq_ofNat_of_zero_le hk.1;rw[vI_ oo];exact qn_ A n c ps q w hn a hb oo
 ·exact W8_ A n c ps k w (hid hl) hk
def QW_ (kind:Int):Int:=
 if kind=5\/kind=9\/kind=20\/kind=6\/kind=11\/kind=13\/kind=14 then 1
 else if kind=7\/kind=10\/kind=16\/kind=17 then 2
 else if kind=8 then 3 else 0
def QT_ (kind:Int):Int:=
 if kind=4\/kind=18\/kind=21\/kind=22\/kind=5\/kind=9\/kind=20\/kind=7\/kind=10 then 12
 else if kind=6\/kind=11\/kind=13\/kind=14\/kind=12\/kind=15 then 1
 else if kind=8\/kind=16 then 3
 else if kind=17 then 2 else 0
def Y1_ (ps:List PN) (kind:Int) (n i:Nat) (kid:Int):Bool:=
 if kind=9 then (if i+1 < n then isK 1 (Qs_ ps kid)else Qj_ (Qs_ ps kid))
 else if kind=20 then (if i+1 < n then isK 1 (Qs_ ps kid)else isK 18 (Qs_ ps kid))
 else if kind=10 then (if 0 < i then isK 5 (Qs_ ps kid)&&(match ps[kid.toNat]? with|some y=>(match y.kids with|j::_=>isK 1 (Qs_ ps j)|[]=>false)|none=>false)else Qj_ (Qs_ ps kid))
 else if kind=16\/kind=17 then (if 0 < i then isK 18 (Qs_ ps kid)else Qj_ (Qs_ ps kid))
 else if kind=18 then Xf_ (Qs_ ps kid)
 else if kind=21 then Q6_ (Qs_ ps kid)
 else if kind=22 then isK 21 (Qs_ ps kid)||Q6_ (Qs_ ps kid)
 else Qj_ (Qs_ ps kid)
theorem Uv_ (kind:Int) (w:World) (hk:kind=4\/kind=18\/kind=21\/kind=22):Calls prog 169 #[.int .i64 kind] w fun e w'=>e=.returned (.tuple #[.int .i64 0,.int .i64 12])/\w=w':=by
 rcases hk with rfl|rfl|rfl|rfl
 all_goals
  go_enter func169,ntmps169;go_wp2;go_ret2;exact⟨rfl,rfl⟩
theorem qb_ (kind:Int) (w:World) (hk:kind=5\/kind=9\/kind=20):Calls prog 169 #[.int .i64 kind] w fun e w'=>e=.returned (.tuple #[.int .i64 1,.int .i64 12])/\w=w':=by
 rcases hk with rfl|rfl|rfl
 all_goals
  go_enter func169,ntmps169;go_wp2;go_ret2;exact⟨rfl,rfl⟩
theorem qc_ (kind:Int) (w:World) (hk:kind=6\/kind=11\/kind=13\/kind=14):Calls prog 169 #[.int .i64 kind] w fun e w'=>e=.returned (.tuple #[.int .i64 1,.int .i64 1])/\w=w':=by
 rcases hk with rfl|rfl|rfl|rfl
 all_goals
  go_enter func169,ntmps169;go_wp2;go_ret2;exact⟨rfl,rfl⟩
theorem kk_ (kind:Int) (w:World) (hk:kind=7\/kind=10):Calls prog 169 #[.int .i64 kind] w fun e w'=>e=.returned (.tuple #[.int .i64 2,.int .i64 12])/\w=w':=by
 rcases hk with rfl|rfl
 all_goals
  go_enter func169,ntmps169;go_wp2;go_ret2;exact⟨rfl,rfl⟩
theorem QdT_ (kind:Int) (w:World) (hk:kind=8):Calls prog 169 #[.int .i64 kind] w fun e w'=>e=.returned (.tuple #[.int .i64 3,.int .i64 3])/\w=w':=by
 rcases hk with rfl
 all_goals
  go_enter func169,ntmps169;go_wp2;go_ret2;exact⟨rfl,rfl⟩
theorem QbR_ (kind:Int) (w:World) (hk:kind=12\/kind=15):Calls prog 169 #[.int .i64 kind] w fun e w'=>e=.returned (.tuple #[.int .i64 0,.int .i64 1])/\w=w':=by
 rcases hk with rfl|rfl
 all_goals
  go_enter func169,ntmps169;go_wp2;go_ret2;exact⟨rfl,rfl⟩
theorem QgI_ (kind:Int) (w:World) (hk:kind=16):Calls prog 169 #[.int .i64 kind] w fun e w'=>e=.returned (.tuple #[.int .i64 2,.int .i64 3])/\w=w':=by
 rcases hk with rfl
 all_goals
  go_enter func169,ntmps169;go_wp2;go_ret2;exact⟨rfl,rfl⟩
theorem QbS_ (kind:Int) (w:World) (hk:kind=17):Calls prog 169 #[.int .i64 kind] w fun e w'=>e=.returned (.tuple #[.int .i64 2,.int .i64 2])/\w=w':=by
 rcases hk with rfl
 all_goals
  go_enter func169,ntmps169;go_wp2;go_ret2;exact⟨rfl,rfl⟩
theorem Uw_ (kind:Int) (w:World) (hk:kind=1\/kind=2\/kind=3\/kind=19):Calls prog 169 #[.int .i64 kind] w fun e w'=>e=.returned (.tuple #[.int .i64 0,.int .i64 0])/\w=w':=by
 rcases hk with rfl|rfl|rfl|rfl
 all_goals
  go_enter func169,ntmps169;go_wp2;go_ret2;exact⟨rfl,rfl⟩
theorem kX_ (kind:Int) (w:World) (hk:1<=kind/\kind<=22):Calls prog 169 #[.int .i64 kind] w fun e w'=>e=.returned (.tuple #[.int .i64 (QW_ kind),.int .i64 (QT_ kind)])/\w=w':=by
 have h2:kind=1\/kind=2\/kind=3\/kind=4\/kind=5\/kind=6\/kind=7\/kind=8\/kind=9\/kind=10\/kind=11\/kind=12\/kind=13\/kind=14\/kind=15\/kind=16\/kind=17\/kind=18\/kind=19\/kind=20\/kind=21\/kind=22:=oo;rcases h2 with rfl|rfl|rfl|rfl|rfl|rfl|rfl|rfl|rfl|rfl|rfl|rfl|rfl|rfl|rfl|rfl|rfl|rfl|rfl|rfl|rfl|rfl
 ·exact Uw_ 1 w oo
 ·exact Uw_ 2 w oo
 ·exact Uw_ 3 w oo
 ·exact Uv_ 4 w oo
 ·exact qb_ 5 w oo
 ·exact qc_ 6 w oo
 ·exact kk_ 7 w oo
 ·exact QdT_ 8 w oo
 ·exact qb_ 9 w oo
 ·exact kk_ 10 w oo
 ·exact qc_ 11 w oo
 ·exact QbR_ 12 w oo
 ·exact qc_ 13 w oo
 ·exact qc_ 14 w oo
 ·exact QbR_ 15 w oo
 ·exact QgI_ 16 w oo
 ·exact QbS_ 17 w oo
 ·exact Uv_ 18 w oo
 ·exact Uw_ 19 w oo
 ·exact qb_ 20 w oo
 ·exact Uv_ 21 w oo
 ·exact Uv_ 22 w oo
theorem Qfo_ (A:OA) (n c:Nat) (ps:List PN) (k i:Nat) (x y:PN) (q:Nat) (w:World) (hn:n<=1048576) (g:Nps w A n ps) (hb:Hid (PNs ps)) (hk:k < n) (hx:Hid (ps[k]? =some x)) (hi:i < x.kids.length) (hd:Hid (x.kids[i]? =some (q:Int))) (hq:q < n) (hy:Hid (ps[q]? =some y)) (a:x.kind=1\/x.kind=2\/x.kind=3\/x.kind=4\/x.kind=5\/x.kind=6\/x.kind=7\/x.kind=8\/x.kind=11\/x.kind=12\/x.kind=13\/x.kind=14\/x.kind=15\/x.kind=19):
  Calls prog 172 #[.slice A n c,.int .i64 k,.int .i64 i] w fun e w'=>e=.returned (.bool (Y1_ ps x.kind x.kids.length i q))/\Below w.heap.size w w':=by
 have F:=(hb.o x (List.mem_of_getElem? hx.o)).2;obtain⟨b,off,A2,c2,rfl,p,x0,x1,x2,x3,h⟩:=g.at_ hk hx.o;obtain⟨b3,r,A3,c3,j,l,y0,y1,y2,y3,o⟩:=g.at_ hq hy.o;injection j with j;injection j with e31 e32;subst e31;subst e32;obtain⟨b5,s,rfl,m,cv⟩:=Ql_ h hi hd.o;have g0:(0:Int)<=(q:Int):=oo;have g1:(q:Int) < n:=oo;have g2:(k:Int) < n:=oo;have g3:(i:Int) < x.kids.length:=oo;have f:=QR_ hy.o;have d:Y1_ ps x.kind x.kids.length i (q:Int)=Qj_ y.kind:=by
  unfold Y1_;rw[f,if_neg oo,if_neg oo,if_neg oo,if_neg oo,if_neg oo,if_neg oo,if_neg oo]
 rw[d];have HV:=hid (fun W=>ZO_ y.kind W);generalize Qj_ y.kind=u at HV |-
 have d9:(x.kind==9)=false:=by rw[beq_eq_false_iff_ne];omega
 have C:(x.kind==20)=false:=by rw[beq_eq_false_iff_ne];omega
 have t:(x.kind==10)=false:=by rw[beq_eq_false_iff_ne];omega
 have v:(x.kind==16)=false:=by rw[beq_eq_false_iff_ne];omega
 have z:(x.kind==17)=false:=by rw[beq_eq_false_iff_ne];omega
 have B:(x.kind==18)=false:=by rw[beq_eq_false_iff_ne];omega
 have D:(x.kind==21)=false:=by rw[beq_eq_false_iff_ne];omega
 have E:(x.kind==22)=false:=by rw[beq_eq_false_iff_ne];omega
 clear a d f h o;go_enter func172,ntmps172;go_wp2_with fail
 refine(HV.o _).mono ?_;rintro e w1 ⟨rfl,rfl⟩;go_wp2;go_ret;exact⟨rfl,grow_⟩
theorem QgL_ (A:OA) (n c:Nat) (ps:List PN) (k i:Nat) (x y:PN) (q:Nat) (w:World) (hn:n<=1048576) (g:Nps w A n ps) (hb:Hid (PNs ps)) (hk:k < n) (hx:Hid (ps[k]? =some x)) (hi:i < x.kids.length) (hd:Hid (x.kids[i]? =some (q:Int))) (hq:q < n) (hy:Hid (ps[q]? =some y)) (a:x.kind=9):
  Calls prog 172 #[.slice A n c,.int .i64 k,.int .i64 i] w fun e w'=>e=.returned (.bool (Y1_ ps x.kind x.kids.length i q))/\Below w.heap.size w w':=by
 have t:=(hb.o x (List.mem_of_getElem? hx.o)).2;obtain⟨b,off,A2,c2,rfl,p,x0,x1,x2,x3,h⟩:=g.at_ hk hx.o;obtain⟨b3,r,A3,c3,j,l,y0,y1,y2,y3,o⟩:=g.at_ hq hy.o;injection j with j;injection j with e31 e32;subst e31;subst e32;obtain⟨b5,s,rfl,m,cv⟩:=Ql_ h hi hd.o;have g0:(0:Int)<=(q:Int):=oo;have g1:(q:Int) < n:=oo;have g2:(k:Int) < n:=oo;have g3:(i:Int) < x.kids.length:=oo;have f:=QR_ hy.o;rw[a]at x0;have d:Y1_ ps x.kind x.kids.length i (q:Int)=if i+1 < x.kids.length then isK 1 y.kind else Qj_ y.kind:=by
  rw[a];unfold Y1_;rw[f];simp
 rw[d];clear d f h o a;by_cases ht:i+1 < x.kids.length
 ·rw[if_pos ht];have i1:((i:Int)+1 < x.kids.length):=oo;go_enter func172,ntmps172;go_wp2;go_ret;exact⟨rfl,grow_⟩
 ·rw[if_neg ht];have i1:(¬(i:Int)+1 < x.kids.length):=oo;have HV:=hid (fun W=>ZO_ y.kind W);generalize Qj_ y.kind=u at HV |-
  go_enter func172,ntmps172;go_wp2_with fail
  refine(HV.o _).mono ?_;rintro e w1 ⟨rfl,rfl⟩;go_wp2;go_ret;exact⟨rfl,grow_⟩
theorem Qag_ (A:OA) (n c:Nat) (ps:List PN) (k i:Nat) (x y:PN) (q:Nat) (w:World) (hn:n<=1048576) (g:Nps w A n ps) (hb:Hid (PNs ps)) (hk:k < n) (hx:Hid (ps[k]? =some x)) (hi:i < x.kids.length) (hd:Hid (x.kids[i]? =some (q:Int))) (hq:q < n) (hy:Hid (ps[q]? =some y)) (a:x.kind=20):
  Calls prog 172 #[.slice A n c,.int .i64 k,.int .i64 i] w fun e w'=>e=.returned (.bool (Y1_ ps x.kind x.kids.length i q))/\Below w.heap.size w w':=by
 have t:=(hb.o x (List.mem_of_getElem? hx.o)).2;obtain⟨b,off,A2,c2,rfl,p,x0,x1,x2,x3,h⟩:=g.at_ hk hx.o;obtain⟨b3,r,A3,c3,j,l,y0,y1,y2,y3,o⟩:=g.at_ hq hy.o;injection j with j;injection j with e31 e32;subst e31;subst e32;obtain⟨b5,s,rfl,m,cv⟩:=Ql_ h hi hd.o;have g0:(0:Int)<=(q:Int):=oo;have g1:(q:Int) < n:=oo;have g2:(k:Int) < n:=oo;have g3:(i:Int) < x.kids.length:=oo;have f:=QR_ hy.o;rw[a]at x0;have d:Y1_ ps x.kind x.kids.length i (q:Int)=if i+1 < x.kids.length then isK 1 y.kind else isK 18 y.kind:=by
  rw[a];unfold Y1_;rw[f];simp
 rw[d];clear d f h o a;by_cases ht:i+1 < x.kids.length
 ·rw[if_pos ht];have i1:((i:Int)+1 < x.kids.length):=oo;go_enter func172,ntmps172;go_wp2;go_ret;exact⟨rfl,grow_⟩
 ·rw[if_neg ht];have i1:(¬(i:Int)+1 < x.kids.length):=oo;go_enter func172,ntmps172;go_wp2;go_ret;exact⟨rfl,grow_⟩
theorem QgM_ (A:OA) (n c:Nat) (ps:List PN) (k i:Nat) (x y:PN) (q:Nat) (w:World) (hn:n<=1048576) (g:Nps w A n ps) (hb:Hid (PNs ps)) (hk:k < n) (hx:Hid (ps[k]? =some x)) (hi:i < x.kids.length) (hd:Hid (x.kids[i]? =some (q:Int))) (hq:q < n) (hy:Hid (ps[q]? =some y)) (a:x.kind=16):
  Calls prog 172 #[.slice A n c,.int .i64 k,.int .i64 i] w fun e w'=>e=.returned (.bool (Y1_ ps x.kind x.kids.length i q))/\Below w.heap.size w w':=by
 have t:=(hb.o x (List.mem_of_getElem? hx.o)).2;obtain⟨b,off,A2,c2,rfl,p,x0,x1,x2,x3,h⟩:=g.at_ hk hx.o;obtain⟨b3,r,A3,c3,j,l,y0,y1,y2,y3,o⟩:=g.at_ hq hy.o;injection j with j;injection j with e31 e32;subst e31;subst e32;obtain⟨b5,s,rfl,m,cv⟩:=Ql_ h hi hd.o;have g0:(0:Int)<=(q:Int):=oo;have g1:(q:Int) < n:=oo;have g2:(k:Int) < n:=oo;have g3:(i:Int) < x.kids.length:=oo;have f:=QR_ hy.o;rw[a]at x0;have d:Y1_ ps x.kind x.kids.length i (q:Int)=if 0 < i then isK 18 y.kind else Qj_ y.kind:=by
  rw[a];unfold Y1_;rw[f];simp
 rw[d];clear d f h o a;by_cases ht:0 < i
 ·rw[if_pos ht];have i1:((0:Int) < i):=oo;go_enter func172,ntmps172;go_wp2;go_ret;exact⟨rfl,grow_⟩
 ·rw[if_neg ht];have i1:(¬(0:Int) < i):=oo;have HV:=hid (fun W=>ZO_ y.kind W);generalize Qj_ y.kind=u at HV |-
  go_enter func172,ntmps172;go_wp2_with fail
  refine(HV.o _).mono ?_;rintro e w1 ⟨rfl,rfl⟩;go_wp2;go_ret;exact⟨rfl,grow_⟩
theorem Qb7_ (A:OA) (n c:Nat) (ps:List PN) (k i:Nat) (x y:PN) (q:Nat) (w:World) (hn:n<=1048576) (g:Nps w A n ps) (hb:Hid (PNs ps)) (hk:k < n) (hx:Hid (ps[k]? =some x)) (hi:i < x.kids.length) (hd:Hid (x.kids[i]? =some (q:Int))) (hq:q < n) (hy:Hid (ps[q]? =some y)) (a:x.kind=17):
  Calls prog 172 #[.slice A n c,.int .i64 k,.int .i64 i] w fun e w'=>e=.returned (.bool (Y1_ ps x.kind x.kids.length i q))/\Below w.heap.size w w':=by
 have t:=(hb.o x (List.mem_of_getElem? hx.o)).2;obtain⟨b,off,A2,c2,rfl,p,x0,x1,x2,x3,h⟩:=g.at_ hk hx.o;obtain⟨b3,r,A3,c3,j,l,y0,y1,y2,y3,o⟩:=g.at_ hq hy.o;injection j with j;injection j with e31 e32;subst e31;subst e32;obtain⟨b5,s,rfl,m,cv⟩:=Ql_ h hi hd.o;have g0:(0:Int)<=(q:Int):=oo;have g1:(q:Int) < n:=oo;have g2:(k:Int) < n:=oo;have g3:(i:Int) < x.kids.length:=oo;have f:=QR_ hy.o;rw[a]at x0;have d:Y1_ ps x.kind x.kids.length i (q:Int)=if 0 < i then isK 18 y.kind else Qj_ y.kind:=by
  rw[a];unfold Y1_;rw[f];simp
 rw[d];clear d f h o a;by_cases ht:0 < i
 ·rw[if_pos ht];have i1:((0:Int) < i):=oo;go_enter func172,ntmps172;go_wp2;go_ret;exact⟨rfl,grow_⟩
 ·rw[if_neg ht];have i1:(¬(0:Int) < i):=oo;have HV:=hid (fun W=>ZO_ y.kind W);generalize Qj_ y.kind=u at HV |-
  go_enter func172,ntmps172;go_wp2_with fail
  refine(HV.o _).mono ?_;rintro e w1 ⟨rfl,rfl⟩;go_wp2;go_ret;exact⟨rfl,grow_⟩
theorem Qb5_ (A:OA) (n c:Nat) (ps:List PN) (k i:Nat) (x y:PN) (q:Nat) (w:World) (hn:n<=1048576) (g:Nps w A n ps) (hb:Hid (PNs ps)) (hk:k < n) (hx:Hid (ps[k]? =some x)) (hi:i < x.kids.length) (hd:Hid (x.kids[i]? =some (q:Int))) (hq:q < n) (hy:Hid (ps[q]? =some y)) (a:x.kind=18):
  Calls prog 172 #[.slice A n c,.int .i64 k,.int .i64 i] w fun e w'=>e=.returned (.bool (Y1_ ps x.kind x.kids.length i q))/\Below w.heap.size w w':=by
 have t:=(hb.o x (List.mem_of_getElem? hx.o)).2;obtain⟨b,off,A2,c2,rfl,p,x0,x1,x2,x3,h⟩:=g.at_ hk hx.o;obtain⟨b3,r,A3,c3,j,l,y0,y1,y2,y3,o⟩:=g.at_ hq hy.o;injection j with j;injection j with e31 e32;subst e31;subst e32;obtain⟨b5,s,rfl,m,cv⟩:=Ql_ h hi hd.o;have g0:(0:Int)<=(q:Int):=oo;have g1:(q:Int) < n:=oo;have g2:(k:Int) < n:=oo;have g3:(i:Int) < x.kids.length:=oo;have f:=QR_ hy.o;rw[a]at x0;have d:Y1_ ps x.kind x.kids.length i (q:Int)=Xf_ y.kind:=by
  rw[a];unfold Y1_;rw[f];simp
 rw[d];clear d f h o a;have HV:=hid (fun W=>Ub_ y.kind W);generalize Xf_ y.kind=u at HV |-
 go_enter func172,ntmps172;go_wp2_with fail
 refine(HV.o _).mono ?_;rintro e w1 ⟨rfl,rfl⟩;go_wp2;go_ret;exact⟨rfl,grow_⟩
theorem Qb6_ (A:OA) (n c:Nat) (ps:List PN) (k i:Nat) (x y:PN) (q:Nat) (w:World) (hn:n<=1048576) (g:Nps w A n ps) (hb:Hid (PNs ps)) (hk:k < n) (hx:Hid (ps[k]? =some x)) (hi:i < x.kids.length) (hd:Hid (x.kids[i]? =some (q:Int))) (hq:q < n) (hy:Hid (ps[q]? =some y)) (a:x.kind=21):
  Calls prog 172 #[.slice A n c,.int .i64 k,.int .i64 i] w fun e w'=>e=.returned (.bool (Y1_ ps x.kind x.kids.length i q))/\Below w.heap.size w w':=by
 have t:=(hb.o x (List.mem_of_getElem? hx.o)).2;obtain⟨b,off,A2,c2,rfl,p,x0,x1,x2,x3,h⟩:=g.at_ hk hx.o;obtain⟨b3,r,A3,c3,j,l,y0,y1,y2,y3,o⟩:=g.at_ hq hy.o;injection j with j;injection j with e31 e32;subst e31;subst e32;obtain⟨b5,s,rfl,m,cv⟩:=Ql_ h hi hd.o;have g0:(0:Int)<=(q:Int):=oo;have g1:(q:Int) < n:=oo;have g2:(k:Int) < n:=oo;have g3:(i:Int) < x.kids.length:=oo;have f:=QR_ hy.o;rw[a]at x0;have d:Y1_ ps x.kind x.kids.length i (q:Int)=(y.kind==12||(y.kind==20||y.kind==19)):=by
  rw[a];unfold Y1_;rw[f];simp[isK,Q6_,Bool.or_assoc]
 rw[d];clear d f h o a
 cases e0:(y.kind==12)with
 |true=>
  simp only[Bool.true_or,Bool.or_true,Bool.false_or];go_enter func172,ntmps172;go_wp2;go_ret;exact⟨rfl,grow_⟩
 |false=>
  cases e1:(y.kind==20)with
  |true=>
   simp only[Bool.true_or,Bool.or_true,Bool.false_or];go_enter func172,ntmps172;go_wp2;go_ret;exact⟨rfl,grow_⟩
  |false=>
   simp only[Bool.false_or];go_enter func172,ntmps172;go_wp2;go_ret;exact⟨rfl,grow_⟩
theorem Qd2_ (A:OA) (n c:Nat) (ps:List PN) (k i:Nat) (x y:PN) (q:Nat) (w:World) (hn:n<=1048576) (g:Nps w A n ps) (hb:Hid (PNs ps)) (hk:k < n) (hx:Hid (ps[k]? =some x)) (hi:i < x.kids.length) (hd:Hid (x.kids[i]? =some (q:Int))) (hq:q < n) (hy:Hid (ps[q]? =some y)) (a:x.kind=22):
  Calls prog 172 #[.slice A n c,.int .i64 k,.int .i64 i] w fun e w'=>e=.returned (.bool (Y1_ ps x.kind x.kids.length i q))/\Below w.heap.size w w':=by
 have t:=(hb.o x (List.mem_of_getElem? hx.o)).2;obtain⟨b,off,A2,c2,rfl,p,x0,x1,x2,x3,h⟩:=g.at_ hk hx.o;obtain⟨b3,r,A3,c3,j,l,y0,y1,y2,y3,o⟩:=g.at_ hq hy.o;injection j with j;injection j with e31 e32;subst e31;subst e32;obtain⟨b5,s,rfl,m,cv⟩:=Ql_ h hi hd.o;have g0:(0:Int)<=(q:Int):=oo;have g1:(q:Int) < n:=oo;have g2:(k:Int) < n:=oo;have g3:(i:Int) < x.kids.length:=oo;have f:=QR_ hy.o;rw[a]at x0;have d:Y1_ ps x.kind x.kids.length i (q:Int)=(y.kind==21||(y.kind==12||(y.kind==20||y.kind==19))):=by
  rw[a];unfold Y1_;rw[f];simp[isK,Q6_,Bool.or_assoc]
 rw[d];clear d f h o a
 cases e0:(y.kind==21)with
 |true=>
  simp only[Bool.true_or,Bool.or_true,Bool.false_or];go_enter func172,ntmps172;go_wp2;go_ret;exact⟨rfl,grow_⟩
 |false=>
  cases e1:(y.kind==12)with
  |true=>
   simp only[Bool.true_or,Bool.or_true,Bool.false_or];go_enter func172,ntmps172;go_wp2;go_ret;exact⟨rfl,grow_⟩
  |false=>
   cases e2:(y.kind==20)with
   |true=>
    simp only[Bool.true_or,Bool.or_true,Bool.false_or];go_enter func172,ntmps172;go_wp2;go_ret;exact⟨rfl,grow_⟩
   |false=>
    simp only[Bool.false_or];go_enter func172,ntmps172;go_wp2;go_ret;exact⟨rfl,grow_⟩
theorem x3_ (A:OA) (n c:Nat) (ps:List PN) (k i:Nat) (x y:PN) (q:Nat) (w:World) (hn:n<=1048576) (f:Nps w A n ps) (hb:Hid (PNs ps)) (hk:k < n) (hx:Hid (ps[k]? =some x)) (hi:i < x.kids.length) (hd:Hid (x.kids[i]? =some (q:Int))) (hq:q < n) (H:Hid (ps[q]? =some y)) (l:y.kind=5->∃(r:Nat) (js:LI),y.kids=(r:Int)::js/\r < n) (d:x.kind=10):
  Calls prog 172 #[.slice A n c,.int .i64 k,.int .i64 i] w fun e w'=>e=.returned (.bool (Y1_ ps x.kind x.kids.length i q))/\Below w.heap.size w w':=by
 have P:=(hb.o x (List.mem_of_getElem? hx.o)).2;obtain⟨b,off,A2,c2,rfl,K,x0,x1,x2,x3,v⟩:=f.at_ hk hx.o;obtain⟨b3,L,A3,c3,B,D,y0,y1,y2,y3,h⟩:=f.at_ hq H.o;injection B with B;injection B with e31 e32;subst e31;subst e32;obtain⟨b5,N,rfl,F,cv⟩:=Ql_ v hi hd.o;have g0:(0:Int)<=(q:Int):=oo;have g1:(q:Int) < n:=oo;have g2:(k:Int) < n:=oo;have g3:(i:Int) < x.kids.length:=oo;have s:=QR_ H.o;rw[d]at x0;have o:Y1_ ps x.kind x.kids.length i (q:Int)=if 0 < i then isK 5 y.kind&&(match y.kids with|j::_=>isK 1 (Qs_ ps j)|[]=>false)else Qj_ y.kind:=by
  rw[d];unfold Y1_;rw[s,Int.toNat_natCast,H.o];simp<;>rfl
 rw[o];clear o s v d;by_cases ht:0 < i
 ·rw[if_pos ht];have i1:(0:Int) < i:=oo;by_cases z:y.kind=5
  ·obtain⟨r,js,g,t⟩:=l z;have I:0 < y.kids.length:=(by rw[g];simp);have p:y.kids[0]? =some (r:Int):=(by rw[g];rfl);obtain⟨b6,O,rfl,G,cj⟩:=Ql_ h I p;simp only[Nat.add_zero]at cj;have i2:(0:Int) < y.kids.length:=oo;have g4:(0:Int)<=(r:Int):=oo;have g5:(r:Int) < n:=oo;obtain⟨zz,m⟩:=f.get t;obtain⟨b4,M,A4,c4,C,E,z0,z1,z2,z3,J⟩:=f.at_ t m;injection C with C;injection C with e41 e42;subst e41;subst e42;have a:(isK 5 y.kind&&(match y.kids with|j::_=>isK 1 (Qs_ ps j)|[]=>false))=(zz.kind==1):=by
    rw[g,z];simp only[QR_ m];rfl
   rw[a];rw[z]at y0;clear a g p J h z1 z2 z3 m;go_enter func172,ntmps172;go_wp2;go_ret;exact⟨rfl,grow_⟩
  ·have e5:(y.kind==5)=false:=(by rw[beq_eq_false_iff_ne];exact z);have a:(isK 5 y.kind&&(match y.kids with|j::_=>isK 1 (Qs_ ps j)|[]=>false))=false:=by
    unfold isK;rw[e5,Bool.false_and]
   rw[a];clear a h;go_enter func172,ntmps172;go_wp2;go_ret;exact⟨rfl,grow_⟩
 ·rw[if_neg ht];have i1:¬(0:Int) < i:=oo;have HV:=hid (fun W=>ZO_ y.kind W);generalize Qj_ y.kind=u at HV |-
  clear h;go_enter func172,ntmps172;go_wp2_with fail
  refine(HV.o _).mono ?_;rintro e w1 ⟨rfl,rfl⟩;go_wp2;go_ret;exact⟨rfl,grow_⟩
theorem jd_ (A:OA) (n c:Nat) (ps:List PN) (k i:Nat) (x y:PN) (q:Nat) (w:World) (f:n<=1048576) (a:Nps w A n ps) (b:Hid (PNs ps)) (d:k < n) (h:Hid (ps[k]? =some x)) (hi:i < x.kids.length) (hd:Hid (x.kids[i]? =some (q:Int))) (g:q < n) (j:Hid (ps[q]? =some y)) (l:y.kind=5->∃(r:Nat) (js:LI),y.kids=(r:Int)::js/\r < n) (B:1<=x.kind/\x.kind<=22):
  Calls prog 172 #[.slice A n c,.int .i64 k,.int .i64 i] w fun e w'=>e=.returned (.bool (Y1_ ps x.kind x.kids.length i q))/\Below w.heap.size w w':=by
 by_cases h9:x.kind=9
 ·exact QgL_ A n c ps k i x y q w f a b d h hi hd g j h9
 by_cases t:x.kind=20
 ·exact Qag_ A n c ps k i x y q w f a b d h hi hd g j t
 by_cases m:x.kind=10
 ·exact x3_ A n c ps k i x y q w f a b d h hi hd g j l m
 by_cases o:x.kind=16
 ·exact QgM_ A n c ps k i x y q w f a b d h hi hd g j o
 by_cases p:x.kind=17
 ·exact Qb7_ A n c ps k i x y q w f a b d h hi hd g j p
 by_cases s:x.kind=18
 ·exact Qb5_ A n c ps k i x y q w f a b d h hi hd g j s
 by_cases v:x.kind=21
 ·exact Qb6_ A n c ps k i x y q w f a b d h hi hd g j v
 by_cases z:x.kind=22
 ·exact Qd2_ A n c ps k i x y q w f a b d h hi hd g j z
 exact Qfo_ A n c ps k i x y q w f a b d h hi hd g j oo
def Yb_ (ps:List PN) (v:Int):Bool:=
 match ps[v.toNat]? with
 |some y=>if y.kind=5 then (match y.kids with|[]=>false|j::_=>inB j 0 ((ps.length:Int) - 1))else true
 |none=>false
section
variable {ps:List PN} {k:Nat} {y:PN} {j:Int} {js:LI}
theorem kh_ (h:ps[k]? =some y) (h5:¬y.kind=5):Yb_ ps (k:Int)=true:=by unfold Yb_;rw[Int.toNat_natCast,h];simp only;rw[if_neg h5]
theorem xW_ (h:ps[k]? =some y) (h5:y.kind=5) (hk:y.kids=[]):Yb_ ps (k:Int)=false:=by unfold Yb_;rw[Int.toNat_natCast,h];simp only;rw[if_pos h5,hk]
theorem xX_ (h:ps[k]? =some y) (h5:y.kind=5) (hk:y.kids=j::js):Yb_ ps (k:Int)=inB j 0 ((ps.length:Int) - 1):=by unfold Yb_;rw[Int.toNat_natCast,h];simp only;rw[if_pos h5,hk]
end
def Xc_ (ps:List PN) (x:PN) (i:Nat) (v:Int):Bool:=Yb_ ps v&&Y1_ ps x.kind x.kids.length i v
def WQ_ (ps:List PN) (k:Nat):Bool:=
 match ps[k]? with
 |some x=>inB x.kind 1 22&&(inB (x.kids.length:Int) (QW_ x.kind) (QT_ x.kind)&&(ZB_ x.kind x.text&&(!(x.blank&&!GC_ x.kind)&&(JM_ k x.kids&&Q4_ (Xc_ ps x) x.kids))))
 |none=>false
theorem QfV_ (k:Int):GC_ k=(Xf_ k||k==20||k==21):=by
 unfold GC_ Xf_ Q6_ Jf_
 cases c:(k==12)with
 |true=>
  rw[beq_iff_eq]at c;subst c;decide
 |false=>
  generalize inB k 12 17=a;generalize (k==20)=b;generalize (k==19)=d;generalize (k==21)=e;revert a b d e;decide
theorem q0_ (A:OA) (n c:Nat) (ps:List PN) (k:Nat) (w:World) (hn:n<=1048576) (X:Nps w A n ps) (hb:Hid (PNs ps)) (hk:k < n):
  Calls prog 136 #[.slice A n c,.int .i64 k] w fun e w'=>e=.returned (.bool (WQ_ ps k))/\Below w.heap.size w w':=by
 have HP:=hid X;have HL:=hid X.len;obtain⟨x,hx⟩:=X.get hk;obtain⟨b,off,A2,c2,rfl,aA,x0,x1,x2,x3,a6,aF⟩:=X.atc hk hx;have a3:=hb.o x (List.mem_of_getElem? hx);have HX:=hid hx;have af:=hid aF;have HN:=hid (fun W=>Kh_ (show inB (k:Int) 0 ((n:Int) - 1)=true from decide_eq_true oo) W);have bb:(k:Int) < n:=oo;obtain⟨be,bd⟩:=a3;have g:Hid (WQ_ ps k=(inB x.kind 1 22&&(inB (x.kids.length:Int) (QW_ x.kind) (QT_ x.kind)&&(ZB_ x.kind x.text&&(!(x.blank&&!GC_ x.kind)&&(JM_ k x.kids&&Q4_ (Xc_ ps x) x.kids)))))):=(show _=_ by unfold WQ_;rw[hx]);clear X hx aF;generalize WQ_ ps k=F at g |-
 cases I:inB x.kind 1 22 with
 |false=>
  have l:F=false:=by rw[g.o,I];rfl
  subst l;have HK:=hid (fun W=>Kh_ I W);clear g I;go_enter func136,ntmps136;go_wp2_with fail
  refine(HN.o _).mono ?_;rintro e w1 ⟨rfl,rfl⟩;go_wp2_with fail
  refine(HK.o _).mono ?_;rintro e w1 ⟨rfl,rfl⟩;go_wp2;go_ret;exact⟨rfl,grow_⟩
 |true=>
  have HK:=hid (fun W=>Kh_ I W);have V:1<=x.kind/\x.kind<=22:=of_decide_eq_true I;have Y:=hid (fun W=>kX_ x.kind W V);have aM:=hid V;replace g:Hid (F=(inB (x.kids.length:Int) (QW_ x.kind) (QT_ x.kind)&&(ZB_ x.kind x.text&&(!(x.blank&&!GC_ x.kind)&&(JM_ k x.kids&&Q4_ (Xc_ ps x) x.kids))))):=(show _=_ by rw[g.o,I,Bool.true_and]);clear I V;have ac:=hid (fun(v:Bool) (h:inB (x.kids.length:Int) (QW_ x.kind) (QT_ x.kind)=v) W=>Kh_ h W)
  cases o:inB (x.kids.length:Int) (QW_ x.kind) (QT_ x.kind)with
  |false=>
   have l:F=false:=(by rw[g.o,o];rfl);subst l;have E:=hid (ac.o _ o);clear g o ac;generalize QW_ x.kind=lo at *;generalize QT_ x.kind=hh at *;go_enter func136,ntmps136;go_wp2_with fail
   refine(HN.o _).mono ?_;rintro e w1 ⟨rfl,rfl⟩;go_wp2_with fail
   refine(HK.o _).mono ?_;rintro e w1 ⟨rfl,rfl⟩;go_wp2_with fail
   refine(Y.o _).mono ?_;rintro e w1 ⟨rfl,rfl⟩;go_wp2_with fail
   refine(E.o _).mono ?_;rintro e w1 ⟨rfl,rfl⟩;go_wp2;go_ret;exact⟨rfl,grow_⟩
  |true=>
   have E:=hid (ac.o _ o);replace g:Hid (F=(ZB_ x.kind x.text&&(!(x.blank&&!GC_ x.kind)&&(JM_ k x.kids&&Q4_ (Xc_ ps x) x.kids)))):=(show _=_ by rw[g.o,o,Bool.true_and]);clear o ac;have HT:=hid (fun(v:Bool) (h:ZB_ x.kind x.text=v) W=>show Calls prog 170 #[.int .i64 x.kind,.string x.text] W fun e w'=>e=.returned (.bool v)/\Below W.heap.size W w' by rw[<-h];exact je_ x.kind x.text W oo);generalize QW_ x.kind=lo at *;generalize QT_ x.kind=hh at *
   cases ht:ZB_ x.kind x.text with
   |false=>
    have l:F=false:=(by rw[g.o,ht];rfl);subst l;have ae:=hid (HT.o _ ht);clear g ht HT;go_enter func136,ntmps136;go_wp2_with fail
    refine(HN.o _).mono ?_;rintro e w1 ⟨rfl,rfl⟩;go_wp2_with fail
    refine(HK.o _).mono ?_;rintro e w1 ⟨rfl,rfl⟩;go_wp2_with fail
    refine(Y.o _).mono ?_;rintro e w1 ⟨rfl,rfl⟩;go_wp2_with fail
    refine(E.o _).mono ?_;rintro e w1 ⟨rfl,rfl⟩;go_wp2_with fail
    refine(ae.o _).mono ?_;rintro e w2 ⟨rfl,h2⟩;go_wp2;go_ret;exact⟨rfl,Z7_ h2⟩
   |true=>
    have ae:=hid (HT.o _ ht);replace g:Hid (F=(!(x.blank&&!GC_ x.kind)&&(JM_ k x.kids&&Q4_ (Xc_ ps x) x.kids))):=(show _=_ by rw[g.o,ht,Bool.true_and]);clear ht HT;go_enter func136,ntmps136;go_wp2_with fail
    refine(HN.o _).mono ?_;rintro e w1 ⟨rfl,rfl⟩;go_wp2_with fail
    refine(HK.o _).mono ?_;rintro e w1 ⟨rfl,rfl⟩;go_wp2_with fail
    refine(Y.o _).mono ?_;rintro e w1 ⟨rfl,rfl⟩;go_wp2_with fail
    refine(E.o _).mono ?_;rintro e w1 ⟨rfl,rfl⟩;go_wp2_with fail
    refine(ae.o _).mono ?_;rintro e w2 ⟨rfl,h2⟩;have K:=Blk.fresh h2;have a:=Z7_ h2;clear h2 x0 x1 x2 x3 aA HN HK Y E ae;have k0:=K.q0;have k2:=K.q2;have k3:=K.q3;have kz:=K.lt;go_upto_region 7 with fail
    go_cut [69] (fun s wx=>s=.bool (x.blank&&!GC_ x.kind)/\Blk wx w.heap.size 36 #[.int .i64 x.kind,.string x.text,.slice A2 x.kids.length c2,.bool x.blank]/\Below w.heap.size w wx)
    case first=>
     have HS:=hid (fun(u:Bool) (h:Xf_ x.kind=u) (W:World)=>show Calls prog 171 #[.int .i64 x.kind] W fun e w'=>e=.returned (.bool u)/\W=w' by rw[<-h];exact Ub_ _ W);have L:=hid (QfV_ x.kind);clear g
     cases P:x.blank with
     |false=>
      rw[P]at k3;clear HS L;go_wp2;go_meet
      case rel=>exact⟨by rw[P,Bool.false_and],K,a⟩
     |true=>
      rw[P]at k3
      cases hs:Xf_ x.kind with
      |true=>
       have ad:=hid (HS.o _ hs);have hm:=hid (show GC_ x.kind=true by rw[L.o,hs];rfl);clear HS hs L;go_wp2_with fail
       refine(ad.o _).mono ?_;rintro e w1 ⟨rfl,rfl⟩;go_wp2;go_meet
       case rel=>exact⟨by rw[P,hm.o];rfl,K,a⟩
      |false=>
       have ad:=hid (HS.o _ hs)
       cases O:(x.kind==20)with
       |true=>
        have hm:=hid (show GC_ x.kind=true by rw[L.o,O];simp);have ay:(x.kind != 20)=false:=(by unfold bne;rw[O];rfl);clear HS hs L O;go_wp2_with fail
        refine(ad.o _).mono ?_;rintro e w1 ⟨rfl,rfl⟩;go_wp2;go_meet
        case rel=>exact⟨by rw[P,hm.o];rfl,K,a⟩
       |false=>
        have hm:=hid (show(!GC_ x.kind)=(x.kind != 21)by rw[L.o,hs,O];rfl);have ay:(x.kind != 20)=true:=(by unfold bne;rw[O];rfl);clear HS hs L O;go_wp2_with fail
        refine(ad.o _).mono ?_;rintro e w1 ⟨rfl,rfl⟩;go_wp2;go_meet
        case rel=>exact⟨by rw[P,hm.o];rfl,K,a⟩
    case rest=>
     clear K a k0 k2 k3 kz;obtain⟨rfl,K,a⟩:=hcut;generalize a0:(x.blank&&!GC_ x.kind)=bm at g |-
     clear a0
     cases bm with
     |true=>
      have l:F=false:=g.o;subst l;go_wp2;go_ret;exact⟨rfl,a⟩
     |false=>
      replace g:Hid (F=(JM_ k x.kids&&Q4_ (Xc_ ps x) x.kids)):=(show _=_ by rw[g.o];rfl);have H:=hid (fun h3:JM_ k x.kids=false=>show F=false by rw[g.o,h3];rfl);have N:=hid (fun h3:JM_ k x.kids=true=>show F=Q4_ (Xc_ ps x) x.kids by rw[g.o,h3];rfl);clear g;go_wp2;go_loopw [8] (fun i wr=>∃t:Nat,t<=x.kids.length/\i=.int .i64 t/\Hid (AllI (Ul_ k x.kids) x.kids t)/\Blk wr w.heap.size 36 #[.int .i64 x.kind,.string x.text,.slice A2 x.kids.length c2,.bool x.blank]/\Below w.heap.size w wr) (fun i _=>x.kids.length - (intOf i).toNat)
      case atStart=>exact⟨0,Nat.zero_le _,rfl,Jn_ _ _,K,a⟩
      case round=>
       clear K a;obtain⟨t,a2,rfl,D,K,a⟩:=hrel;have kz:=K.lt;have k2:=K.q2;by_cases J:t < x.kids.length
       ·obtain⟨v,hd⟩:∃d,x.kids[t]? =some d:=⟨_,List.getElem?_eq_getElem J⟩;obtain⟨b5,ai,rfl,T,cv⟩:=Ql_ (af.o.below a) J hd;have HI:=hid (fun(u:Bool) (h:inB v 0 ((k:Int) - 1)=u) W=>Kh_ h W)
        cases p:inB v 0 ((k:Int) - 1)with
        |false=>
         have l:F=false:=H.o (Zv_ hd (vv_ p));subst l;have C:=hid (HI.o _ p);clear hd N H p D HI;go_wp2_with fail
         refine(C.o _).mono ?_;rintro e w1 ⟨rfl,rfl⟩;go_wp2;go_ret;exact⟨rfl,a⟩
        |true=>
         have C:=hid (HI.o _ p);have R:=hid hd;have av:=hid p;clear hd HI p;go_wp2_with fail
         refine(C.o _).mono ?_;rintro e w1 ⟨rfl,rfl⟩;go_wp2;clear C;go_loopw [9] (fun i w2=>∃s:Nat,s<=t/\i=.int .i64 s/\Hid ((x.kids.take s).contains v=false)/\Blk w2 w.heap.size 36 #[.int .i64 x.kind,.string x.text,.slice (some ⟨b5,ai,none⟩) x.kids.length c2,.bool x.blank]/\Below w.heap.size w w2) (fun i _=>t - (intOf i).toNat)
         case atStart=>exact⟨0,Nat.zero_le _,rfl,(show _=_ by simp),K,a⟩
         case round=>
          clear K a kz k2 cv T;obtain⟨s,bc,rfl,Y,K,a⟩:=hrel;have kz:=K.lt;have k2:=K.q2;by_cases aB:s < t
          ·obtain⟨u,hu⟩:∃d,x.kids[s]? =some d:=⟨_,gE oo⟩;obtain⟨b6,a9,e6,aY,cu⟩:=Ql_ (af.o.below a) oo hu;injection e6 with e6;injection e6 with e61 e62;subst e61;subst e62;obtain⟨b7,ba,e7,aZ,cv⟩:=Ql_ (af.o.below a) J R.o;injection e7 with e7;injection e7 with e71 e72;subst e71;subst e72;have gs:(s:Int) < x.kids.length:=oo;have gt:(t:Int) < x.kids.length:=oo
           cases U:(v==u)with
           |true=>
            have l:F=false:=H.o (Zv_ R.o (kP_ (by
             rw[List.contains_iff_exists_mem_beq];exact⟨u,List.mem_of_getElem? (i:=s) (by rw[List.getElem?_take,if_pos aB];exact hu),U⟩)))
            subst l;rw[beq_iff_eq]at U;subst U;clear N H D Y hu;go_wp2;go_quiet (fail);go_wp2;go_ret;exact⟨rfl,grow_⟩
           |false=>
            have aK:Hid ((x.kids.take (s+1)).contains v=false):=(show _=_ by
             rw[List.take_add_one,hu];have:=Y.o;simp only[List.contains_eq_mem]at this |-
             simp at this U |-
             exact⟨this,U⟩)
            clear N H D Y hu;go_wp2;go_quiet (fail);go_wp2;go_roundw
            case rel=>exact⟨s+1,oo,by go_num,aK,K,grow_⟩
            case measure=>simp[intOf];omega
          ·obtain rfl:s=t:=oo;have S:=hid (XB_ D.o R.o (kQ_ av.o Y.o));clear N H D Y;go_wp2;go_roundw
           case rel=>exact⟨s+1,oo,by go_num,S,K,a⟩
           case measure=>simp[intOf];omega
       ·obtain rfl:t=x.kids.length:=oo;have al:=Ut_ D.o (Nat.le_refl _);have m:=hid (N.o al);have aL:Hid (∀v∈x.kids,0<=v/\v < (n:Int)):=(show ∀v∈x.kids,_ from fun v hv=>by
         obtain⟨j,hj⟩:=List.mem_iff_getElem?.1 hv;have h1:=Z3_ al hj;unfold Ul_ at h1;rw[Bool.and_eq_true]at h1;have h2:=of_decide_eq_true h1.1;exact⟨h2.1,oo⟩)
        clear N H D al;go_wp2;go_loopw [10] (fun i wr=>∃t:Nat,t<=x.kids.length/\i=.int .i64 t/\Hid (AllI (Xc_ ps x) x.kids t)/\Blk wr w.heap.size 36 #[.int .i64 x.kind,.string x.text,.slice A2 x.kids.length c2,.bool x.blank]/\Below w.heap.size w wr) (fun i _=>x.kids.length - (intOf i).toNat)
        case atStart=>exact⟨0,Nat.zero_le _,rfl,Jn_ _ _,K,a⟩
        case round=>
         clear K a kz k2;obtain⟨t,a2,rfl,D,K,a⟩:=hrel;have kz:=K.lt;have k2:=K.q2;by_cases J:t < x.kids.length
         ·obtain⟨v,hd⟩:∃d,x.kids[t]? =some d:=⟨_,List.getElem?_eq_getElem J⟩;have hv:=aL.o v (List.mem_of_getElem? hd);obtain⟨q,rfl⟩:=Int.eq_ofNat_of_zero_le hv.1;have am:q < n:=oo;have g0:(0:Int)<=(q:Int):=oo;have g1:(q:Int) < n:=oo;have gt:(t:Int) < x.kids.length:=oo;obtain⟨b5,ai,rfl,T,cv⟩:=Ql_ (af.o.below a) J hd;obtain⟨y,hy⟩:=HP.o.get am;obtain⟨b3,a7,A3,c3,e3,aV,y0,y1,y2,y3,M⟩:=(HP.o.below a).at_ am hy;injection e3 with e3;injection e3 with e31 e32;subst e31;subst e32;have bf:=(hb.o y (List.mem_of_getElem? hy)).2;have HY:=hid hy;have R:=hid hd;have Z:=hid (fun(f:y.kind=5->∃(r:Nat) (js:LI),y.kids=(r:Int)::js/\r < n) (u:Bool) (h:Y1_ ps x.kind x.kids.length t (q:Int)=u) (W:World) (hW:Below w.heap.size w W)=>show Calls prog 172 #[.slice (some ⟨b,off,none⟩) n c,.int .i64 k,.int .i64 t] W fun e w'=>e=.returned (.bool u)/\Below W.heap.size W w' by rw[<-h];exact jd_ _ n c ps k t x y q W hn (HP.o.below hW) hb hk HX J R am HY f aM.o);have z:Below w.heap.size w (wr.alloc (.cells #[.int .i64 y.kind,.string y.text,.slice A3 y.kids.length c3,.bool y.blank] 36)):=grow_;clear hv hy hd;by_cases h5:y.kind=5
          ·cases B:y.kids with
           |nil=>
            have l:F=false:=(by rw[m.o];exact Zv_ R.o (by unfold Xc_;rw[xW_ HY.o h5 B];rfl));subst l;rw[B]at y2;rw[h5]at y0;clear m D Z M B z;go_wp2;go_ret;exact⟨rfl,grow_⟩
           |cons j js=>
            have a4:0 < y.kids.length:=(by rw[B];simp);have ah:y.kids[0]? =some j:=(by rw[B];rfl);obtain⟨b4,a8,rfl,aX,cj⟩:=Ql_ M a4 ah;simp only[Nat.add_zero]at cj;have i1:((y.kids.length:Int)==0)=false:=(by rw[beq_eq_false_iff_ne];omega);have i2:(0:Int) < y.kids.length:=oo;have HI:=hid (fun(u:Bool) (h:inB j 0 ((n:Int) - 1)=u) W=>Kh_ h W);have o:=xX_ HY.o h5 B;rw[HL.o]at o;have az:=h5;rw[h5]at y0
            cases p:inB j 0 ((n:Int) - 1)with
            |false=>
             have l:F=false:=(by rw[m.o];exact Zv_ R.o (by unfold Xc_;rw[o,p];rfl));subst l;have C:=hid (HI.o _ p);clear m D Z M B z HI p o ah;go_wp2_with fail
             refine(C.o _).mono ?_;rintro e w1 ⟨rfl,rfl⟩;go_wp2;go_ret;exact⟨rfl,grow_⟩
            |true=>
             have ak:=of_decide_eq_true p;have C:=hid (HI.o _ p);have f:y.kind=5->∃(r:Nat) (js:LI),y.kids=(r:Int)::js/\r < n:=fun _=>by
              obtain⟨r,hr⟩:=Int.eq_ofNat_of_zero_le ak.1;exact⟨r,js,by rw[B,hr],oo⟩
             cases Q:Y1_ ps x.kind x.kids.length t (q:Int)with
             |false=>
              have l:F=false:=(by rw[m.o];exact Zv_ R.o (by unfold Xc_;rw[Q,Bool.and_false]));subst l;have G:=hid (Z.o f _ Q);clear m D Z M B HI p o ah ak f Q;go_wp2_with fail
              refine(C.o _).mono ?_;rintro e w1 ⟨rfl,rfl⟩;rw[az]at z;go_wp2_with fail
              refine(G.o _ z).mono ?_;rintro e w6 ⟨rfl,h6⟩;go_wp2;go_ret;exact⟨rfl,Qb_ z h6⟩
             |true=>
              have S:=hid (XB_ D.o R.o (by unfold Xc_;rw[o,p,Q];rfl));have G:=hid (Z.o f _ Q);clear m D Z M B HI p o ah ak f Q;go_wp2_with fail
              refine(C.o _).mono ?_;rintro e w1 ⟨rfl,rfl⟩;rw[az]at z;go_wp2_with fail
              refine(G.o _ z).mono ?_;rintro e w6 ⟨rfl,h6⟩;have K6:=(K.alloc _).next h6;go_wp2;go_roundw
              case rel=>exact⟨t+1,oo,by go_num,S,K6,Qb_ z h6⟩
              case measure=>simp[intOf];omega
          ·have e5:(y.kind==5)=false:=(by rw[beq_eq_false_iff_ne];exact h5);have o:=kh_ HY.o h5;have f:y.kind=5->∃(r:Nat) (js:LI),y.kids=(r:Int)::js/\r < n:=fun h=>absurd h h5
           cases Q:Y1_ ps x.kind x.kids.length t (q:Int)with
           |false=>
            have l:F=false:=(by rw[m.o];exact Zv_ R.o (by unfold Xc_;rw[Q,Bool.and_false]));subst l;have G:=hid (Z.o f _ Q);clear m D Z M o f Q h5;go_wp2_with fail
            refine(G.o _ z).mono ?_;rintro e w6 ⟨rfl,h6⟩;go_wp2;go_ret;exact⟨rfl,Qb_ z h6⟩
           |true=>
            have S:=hid (XB_ D.o R.o (by unfold Xc_;rw[o,Q];rfl));have G:=hid (Z.o f _ Q);clear m D Z M o f Q h5;go_wp2_with fail
            refine(G.o _ z).mono ?_;rintro e w6 ⟨rfl,h6⟩;have K6:=(K.alloc _).next h6;go_wp2;go_roundw
            case rel=>exact⟨t+1,oo,by go_num,S,K6,Qb_ z h6⟩
            case measure=>simp[intOf];omega
         ·obtain rfl:t=x.kids.length:=oo;have l:F=true:=(by rw[m.o];exact Ut_ D.o (Nat.le_refl _));subst l;clear m D;go_wp2;go_ret;exact⟨rfl,a⟩
theorem QbG_ (p q:Nat->Int->Bool) (l:LI):(Q4_ p l&&Q4_ q l)=Q4_ (fun i v=>p i v&&q i v) l:=by
 cases h:Q4_ (fun i v=>p i v&&q i v) l with
 |true=>
  have h1:Q4_ p l=true:=XA_ (fun j x a=>by have:=Z3_ h a;simp only[Bool.and_eq_true]at this;exact this.1);have b:Q4_ q l=true:=XA_ (fun j x a=>by have:=Z3_ h a;simp only[Bool.and_eq_true]at this;exact this.2);rw[h1,b];rfl
 |false=>
  cases h1:Q4_ p l with
  |false=>rfl
  |true=>
   cases b:Q4_ q l with
   |false=>rfl
   |true=>
    rw[XA_ (fun j x a=>by simp only[Bool.and_eq_true];exact⟨Z3_ h1 a,Z3_ b a⟩)]at h
    cases h
theorem z5_ {a b:Bool} (h:a=true↔b=true):a=b:=by
 cases a<;>cases b<;>simp at h |-
theorem UK_ {p:Nat->Int->Bool} {l:LI}:Q4_ p l=true↔∀j x,l[j]? =some x->p j x=true:=⟨fun h j x hx=>Z3_ h hx,XA_⟩
section
variable {ps:List PN} {kids:LI}
theorem Kc_ (ps:List PN) (kids:LI):(Qg_ ps kids).length=kids.length:=by unfold Qg_;rw[List.length_map]
theorem KI_ (p:Int->Bool):(Qg_ ps kids).all p=Q4_ (fun i v=>p (Qs_ ps v)) kids:=by
 apply z5_;rw[UK_,List.all_eq_true];unfold Qg_;constructor
 ·intro h j x a;exact h _ (List.mem_map.2 ⟨x,List.mem_of_getElem? a,rfl⟩)
 ·intro h y hy;obtain⟨x,a,rfl⟩:=List.mem_map.1 hy;obtain⟨j,hj⟩:=List.mem_iff_getElem?.1 a;exact h j x hj
theorem Y6_ (ps:List PN) (kids:LI) (j:Nat):(Qg_ ps kids)[j]? =(kids[j]?).map (Qs_ ps):=by unfold Qg_;rw[List.getElem?_map]
theorem QbI_ {l:LI} {p:Int->Bool}:l.all p=true↔∀(j:Nat) x,l[j]? =some x->p x=true:=by
 rw[List.all_eq_true];constructor
 ·intro h j x a;exact h x (List.mem_of_getElem? a)
 ·intro h x a;obtain⟨j,hj⟩:=List.mem_iff_getElem?.1 a;exact h j x hj
theorem Gu_ (p q:Int->Bool) (h:1<=kids.length):(VF_ p (Qg_ ps kids)&&((Qg_ ps kids).drop 1).all q)=Q4_ (fun i v=>if 0 < i then q (Qs_ ps v)else p (Qs_ ps v)) kids:=by
 match kids,h with
 |x::r,_=>
  have e0:VF_ p (Qg_ ps (x::r))=p (Qs_ ps x):=rfl;rw[e0];apply z5_;rw[UK_,Bool.and_eq_true,QbI_];constructor
  ·rintro⟨h1,h2⟩ j v a
   cases j with
   |zero=>simp at a;subst a;simpa using h1
   |succ j=>
    simp only[Nat.zero_lt_succ,if_true];refine h2 j _ ?_;rw[List.getElem?_drop,Y6_,Nat.add_comm 1 j,a];rfl
  ·intro h;refine⟨by simpa using h 0 x rfl,fun j v a=>?_⟩;rw[List.getElem?_drop,Y6_,Nat.add_comm 1 j]at a;obtain⟨u,hu,rfl⟩:=Option.map_eq_some_iff.1 a;have:=h (j+1) u hu;simpa using this
theorem zx_ (p:Int->Bool) (h:1<=kids.length):VG_ p (Qg_ ps kids)=Q4_ (fun i v=>if i+1 < kids.length then isK 1 (Qs_ ps v)else p (Qs_ ps v)) kids:=by
 obtain⟨m,hm⟩:∃m,kids.length=m+1:=⟨kids.length - 1,oo⟩;obtain⟨x,b⟩:∃x,kids[m]? =some x:=⟨_,gE oo⟩;rw[Vr_ (m:=m) (x:=Qs_ ps x) (by rw[Kc_];exact hm) (by rw[Y6_,b];rfl)];apply z5_;rw[UK_,Bool.and_eq_true,QbI_];constructor
 ·rintro⟨h1,h2⟩ j v a;have c:=(List.getElem?_eq_some_iff.1 a).1;by_cases hj:j+1 < kids.length
  ·rw[if_pos hj];refine h2 j _ ?_;rw[List.getElem?_take,if_pos oo,Y6_,a];rfl
  ·rw[if_neg hj];obtain rfl:j=m:=oo;rw[b]at a;obtain rfl:=Option.some.inj a;exact h1
 ·intro h;refine⟨?_,fun j v a=>?_⟩
  ·have:=h m x b;rwa[if_neg oo]at this
  ·rw[List.getElem?_take]at a;split at a
   ·rename_i d;rw[Y6_]at a;obtain⟨u,hu,rfl⟩:=Option.map_eq_some_iff.1 a;have:=h j u hu;rwa[if_pos oo]at this
   ·cases a
end
def kfF (kind:Int) (n i:Nat) (y:Int):Bool:=
 if kind=9 then (if i+1 < n then isK 1 y else Qj_ y)
 else if kind=20 then (if i+1 < n then isK 1 y else isK 18 y)
 else if kind=10 then (if 0 < i then isK 5 y else Qj_ y)
 else if kind=16\/kind=17 then (if 0 < i then isK 18 y else Qj_ y)
 else if kind=18 then Xf_ y
 else if kind=21 then Q6_ y
 else if kind=22 then jU_ y
 else Qj_ y
section
variable {ps:List PN} {kids:LI}
theorem QgO_ (hn:kids.length<=12):kfB 1 (Qg_ ps kids)=(inB (kids.length:Int) (QW_ 1) (QT_ 1)&&Q4_ (fun i v=>kfF 1 kids.length i (Qs_ ps v)) kids):=by
 have e2:inB (kids.length:Int) (QW_ 1) (QT_ 1)=decide (kids.length=0):=by
  show decide ((0:Int)<=kids.length/\(kids.length:Int)<=0)=decide (kids.length=0);exact decide_eq_decide.2 oo
 rw[e2,show kfB 1 (Qg_ ps kids)=decide ((Qg_ ps kids).length=0)from rfl,Kc_];by_cases h:kids.length=0
 ·have:kids=[]:=List.eq_nil_of_length_eq_zero h;subst this;rfl
 ·rw[decide_eq_false h,Bool.false_and]
theorem QgP_ (hn:kids.length<=12):kfB 2 (Qg_ ps kids)=(inB (kids.length:Int) (QW_ 2) (QT_ 2)&&Q4_ (fun i v=>kfF 2 kids.length i (Qs_ ps v)) kids):=by
 have e2:inB (kids.length:Int) (QW_ 2) (QT_ 2)=decide (kids.length=0):=by
  show decide ((0:Int)<=kids.length/\(kids.length:Int)<=0)=decide (kids.length=0);exact decide_eq_decide.2 oo
 rw[e2,show kfB 2 (Qg_ ps kids)=decide ((Qg_ ps kids).length=0)from rfl,Kc_];by_cases h:kids.length=0
 ·have:kids=[]:=List.eq_nil_of_length_eq_zero h;subst this;rfl
 ·rw[decide_eq_false h,Bool.false_and]
theorem QgQ_ (hn:kids.length<=12):kfB 3 (Qg_ ps kids)=(inB (kids.length:Int) (QW_ 3) (QT_ 3)&&Q4_ (fun i v=>kfF 3 kids.length i (Qs_ ps v)) kids):=by
 have e2:inB (kids.length:Int) (QW_ 3) (QT_ 3)=decide (kids.length=0):=by
  show decide ((0:Int)<=kids.length/\(kids.length:Int)<=0)=decide (kids.length=0);exact decide_eq_decide.2 oo
 rw[e2,show kfB 3 (Qg_ ps kids)=decide ((Qg_ ps kids).length=0)from rfl,Kc_];by_cases h:kids.length=0
 ·have:kids=[]:=List.eq_nil_of_length_eq_zero h;subst this;rfl
 ·rw[decide_eq_false h,Bool.false_and]
theorem QgR_ (hn:kids.length<=12):kfB 4 (Qg_ ps kids)=(inB (kids.length:Int) (QW_ 4) (QT_ 4)&&Q4_ (fun i v=>kfF 4 kids.length i (Qs_ ps v)) kids):=by
 have e2:inB (kids.length:Int) (QW_ 4) (QT_ 4)=decide (True):=by
  show decide ((0:Int)<=kids.length/\(kids.length:Int)<=12)=decide (True);exact decide_eq_decide.2 ⟨fun _=>trivial,fun _=>oo⟩
 rw[e2,show kfB 4 (Qg_ ps kids)=(Qg_ ps kids).all Qj_ from rfl,KI_,decide_true,Bool.true_and]
 rfl
theorem QgS_ (hn:kids.length<=12):kfB 5 (Qg_ ps kids)=(inB (kids.length:Int) (QW_ 5) (QT_ 5)&&Q4_ (fun i v=>kfF 5 kids.length i (Qs_ ps v)) kids):=by
 have e2:inB (kids.length:Int) (QW_ 5) (QT_ 5)=decide (1<=kids.length):=by
  show decide ((1:Int)<=kids.length/\(kids.length:Int)<=12)=decide (1<=kids.length);exact decide_eq_decide.2 oo
 rw[e2,show kfB 5 (Qg_ ps kids)=(decide (1<=(Qg_ ps kids).length)&&(Qg_ ps kids).all Qj_)from rfl,Kc_,KI_]
 rfl
theorem QgT_ (hn:kids.length<=12):kfB 6 (Qg_ ps kids)=(inB (kids.length:Int) (QW_ 6) (QT_ 6)&&Q4_ (fun i v=>kfF 6 kids.length i (Qs_ ps v)) kids):=by
 have e2:inB (kids.length:Int) (QW_ 6) (QT_ 6)=decide (kids.length=1):=by
  show decide ((1:Int)<=kids.length/\(kids.length:Int)<=1)=decide (kids.length=1);exact decide_eq_decide.2 oo
 rw[e2,show kfB 6 (Qg_ ps kids)=(decide ((Qg_ ps kids).length=1)&&(Qg_ ps kids).all Qj_)from rfl,Kc_,KI_]
 rfl
theorem QgU_ (hn:kids.length<=12):kfB 7 (Qg_ ps kids)=(inB (kids.length:Int) (QW_ 7) (QT_ 7)&&Q4_ (fun i v=>kfF 7 kids.length i (Qs_ ps v)) kids):=by
 have e2:inB (kids.length:Int) (QW_ 7) (QT_ 7)=decide (2<=kids.length):=by
  show decide ((2:Int)<=kids.length/\(kids.length:Int)<=12)=decide (2<=kids.length);exact decide_eq_decide.2 oo
 rw[e2,show kfB 7 (Qg_ ps kids)=(decide (2<=(Qg_ ps kids).length)&&(Qg_ ps kids).all Qj_)from rfl,Kc_,KI_]
 rfl
theorem QgV_ (hn:kids.length<=12):kfB 8 (Qg_ ps kids)=(inB (kids.length:Int) (QW_ 8) (QT_ 8)&&Q4_ (fun i v=>kfF 8 kids.length i (Qs_ ps v)) kids):=by
 have e2:inB (kids.length:Int) (QW_ 8) (QT_ 8)=decide (kids.length=3):=by
  show decide ((3:Int)<=kids.length/\(kids.length:Int)<=3)=decide (kids.length=3);exact decide_eq_decide.2 oo
 rw[e2,show kfB 8 (Qg_ ps kids)=(decide ((Qg_ ps kids).length=3)&&(Qg_ ps kids).all Qj_)from rfl,Kc_,KI_]
 rfl
theorem QgX_ (hn:kids.length<=12):kfB 9 (Qg_ ps kids)=(inB (kids.length:Int) (QW_ 9) (QT_ 9)&&Q4_ (fun i v=>kfF 9 kids.length i (Qs_ ps v)) kids):=by
 have e2:inB (kids.length:Int) (QW_ 9) (QT_ 9)=decide (1<=kids.length):=by
  show decide ((1:Int)<=kids.length/\(kids.length:Int)<=12)=decide (1<=kids.length);exact decide_eq_decide.2 oo
 rw[e2,show kfB 9 (Qg_ ps kids)=VG_ Qj_ (Qg_ ps kids)from rfl];by_cases h:1<=kids.length
 ·rw[zx_ _ h,decide_eq_true h,Bool.true_and]
  rfl
 ·have:kids=[]:=List.eq_nil_of_length_eq_zero oo;subst this;rfl
theorem Qfq_ (hn:kids.length<=12):kfB 10 (Qg_ ps kids)=(inB (kids.length:Int) (QW_ 10) (QT_ 10)&&Q4_ (fun i v=>kfF 10 kids.length i (Qs_ ps v)) kids):=by
 have e2:inB (kids.length:Int) (QW_ 10) (QT_ 10)=decide (2<=kids.length):=by
  show decide ((2:Int)<=kids.length/\(kids.length:Int)<=12)=decide (2<=kids.length);exact decide_eq_decide.2 oo
 rw[e2,show kfB 10 (Qg_ ps kids)=(decide (2<=(Qg_ ps kids).length)&&VF_ Qj_ (Qg_ ps kids)&&((Qg_ ps kids).drop 1).all (isK 5))from rfl,Kc_,Bool.and_assoc];by_cases h:1<=kids.length
 ·rw[Gu_ _ _ h]
  rfl
 ·rw[decide_eq_false oo,Bool.false_and,Bool.false_and]
theorem Qfr_ (hn:kids.length<=12):kfB 11 (Qg_ ps kids)=(inB (kids.length:Int) (QW_ 11) (QT_ 11)&&Q4_ (fun i v=>kfF 11 kids.length i (Qs_ ps v)) kids):=by
 have e2:inB (kids.length:Int) (QW_ 11) (QT_ 11)=decide (kids.length=1):=by
  show decide ((1:Int)<=kids.length/\(kids.length:Int)<=1)=decide (kids.length=1);exact decide_eq_decide.2 oo
 rw[e2,show kfB 11 (Qg_ ps kids)=(decide ((Qg_ ps kids).length=1)&&(Qg_ ps kids).all Qj_)from rfl,Kc_,KI_]
 rfl
theorem Qfs_ (hn:kids.length<=12):kfB 12 (Qg_ ps kids)=(inB (kids.length:Int) (QW_ 12) (QT_ 12)&&Q4_ (fun i v=>kfF 12 kids.length i (Qs_ ps v)) kids):=by
 have e2:inB (kids.length:Int) (QW_ 12) (QT_ 12)=decide (kids.length<=1):=by
  show decide ((0:Int)<=kids.length/\(kids.length:Int)<=1)=decide (kids.length<=1);exact decide_eq_decide.2 oo
 rw[e2,show kfB 12 (Qg_ ps kids)=(decide ((Qg_ ps kids).length<=1)&&(Qg_ ps kids).all Qj_)from rfl,Kc_,KI_]
 rfl
theorem Qft_ (hn:kids.length<=12):kfB 13 (Qg_ ps kids)=(inB (kids.length:Int) (QW_ 13) (QT_ 13)&&Q4_ (fun i v=>kfF 13 kids.length i (Qs_ ps v)) kids):=by
 have e2:inB (kids.length:Int) (QW_ 13) (QT_ 13)=decide (kids.length=1):=by
  show decide ((1:Int)<=kids.length/\(kids.length:Int)<=1)=decide (kids.length=1);exact decide_eq_decide.2 oo
 rw[e2,show kfB 13 (Qg_ ps kids)=(decide ((Qg_ ps kids).length=1)&&(Qg_ ps kids).all Qj_)from rfl,Kc_,KI_]
 rfl
theorem Qfv_ (hn:kids.length<=12):kfB 14 (Qg_ ps kids)=(inB (kids.length:Int) (QW_ 14) (QT_ 14)&&Q4_ (fun i v=>kfF 14 kids.length i (Qs_ ps v)) kids):=by
 have e2:inB (kids.length:Int) (QW_ 14) (QT_ 14)=decide (kids.length=1):=by
  show decide ((1:Int)<=kids.length/\(kids.length:Int)<=1)=decide (kids.length=1);exact decide_eq_decide.2 oo
 rw[e2,show kfB 14 (Qg_ ps kids)=(decide ((Qg_ ps kids).length=1)&&(Qg_ ps kids).all Qj_)from rfl,Kc_,KI_]
 rfl
theorem Qfx_ (hn:kids.length<=12):kfB 15 (Qg_ ps kids)=(inB (kids.length:Int) (QW_ 15) (QT_ 15)&&Q4_ (fun i v=>kfF 15 kids.length i (Qs_ ps v)) kids):=by
 have e2:inB (kids.length:Int) (QW_ 15) (QT_ 15)=decide (kids.length<=1):=by
  show decide ((0:Int)<=kids.length/\(kids.length:Int)<=1)=decide (kids.length<=1);exact decide_eq_decide.2 oo
 rw[e2,show kfB 15 (Qg_ ps kids)=(decide ((Qg_ ps kids).length<=1)&&(Qg_ ps kids).all Qj_)from rfl,Kc_,KI_]
 rfl
theorem Qfy_ (hn:kids.length<=12):kfB 16 (Qg_ ps kids)=(inB (kids.length:Int) (QW_ 16) (QT_ 16)&&Q4_ (fun i v=>kfF 16 kids.length i (Qs_ ps v)) kids):=by
 have e2:inB (kids.length:Int) (QW_ 16) (QT_ 16)=decide (2<=kids.length/\kids.length<=3):=by
  show decide ((2:Int)<=kids.length/\(kids.length:Int)<=3)=decide (2<=kids.length/\kids.length<=3);exact decide_eq_decide.2 oo
 rw[e2,show kfB 16 (Qg_ ps kids)=(decide (2<=(Qg_ ps kids).length/\(Qg_ ps kids).length<=3)&&VF_ Qj_ (Qg_ ps kids)&&((Qg_ ps kids).drop 1).all (isK 18))from rfl,Kc_,Bool.and_assoc];by_cases h:1<=kids.length
 ·rw[Gu_ _ _ h]
  rfl
 ·rw[decide_eq_false oo,Bool.false_and,Bool.false_and]
theorem Qfz_ (hn:kids.length<=12):kfB 17 (Qg_ ps kids)=(inB (kids.length:Int) (QW_ 17) (QT_ 17)&&Q4_ (fun i v=>kfF 17 kids.length i (Qs_ ps v)) kids):=by
 have e2:inB (kids.length:Int) (QW_ 17) (QT_ 17)=decide (kids.length=2):=by
  show decide ((2:Int)<=kids.length/\(kids.length:Int)<=2)=decide (kids.length=2);exact decide_eq_decide.2 oo
 rw[e2,show kfB 17 (Qg_ ps kids)=(decide ((Qg_ ps kids).length=2)&&VF_ Qj_ (Qg_ ps kids)&&((Qg_ ps kids).drop 1).all (isK 18))from rfl,Kc_,Bool.and_assoc];by_cases h:1<=kids.length
 ·rw[Gu_ _ _ h]
  rfl
 ·rw[decide_eq_false oo,Bool.false_and,Bool.false_and]
theorem QfA_ (hn:kids.length<=12):kfB 18 (Qg_ ps kids)=(inB (kids.length:Int) (QW_ 18) (QT_ 18)&&Q4_ (fun i v=>kfF 18 kids.length i (Qs_ ps v)) kids):=by
 have e2:inB (kids.length:Int) (QW_ 18) (QT_ 18)=decide (True):=by
  show decide ((0:Int)<=kids.length/\(kids.length:Int)<=12)=decide (True);exact decide_eq_decide.2 ⟨fun _=>trivial,fun _=>oo⟩
 rw[e2,show kfB 18 (Qg_ ps kids)=(Qg_ ps kids).all Xf_ from rfl,KI_,decide_true,Bool.true_and]
 rfl
theorem QfB_ (hn:kids.length<=12):kfB 19 (Qg_ ps kids)=(inB (kids.length:Int) (QW_ 19) (QT_ 19)&&Q4_ (fun i v=>kfF 19 kids.length i (Qs_ ps v)) kids):=by
 have e2:inB (kids.length:Int) (QW_ 19) (QT_ 19)=decide (kids.length=0):=by
  show decide ((0:Int)<=kids.length/\(kids.length:Int)<=0)=decide (kids.length=0);exact decide_eq_decide.2 oo
 rw[e2,show kfB 19 (Qg_ ps kids)=decide ((Qg_ ps kids).length=0)from rfl,Kc_];by_cases h:kids.length=0
 ·have:kids=[]:=List.eq_nil_of_length_eq_zero h;subst this;rfl
 ·rw[decide_eq_false h,Bool.false_and]
theorem QfC_ (hn:kids.length<=12):kfB 20 (Qg_ ps kids)=(inB (kids.length:Int) (QW_ 20) (QT_ 20)&&Q4_ (fun i v=>kfF 20 kids.length i (Qs_ ps v)) kids):=by
 have e2:inB (kids.length:Int) (QW_ 20) (QT_ 20)=decide (1<=kids.length):=by
  show decide ((1:Int)<=kids.length/\(kids.length:Int)<=12)=decide (1<=kids.length);exact decide_eq_decide.2 oo
 rw[e2,show kfB 20 (Qg_ ps kids)=VG_ (isK 18) (Qg_ ps kids)from rfl];by_cases h:1<=kids.length
 ·rw[zx_ _ h,decide_eq_true h,Bool.true_and]
  rfl
 ·have:kids=[]:=List.eq_nil_of_length_eq_zero oo;subst this;rfl
theorem QfD_ (hn:kids.length<=12):kfB 21 (Qg_ ps kids)=(inB (kids.length:Int) (QW_ 21) (QT_ 21)&&Q4_ (fun i v=>kfF 21 kids.length i (Qs_ ps v)) kids):=by
 have e2:inB (kids.length:Int) (QW_ 21) (QT_ 21)=decide (True):=by
  show decide ((0:Int)<=kids.length/\(kids.length:Int)<=12)=decide (True);exact decide_eq_decide.2 ⟨fun _=>trivial,fun _=>oo⟩
 rw[e2,show kfB 21 (Qg_ ps kids)=(Qg_ ps kids).all Q6_ from rfl,KI_,decide_true,Bool.true_and]
 rfl
theorem QfE_ (hn:kids.length<=12):kfB 22 (Qg_ ps kids)=(inB (kids.length:Int) (QW_ 22) (QT_ 22)&&Q4_ (fun i v=>kfF 22 kids.length i (Qs_ ps v)) kids):=by
 have e2:inB (kids.length:Int) (QW_ 22) (QT_ 22)=decide (True):=by
  show decide ((0:Int)<=kids.length/\(kids.length:Int)<=12)=decide (True);exact decide_eq_decide.2 ⟨fun _=>trivial,fun _=>oo⟩
 rw[e2,show kfB 22 (Qg_ ps kids)=(Qg_ ps kids).all jU_ from rfl,KI_,decide_true,Bool.true_and]
 rfl
theorem QfM_ {kind:Int} (hk:1<=kind/\kind<=22) (a:kids.length<=12):kfB kind (Qg_ ps kids)=(inB (kids.length:Int) (QW_ kind) (QT_ kind)&&Q4_ (fun i v=>kfF kind kids.length i (Qs_ ps v)) kids):=by
 have h2:kind=1\/kind=2\/kind=3\/kind=4\/kind=5\/kind=6\/kind=7\/kind=8\/kind=9\/kind=10\/kind=11\/kind=12\/kind=13\/kind=14\/kind=15\/kind=16\/kind=17\/kind=18\/kind=19\/kind=20\/kind=21\/kind=22:=oo;rcases h2 with rfl|rfl|rfl|rfl|rfl|rfl|rfl|rfl|rfl|rfl|rfl|rfl|rfl|rfl|rfl|rfl|rfl|rfl|rfl|rfl|rfl|rfl
 ·exact QgO_ a
 ·exact QgP_ a
 ·exact QgQ_ a
 ·exact QgR_ a
 ·exact QgS_ a
 ·exact QgT_ a
 ·exact QgU_ a
 ·exact QgV_ a
 ·exact QgX_ a
 ·exact Qfq_ a
 ·exact Qfr_ a
 ·exact Qfs_ a
 ·exact Qft_ a
 ·exact Qfv_ a
 ·exact Qfx_ a
 ·exact Qfy_ a
 ·exact Qfz_ a
 ·exact QfA_ a
 ·exact QfB_ a
 ·exact QfC_ a
 ·exact QfD_ a
 ·exact QfE_ a
theorem Qec_ {kind:Int} (l:LI) (hk:¬(1<=kind/\kind<=22)):kfB kind l=false:=by
 unfold kfB;rw[if_neg oo,if_neg oo,if_neg oo,if_neg oo,if_neg oo,if_neg oo,if_neg oo,if_neg oo,if_neg oo,if_neg oo,if_neg oo,if_neg oo,if_neg oo,if_neg oo,if_neg oo]
theorem QgJ_ (kind:Int):QT_ kind<=12:=by unfold QT_;split<;>(try split)<;>(try split)<;>(try split)<;>omega
theorem v1_ {kind:Int} (h:kind≠10) (i:Nat) (v:Int):Zm_ ps kind i v=Yb_ ps v:=by
 unfold Zm_ Yb_;have hb:(kind==10)=false:=by rw[beq_eq_false_iff_ne];exact h
 rw[hb]
 cases ps[v.toNat]? with
 |none=>rfl
 |some y=>
  simp only[Bool.false_and,Bool.not_false,Bool.true_or,Bool.and_true];split
  ·cases y.kids<;>rfl
  ·rfl
theorem Qf7_ {kind:Int} (hk:1<=kind/\kind<=22) (n i:Nat) (v:Int):(kfF kind n i (Qs_ ps v)&&Zm_ ps kind i v)=(Yb_ ps v&&Y1_ ps kind n i v):=by
 by_cases a:kind=10
 ·subst a;have e1:kfF 10 n i (Qs_ ps v)=if 0 < i then isK 5 (Qs_ ps v)else Qj_ (Qs_ ps v):=rfl
  have e2:Y1_ ps 10 n i v=if 0 < i then isK 5 (Qs_ ps v)&&(match ps[v.toNat]? with|some y=>(match y.kids with|j::_=>isK 1 (Qs_ ps j)|[]=>false)|none=>false)else Qj_ (Qs_ ps v):=rfl
  rw[e1,e2];by_cases hi:0 < i
  ·rw[if_pos hi,if_pos hi];unfold Zm_ Yb_;rw[decide_eq_true hi];unfold Qs_
   cases ps[v.toNat]? with
   |none=>simp
   |some y=>
    simp only;by_cases b:y.kind=5
    ·rw[if_pos b,if_pos b,b]
     cases y.kids with
     |nil=>simp
     |cons j js=>
      simp[isK]
    ·have:isK 5 y.kind=false:=(by unfold isK;rw[beq_eq_false_iff_ne];exact b);rw[this,Bool.false_and,Bool.false_and,Bool.and_false]
  ·rw[if_neg hi,if_neg hi];have:Zm_ ps 10 i v=Yb_ ps v:=by
    unfold Zm_ Yb_;rw[decide_eq_false hi]
    cases ps[v.toNat]? with
    |none=>rfl
    |some y=>
     simp only[Bool.and_false,Bool.not_false,Bool.true_or,Bool.and_true];split
     ·cases y.kids<;>rfl
     ·rfl
   rw[this,Bool.and_comm]
 ·rw[v1_ a,Bool.and_comm];congr 1;unfold kfF Y1_;simp only[if_neg a];split
  ·rfl
  ·split
   ·rfl
   ·split
    ·rfl
    ·split
     ·rfl
     ·split
      ·rfl
      ·split
       ·unfold jU_ isK;rw[Bool.or_comm]
       ·rfl
theorem Ws_ (k:Nat):WQ_ ps k=K3_ ps k:=by
 unfold WQ_ K3_
 cases ps[k]? with
 |none=>rfl
 |some x=>
  simp only;have l:(decide (x.kids.length<=12)&&(kfB x.kind (Qg_ ps x.kids)&&Yd_ ps x.kind x.kids))=(inB x.kind 1 22&&(inB (x.kids.length:Int) (QW_ x.kind) (QT_ x.kind)&&Q4_ (Xc_ ps x) x.kids)):=by
   by_cases m:1<=x.kind/\x.kind<=22
   ·rw[show inB x.kind 1 22=true from decide_eq_true m,Bool.true_and];by_cases n:x.kids.length<=12
    ·rw[decide_eq_true n,Bool.true_and,QfM_ m n,Bool.and_assoc];unfold Yd_;rw[QbG_];congr 1;exact xT_ (fun j v _=>by unfold Xc_;exact Qf7_ m _ j v)
    ·have o:=QgJ_ x.kind;rw[decide_eq_false n,Bool.false_and,vp_ (show ¬(x.kids.length:Int)<=QT_ x.kind from oo),Bool.false_and]
   ·rw[show inB x.kind 1 22=false from decide_eq_false m,Qec_ _ m,Bool.false_and,Bool.false_and,Bool.and_false]
  have hm:(!(x.blank&&!GC_ x.kind))=(GC_ x.kind||!x.blank):=by cases x.blank<;>cases GC_ x.kind<;>rfl
  rw[hm];revert l;generalize inB x.kind 1 22=a;generalize inB (x.kids.length:Int) (QW_ x.kind) (QT_ x.kind)=b;generalize ZB_ x.kind x.text=c;generalize (GC_ x.kind||!x.blank)=d;generalize JM_ k x.kids=e;generalize Q4_ (Xc_ ps x) x.kids=f;generalize decide (x.kids.length<=12)=g;generalize kfB x.kind (Qg_ ps x.kids)=h;generalize Yd_ ps x.kind x.kids=i;revert a b c d e f g h i;decide
end
end Go.Proofs.YtgbikafalcbibaaGreatDoor

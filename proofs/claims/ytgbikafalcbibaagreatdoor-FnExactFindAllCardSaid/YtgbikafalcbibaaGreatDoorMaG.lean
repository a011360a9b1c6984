/-
  Put together by program (shake.py):DeepA,DeepB,TreeA,TreeB.
-/
import Derived.Test.YtgbikafalcbibaaGreatDoorMaF
set_option maxRecDepth 100000
set_option linter.all false
set_option maxHeartbeats 25600000
open Go.Lib (hid)
open Go.Proofs.Tryz
namespace Go.Proofs.YtgbikafalcbibaaGreatDoor
open Go.RowKit
theorem Own.put {w:World} {g:Nat} {t:TypeId} {cap:Nat} {xs:List Value} (h:Own w g t cap xs) {i:Nat} (hi:i < xs.length) (u:Value):Own (w.setCell ⟨g,i,none⟩ u) g t cap (xs.set i u):=by
 obtain⟨rest,hb,hs⟩:=h;refine⟨rest,?_,by simpa using hs⟩;have h2:=hb.set_ i u;have e:((xs++rest).toArray).setIfInBounds i u=(xs.set i u++rest).toArray:=by
  simp[List.set_append,hi]
 rwa[e]at h2
theorem Own.zeros {w:World} {e:TypeId} (n:Nat):Own (w.alloc (.cells (madeCells #[.int .i64 0] n) e)) w.heap.size e n (Qa_ (List.replicate n 0)):=
 ⟨[],by
  have h:=Blk.new w e (madeCells #[.int .i64 0] n);have e1:(Qa_ (List.replicate n 0)++[]).toArray=madeCells #[.int .i64 0] n:=by
   apply Array.ext';rw[toList_madeCells_one];simp[Qa_]
  rw[e1];exact h,by simp[Qa_]⟩
def mxK (l:LI) (kids:LI) (t:Nat):Int:=(kids.take t).foldl (fun d v=>max d (l.getD v.toNat 0)) 0
theorem vG_ (l kids:LI):mxK l kids 0=0:=by simp[mxK]
theorem vF_ {l kids:LI} {t q:Nat} {x:Int} (h:kids[t]? =some (q:Int)) (hx:l[q]? =some x):mxK l kids (t+1)=max (mxK l kids t) x:=by
 unfold mxK;rw[List.take_add_one,h,List.foldl_append];simp[List.getD_eq_getElem?_getD,hx]
theorem Wo_ {l kids:LI} (hl:∀x∈l,1<=x/\x<=14) (t:Nat):0<=mxK l kids t/\mxK l kids t<=14:=by
 unfold mxK;generalize kids.take t=r;have:∀(r:LI) (d:Int),0<=d/\d<=14->0<=r.foldl (fun d v=>max d (l.getD v.toNat 0)) d/\r.foldl (fun d v=>max d (l.getD v.toNat 0)) d<=14:=by
  intro r
  induction r with
  |nil=>intro d h;exact h
  |cons v r ih=>
   intro d h;apply ih;have hv:0<=l.getD v.toNat 0/\l.getD v.toNat 0<=14:=by
    rw[List.getD_eq_getElem?_getD]
    cases hg:l[v.toNat]? with
    |none=>simp
    |some x=>have:=hl x (List.mem_of_getElem? hg);simp;omega
   show 0<=max d (l.getD v.toNat 0)/\max d (l.getD v.toNat 0)<=14;omega
 exact this r 0 oo
def Kb_ (ps:List PN):Nat->Option (LI)
 |0=>some []
 |m+1=>
  match Kb_ ps m with
  |none=>none
  |some l=>
   match ps[m]? with
   |none=>none
   |some x=>if K3_ ps m=true/\mxK l x.kids x.kids.length < 14 then some (l++[mxK l x.kids x.kids.length+1])else none
def Qhv_ (l:LI) (m:Nat):Prop:=l.length=m/\∀x∈l,1<=x/\x<=14
theorem XG_ {ps:List PN}:∀{m:Nat} {l:LI},Kb_ ps m=some l->Qhv_ l m:=by
 intro m
 induction m with
 |zero=>intro l h;unfold Kb_ at h;obtain rfl:=Option.some.inj h;exact⟨rfl,fun x b=>by cases b⟩
 |succ m ih=>
  intro l h;unfold Kb_ at h
  cases hd:Kb_ ps m with
  |none=>rw[hd]at h;cases h
  |some l0=>
   rw[hd]at h
   cases b:ps[m]? with
   |none=>rw[b]at h;cases h
   |some x=>
    rw[b]at h;simp only at h;split at h
    ·rename_i hc;obtain rfl:=Option.some.inj h;obtain⟨h1,h2⟩:=ih hd;have:=Wo_ (kids:=x.kids) h2 x.kids.length;refine⟨by simp[h1],fun y a=>?_⟩;rcases List.mem_append.1 a with a|a
     ·exact h2 y a
     ·obtain rfl:=List.mem_singleton.1 a;omega
    ·cases h
theorem Gn_ {ps:List PN} {m:Nat} (h:K3_ ps m=false):Kb_ ps (m+1)=none:=by
 unfold Kb_
 cases Kb_ ps m with
 |none=>rfl
 |some l=>
  cases hx:ps[m]? with
  |none=>rfl
  |some x=>simp[h]
theorem UO_ {ps:List PN} {m:Nat} {l:LI} {x:PN} (hd:Kb_ ps m=some l) (hx:ps[m]? =some x) (h:¬mxK l x.kids x.kids.length < 14):Kb_ ps (m+1)=none:=by
 unfold Kb_;rw[hd,hx];simp only;rw[if_neg (fun hh=>h hh.2)]
theorem UP_ {ps:List PN} {m:Nat} {l:LI} {x:PN} (hd:Kb_ ps m=some l) (hx:ps[m]? =some x) (hb:K3_ ps m=true) (h:mxK l x.kids x.kids.length < 14):Kb_ ps (m+1)=some (l++[mxK l x.kids x.kids.length+1]):=by
 conv=>lhs;unfold Kb_
 rw[hd,hx];simp only;rw[if_pos ⟨hb,h⟩]
theorem V2_ {ps:List PN} {m k:Nat} (h:Kb_ ps m=none) (hk:m<=k):Kb_ ps k=none:=by
 induction k with
 |zero=>
    obtain rfl:m=0:=oo;exact h
 |succ k ih=>
  by_cases e:m=k+1
  ·subst e;exact h
  ·unfold Kb_;rw[ih oo]
def Zc_ (ps:List PN) (k:Nat):Int:=match Kb_ ps (k+1)with|some l=>l.getD k 0|none=>0
theorem Gl_ {ps:List PN} {m k:Nat} (h:Kb_ ps m=none) (hk:m<=k+1):Zc_ ps k=0:=by unfold Zc_;rw[V2_ h hk]
theorem Gm_ {ps:List PN} {k:Nat} {l:LI} {x:Int} (h:Kb_ ps (k+1)=some l) (hx:l[k]? =some x):Zc_ ps k=x:=by unfold Zc_;rw[h];simp[List.getD_eq_getElem?_getD,hx]
def Yf_ (ps:List PN) (k:Int):Int:=if 0<=k/\k < (ps.length:Int)then Zc_ ps k.toNat else 0
theorem Ve_ {ps:List PN} {m:Nat} {x:PN} (hb:K3_ ps m=true) (hx:ps[m]? =some x) {v:Int} (hv:v∈x.kids):0<=v/\v < (m:Int):=by
 have hk:JM_ m x.kids=true:=by
  cases h:JM_ m x.kids with
  |true=>rfl
  |false=>rw[zG_ hx h]at hb;cases hb
 obtain⟨j,hj⟩:=List.mem_iff_getElem?.1 hv;have h1:=Z3_ hk hj;unfold Ul_ at h1;rw[Bool.and_eq_true]at h1;have h2:=of_decide_eq_true h1.1;exact⟨h2.1,oo⟩
theorem W4_ (A:OA) (n c:Nat) (k:Int) (w:World) (hk:¬(0<=k/\k < (n:Int))):
  Calls prog 90 #[.slice A n c,.int .i64 k] w fun e w'=>e=.returned (.int .i64 0)/\Below w.heap.size w w':=by
 have HN:=hid (fun W=>Y4_ (n:=n) (show inB k 0 ((n:Int) - 1)=false from decide_eq_false oo) A c W);go_enter func90,ntmps90;go_wp2_with fail
 refine(HN.o _).mono ?_;rintro e w1 ⟨rfl,rfl⟩;go_wp2;go_ret;exact⟨rfl,grow_⟩
theorem ql_ (A:OA) (n c:Nat) (ps:List PN) (k:Nat) (w:World) (hn:n<=1048576) (K:Nps w A n ps) (hb:Hid (PNs ps)) (hk:k < n):
  Calls prog 90 #[.slice A n c,.int .i64 k] w fun e w'=>e=.returned (.int .i64 (Zc_ ps k))/\Below w.heap.size w w':=by
 have HP:=hid K;have HL:=hid K.len;obtain⟨i0,hi,Y,Z,aa⟩:=info_parts QB_;have I:=fun W=>QK_ (P:=prog) 34 3 i0 _ underlying34 hi Y .i64 .i64 (k+1) (k+1) (Nat.le_refl _) (by rw[aa];omega) oo W
 rw[Z]at I;have HN:=hid (fun W=>Y4_ (n:=n) (show inB (k:Int) 0 ((n:Int) - 1)=true from decide_eq_true oo) A c W);have e1:((k+1:Nat):Int)=(k:Int)+1:=oo;rw[e1]at I;have a:=hid (fun m (h:Kb_ ps m=none) (hm:m<=k+1)=>Gl_ h hm);have f:=hid (fun l x (h:Kb_ ps (k+1)=some l) (L:l[k]? =some x)=>Gm_ h L);generalize Zc_ ps k=D at a f |-
 clear hi Y Z aa K;go_enter func90,ntmps90;go_wp2_with fail
 refine(HN.o _).mono ?_;rintro e w1 ⟨rfl,rfl⟩;go_wp2;clear I HN;go_loopw [19] (fun i wr=>∃(m:Nat) (l:LI),m<=k+1/\i=.int .i64 m/\Hid (Kb_ ps m=some l)/\Own wr w.heap.size 3 (k+1) (Qa_ l)/\Below w.heap.size w wr) (fun i _=>k+1 - (intOf i).toNat)
 case atStart=>exact⟨0,[],Nat.zero_le _,rfl,rfl,Own.made (size_madeCells _ _),grow_⟩
 case round=>
  obtain⟨m,l,hm,rfl,z,U,o⟩:=hrel;have p:=(XG_ z.o).1;have HR:=hid (XG_ z.o).2;have HO:=hid U;clear U;by_cases av:m < k+1
  ·have am:(m:Int) < (k:Int)+1:=oo;have J:m < n:=oo;have an:(m:Int) < n:=oo;have HB:=hid (fun(u:Bool) (h:K3_ ps m=u)=>show Calls prog 127 #[.slice A n c,.int .i64 m] wr fun e w'=>e=.returned (.bool u)/\Below wr.heap.size wr w' by rw[<-h,<-vI_ (by rw[HL.o];exact J)];exact W7_ A n c ps m wr hn (HP.o.below o) hb)
   cases g:K3_ ps m with
   |false=>
    have R:D=0:=a.o (m+1) (Gn_ g) oo;subst R;have y:=hid (HB.o _ g);clear HB g a f z HR;go_wp2_with fail
    refine y.o.mono ?_;rintro e w2 ⟨rfl,Q⟩;go_wp2;go_ret;exact⟨rfl,Qb_ o Q⟩
   |true=>
    have y:=hid (HB.o _ g);have N:=hid g;clear HB g;go_wp2_with fail
    refine y.o.mono ?_;rintro e w2 ⟨rfl,Q⟩;have S:=Qb_ o Q;have j:=hid (HO.o.next Q);clear Q o HO y;obtain⟨x,L⟩:=HP.o.get J;obtain⟨b,off,A2,c2,rfl,al,x0,x1,x2,x3,X⟩:=(HP.o.below S).at_ J L;have ax:=(hb.o x (List.mem_of_getElem? L)).2;have HX:=hid L;have ag:=hid X;clear L X x0 x1 x3;go_wp2
    go_loop [7,32] (fun s i=>∃t:Nat,t<=x.kids.length/\s=.int .i64 (mxK l x.kids t)/\i=.int .i64 t) (fun _ i=>x.kids.length - (intOf i).toNat)
    case atStart=>exact⟨0,Nat.zero_le _,by rw[vG_],rfl⟩
    case round=>
     obtain⟨t,ht,rfl,rfl⟩:=hrel;have G:=Wo_ (kids:=x.kids) HR.o t;by_cases C:t < x.kids.length
     ·obtain⟨v,hd⟩:∃d,x.kids[t]? =some d:=⟨_,List.getElem?_eq_getElem C⟩;have hv:=Ve_ N.o HX.o (List.mem_of_getElem? hd);obtain⟨q,rfl⟩:=Int.eq_ofNat_of_zero_le hv.1;have ak:q < m:=oo;have g0:(0:Int)<=(q:Int):=oo;have g1:(q:Int) < (k:Int)+1:=oo;have g2:q < k+1:=oo;have gt:(t:Int) < x.kids.length:=oo;obtain⟨b5,ao,rfl,ai,cv⟩:=Ql_ ag.o C hd;obtain⟨d,E⟩:∃d,l[q]? =some d:=⟨_,gE oo⟩;have r:=(j.o.rd (size:=1) (n:=m) (by simp[Qa_,p]));obtain⟨b6,ab,F,H,cq⟩:=Ql_ r ak E;injection F with F;injection F with e61 e62;subst e61;subst e62;simp only[Nat.zero_add]at cq;have V:=hid (vF_ hd E);have ap:=HR.o d (List.mem_of_getElem? E);clear hv hd E r a f;generalize mxK l x.kids t=M at V G |-
      go_wp2
      go_round
      case rel=>exact⟨t+1,oo,by rw[V.o],by go_num⟩
      case measure=>simp[intOf];omega
     ·obtain rfl:t=x.kids.length:=oo;have aj:=j.o.there (i:=m) oo;obtain⟨o0,e0⟩:=aj;have ar:=j.o.lt;have aq:=j.o.frozen;by_cases B:mxK l x.kids x.kids.length < 14
      ·have T:=hid (UP_ z.o HX.o N.o B);clear a f z;generalize mxK l x.kids x.kids.length=M at T G B |-
       have O:¬(14:Int)<=M:=oo;go_wp2;go_roundw
       case rel=>exact⟨m+1,l++[M+1],oo,by go_num,T.o,by
        have:=j.o.push (by simp[Qa_];omega) (i:=m) (by simp[Qa_,p]) (.int .i64 (M+1));simpa[Qa_]using this,grow_⟩
       case measure=>simp[intOf];omega
      ·have R:D=0:=a.o (m+1) (UO_ z.o HX.o B) oo;subst R;clear a f z;generalize mxK l x.kids x.kids.length=M at G B |-
       have O:(14:Int)<=M:=oo;go_wp2;go_ret;exact⟨rfl,S⟩
  ·obtain rfl:m=k+1:=oo;obtain⟨d,E⟩:∃d,l[k]? =some d:=⟨_,gE oo⟩;have R:D=d:=f.o l d z.o E;subst R;have r:=(HO.o.rd (size:=1) (n:=k+1) (by simp[Qa_,p]));obtain⟨b6,ab,F,H,cq⟩:=Ql_ r oo E;injection F with F;injection F with e61 e62;subst e61;subst e62;simp only[Nat.zero_add]at cq;have g1:(k:Int) < (k:Int)+1:=oo;have g3:¬((k:Int)+1 < (k:Int)+1):=oo;clear a f z r E;go_wp2;go_ret;exact⟨rfl,o⟩
theorem VN_ (A:OA) (n c:Nat) (ps:List PN) (k:Int) (w:World) (hn:n<=1048576) (a:Nps w A n ps) (hb:Hid (PNs ps)):
  Calls prog 90 #[.slice A n c,.int .i64 k] w fun e w'=>e=.returned (.int .i64 (Yf_ ps k))/\Below w.heap.size w w':=by
 have hl:=a.len;by_cases b:0<=k/\k < (n:Int)
 ·obtain⟨q,rfl⟩:=Int.eq_ofNat_of_zero_le b.1;have:Yf_ ps (q:Int)=Zc_ ps q:=by unfold Yf_;rw[if_pos (by rw[hl];exact b),Int.toNat_natCast]
  rw[this];exact ql_ A n c ps q w hn a hb oo
 ·have:Yf_ ps k=0:=by unfold Yf_;rw[if_neg (by rw[hl];exact b)]
  rw[this];exact W4_ A n c k w b
def SpL (ps:List PN) (m:Nat) (a:LI):Prop:=a.length=m/\(∀x∈a,0<=x/\x<=14)/\(Kb_ ps m=some a\/(Kb_ ps m=none/\0 < m/\a[m - 1]? =some 0))
theorem QeH_ (ps:List PN):SpL ps 0 []:=⟨rfl,(fun x hx=>by cases hx),.inl rfl⟩
theorem Qc5_ {ps:List PN} {m:Nat} {b:LI} (h:SpL ps m b) (hd:Kb_ ps (m+1)=none):SpL ps (m+1) (b++[0]):=by
 refine⟨by simp[h.1],fun x a=>?_,.inr ⟨hd,oo,?_⟩⟩
 ·rcases List.mem_append.1 a with a|a
  ·exact h.2.1 x a
  ·obtain rfl:=List.mem_singleton.1 a;omega
 ·rw[Nat.add_sub_cancel,List.getElem?_append_right (by rw[h.1];exact Nat.le_refl _),h.1,Nat.sub_self];rfl
theorem QeG_ {ps:List PN} {m:Nat} {a:LI} {d:Int} (hd:Kb_ ps (m+1)=some (a++[d])):SpL ps (m+1) (a++[d]):=by
 obtain⟨h1,h2⟩:=XG_ hd;exact⟨h1,fun x hx=>by have:=h2 x hx;omega,.inl hd⟩
def JA_ (ps:List PN) (m:Nat):Bool:=K3_ ps m&&(Kb_ ps m).isSome
theorem W0_ {ps:List PN} {m:Nat} (h:JA_ ps m=false):Kb_ ps (m+1)=none:=by
 unfold JA_ at h
 cases hn:K3_ ps m with
 |false=>exact Gn_ hn
 |true=>
  rw[hn,Bool.true_and]at h
  cases hd:Kb_ ps m with
  |none=>exact V2_ hd oo
  |some l=>rw[hd]at h;cases h
theorem kY_ (A:OA) (n c:Nat) (ps:List PN) (k:Nat) (w:World) (hn:n<=1048576) (ad:Nps w A n ps) (hb:Hid (PNs ps)) (hk:k < n):
  Calls prog 107 #[.slice A n c,.int .i64 k] w fun e w'=>∃A' c' a,e=.returned (.slice A' (k+1) c')/\Rd w' 1 A' (k+1) (Qa_ a)/\Hid (SpL ps (k+1) a)/\Below w.heap.size w w':=by
 have HP:=hid ad;have HL:=hid ad.len;obtain⟨i0,hi,ar,av,ax⟩:=info_parts QB_;have D:=hid (And.intro hi (And.intro ar (And.intro av ax)));have al:Mine (w.alloc (.cells #[] 3)) w.heap.size 3 1 (some ⟨w.heap.size,0,none⟩) 0 0 (Qa_ []):=QI_ w 3 1;clear hi ar av ax ad;go_enter func107,ntmps107;go_wp2;go_loopw [5,6] (fun s i wr=>∃(m:Nat) (a:LI) (A5:OA) (c5:Nat),m<=k+1/\s=.slice A5 m c5/\i=.int .i64 m/\Mine wr w.heap.size 3 1 A5 m c5 (Qa_ a)/\SpL ps m a/\Below w.heap.size w wr) (fun _ i _=>k+1 - (intOf i).toNat)
 case atStart=>exact⟨0,[],_,_,Nat.zero_le _,rfl,rfl,al,QeH_ ps,grow_⟩
 case round=>
  clear al;obtain⟨m,a,A5,c5,hm,rfl,rfl,hM,hS,z⟩:=hrel;have B:=hid hM;have K:=hid hS;clear hM hS;by_cases aO:m < k+1
  ·have ao:(m:Int)<=k:=oo;have ab:m < n:=oo;have ap:(m:Int) < n:=oo;have X:=hid (fun(u:Bool) (h:K3_ ps m=u)=>show Calls prog 136 #[.slice A n c,.int .i64 m] wr fun e w'=>e=.returned (.bool u)/\Below wr.heap.size wr w' by rw[<-h,<-Ws_];exact q0_ A n c ps m wr hn (HP.o.below z) hb ab);go_upto_region 6 with fail
   go_cut [36] (fun s wx=>s=.bool (!JA_ ps m)/\Mine wx w.heap.size 3 1 A5 m c5 (Qa_ a)/\Below w.heap.size w wx)
   case first=>
    clear ao ap
    cases l:K3_ ps m with
    |false=>
     have E:=hid (X.o _ l);have f:JA_ ps m=false:=(by unfold JA_;rw[l];rfl);clear X l;go_wp2_with fail
     refine E.o.mono ?_;rintro e w2 ⟨rfl,G⟩;go_wp2;go_meet
     case rel=>exact⟨by rw[f];rfl,B.o.next G,Qb_ z G⟩
    |true=>
     have E:=hid (X.o _ l);by_cases aE:m=0
     ·subst aE;have f:JA_ ps 0=true:=(by unfold JA_;rw[l];rfl);clear X l;go_wp2_with fail
      refine E.o.mono ?_;rintro e w2 ⟨rfl,G⟩;go_wp2;go_meet
      case rel=>exact⟨by rw[f];rfl,B.o.next G,Qb_ z G⟩
     ·obtain⟨L,rfl⟩:∃L,m=L+1:=⟨m - 1,oo⟩;have g0:(0:Int) < ((L+1:Nat):Int):=oo;have g1:((L+1:Nat):Int) - 1=(L:Int):=oo;have g2:(L:Int) < ((L+1:Nat):Int):=oo;obtain⟨d,R⟩:∃d,a[L]? =some d:=⟨_,gE (by have:=K.o.1;omega)⟩;by_cases aa:d=0
      ·have f:JA_ ps (L+1)=false:=by
        unfold JA_;rcases K.o.2.2 with h|⟨h,_⟩
        ·have:=(XG_ h).2 d (List.mem_of_getElem? R);omega
        ·rw[h,l];rfl
       subst aa;clear X l;go_wp2_with fail
       refine E.o.mono ?_;rintro e w2 ⟨rfl,G⟩;have H:=B.o.next G;obtain⟨b6,V,rfl,J,cq⟩:=Ql_ H.rd oo R;go_wp2;go_meet
       case rel=>exact⟨by rw[f];rfl,H,Qb_ z G⟩
      ·have f:JA_ ps (L+1)=true:=by
        unfold JA_;rcases K.o.2.2 with h|⟨h,_,h3⟩
        ·rw[h,l];rfl
        ·rw[Nat.add_sub_cancel,R]at h3;exact absurd (Option.some.inj h3) aa
       have aL:(d==0)=false:=(by rw[beq_eq_false_iff_ne];exact aa);clear X l;go_wp2_with fail
       refine E.o.mono ?_;rintro e w2 ⟨rfl,G⟩;have H:=B.o.next G;obtain⟨b6,V,rfl,J,cq⟩:=Ql_ H.rd oo R;go_wp2;go_meet
       case rel=>exact⟨by rw[f];rfl,H,Qb_ z G⟩
   case rest=>
    clear B z X;obtain⟨rfl,hM,r⟩:=hcut;have Y:=hid hM;clear hM;obtain⟨x,C⟩:=HP.o.get ab;obtain⟨b,off,A2,c2,rfl,aI,x0,x1,x2,x3,aq⟩:=(HP.o.below r).at_ ab C;have aP:=(hb.o x (List.mem_of_getElem? C)).2;have HX:=hid C;have aC:=hid aq;clear C aq x0 x1 x3
    cases f:JA_ ps m with
    |false=>
     have aG:=hid (Qc5_ K.o (W0_ f));simp only[Bool.not_false];clear K f;go_wp2
     go_loop [7,8] (fun s i=>s=.int .i64 0/\i=.int .i64 0) (fun _ i=>0)
     case atStart=>exact⟨rfl,rfl⟩
     case round=>
      obtain⟨rfl,rfl⟩:=hrel;go_wp2_with (at_builtin;(refine wpList_append_own _ rfl (.tmp 79) (.tmp 81) _ rfl w.heap.size 3 i0 (.int .i64 0) 1 8 underlying34 D.o.1 D.o.2.1 D.o.2.2.1 D.o.2.2.2 rfl (by decide) _ _ _ rfl (Mine.alloc Y.o _) ⟨wc.heap.size,0,none⟩ 1 1 [.int .i64 0] rfl rfl (Js_ _ _ _) (fun x C=>by simp at C;subst C;rfl) (by unfold maxLen;omega) oo (by have:=r.size;simp;omega) ?_);intro v' w3 j y p)
      have o:=r.alloc r.size (.cells #[.int .i64 0] 3);have I:Below w.heap.size w w3:=o.grown y o.size (fun g hg=>GG_ Y.o hg);obtain⟨A7,c7,rfl,U⟩:=Mine.of j;have F:=hid U;clear j y p o U;go_wp2;go_roundw
      case rel=>exact⟨m+1,a++[0],A7,c7,oo,rfl,by go_num,by simpa[Qa_]using F.o,aG.o,I⟩
      case measure=>simp[intOf];omega
    |true=>
     have l:K3_ ps m=true:=(by unfold JA_ at f;rw[Bool.and_eq_true]at f;exact f.1);have P:Kb_ ps m=some a:=by
      rcases K.o.2.2 with h|⟨h,_⟩
      ·exact h
      ·unfold JA_ at f;rw[h]at f;simp at f
     have N:=hid l;have HD:=hid P;have aJ:=(XG_ P).1;have HR:=hid (XG_ P).2;simp only[Bool.not_true];clear f l P;go_wp2
     go_loop [7,8] (fun s i=>∃t:Nat,t<=x.kids.length/\s=.int .i64 (mxK a x.kids t+1)/\i=.int .i64 t) (fun _ i=>x.kids.length - (intOf i).toNat)
     case atStart=>exact⟨0,Nat.zero_le _,by rw[vG_];rfl,rfl⟩
     case round=>
      obtain⟨t,ht,rfl,rfl⟩:=hrel;have Z:=Wo_ (kids:=x.kids) HR.o t;by_cases S:t < x.kids.length
      ·obtain⟨v,hd⟩:∃d,x.kids[t]? =some d:=⟨_,List.getElem?_eq_getElem S⟩;have hv:=Ve_ N.o HX.o (List.mem_of_getElem? hd);obtain⟨q,rfl⟩:=Int.eq_ofNat_of_zero_le hv.1;have aF:q < m:=oo;have g0:(0:Int)<=(q:Int):=oo;have g1:(q:Int) < (m:Int):=oo;have gt:(t:Int) < x.kids.length:=oo;obtain⟨b5,aK,rfl,aD,cv⟩:=Ql_ aC.o S hd;obtain⟨d,R⟩:∃d,a[q]? =some d:=⟨_,gE oo⟩;obtain⟨b6,V,rfl,J,cq⟩:=Ql_ Y.o.rd aF R;have ae:=hid (vF_ hd R);have aM:=HR.o d (List.mem_of_getElem? R);clear hv hd R;generalize mxK a x.kids t=M at ae Z |-
       have T:(0:Int) < M+1:=oo;by_cases aN:M+1 < d+1
       ·have ac:=hid (show max M d=d from oo);go_wp2
        go_round
        case rel=>exact⟨t+1,oo,by rw[ae.o,ac.o],by go_num⟩
        case measure=>simp[intOf];omega
       ·have ac:=hid (show max M d=M from oo);go_wp2
        go_round
        case rel=>exact⟨t+1,oo,by rw[ae.o,ac.o],by go_num⟩
        case measure=>simp[intOf];omega
      ·obtain rfl:t=x.kids.length:=oo;by_cases O:mxK a x.kids x.kids.length < 14
       ·have Q:=hid (QeG_ (UP_ HD.o HX.o N.o O));clear K HD HR N;generalize mxK a x.kids x.kids.length=M at Q Z O |-
        have aj:¬(14:Int) < M+1:=oo;have T:(0:Int) < M+1:=oo;go_wp2_with (at_builtin;(refine wpList_append_own _ rfl (.tmp 79) (.tmp 81) _ rfl w.heap.size 3 i0 (.int .i64 0) 1 8 underlying34 D.o.1 D.o.2.1 D.o.2.2.1 D.o.2.2.2 rfl (by decide) _ _ _ rfl (Mine.alloc Y.o _) ⟨wc.heap.size,0,none⟩ 1 1 [.int .i64 (M+1)] rfl rfl (Js_ _ _ _) (fun x C=>by simp at C;subst C;rfl) (by unfold maxLen;omega) oo (by have:=r.size;simp;omega) ?_);intro v' w3 j y p)
        have o:=r.alloc r.size (.cells #[.int .i64 (M+1)] 3);have I:Below w.heap.size w w3:=o.grown y o.size (fun g hg=>GG_ Y.o hg);obtain⟨A7,c7,rfl,U⟩:=Mine.of j;have F:=hid U;clear j y p o U;go_wp2;go_roundw
        case rel=>exact⟨m+1,a++[(M+1)],A7,c7,oo,rfl,by go_num,by simpa[Qa_]using F.o,Q.o,I⟩
        case measure=>simp[intOf];omega
       ·have Q:=hid (Qc5_ K.o (UO_ HD.o HX.o O));clear K HD HR N;generalize mxK a x.kids x.kids.length=M at Z O |-
        have aj:(14:Int) < M+1:=oo;have T:(0:Int) < M+1:=oo;go_wp2_with (at_builtin;(refine wpList_append_own _ rfl (.tmp 79) (.tmp 81) _ rfl w.heap.size 3 i0 (.int .i64 0) 1 8 underlying34 D.o.1 D.o.2.1 D.o.2.2.1 D.o.2.2.2 rfl (by decide) _ _ _ rfl (Mine.alloc Y.o _) ⟨wc.heap.size,0,none⟩ 1 1 [.int .i64 0] rfl rfl (Js_ _ _ _) (fun x C=>by simp at C;subst C;rfl) (by unfold maxLen;omega) oo (by have:=r.size;simp;omega) ?_);intro v' w3 j y p)
        have o:=r.alloc r.size (.cells #[.int .i64 0] 3);have I:Below w.heap.size w w3:=o.grown y o.size (fun g hg=>GG_ Y.o hg);obtain⟨A7,c7,rfl,U⟩:=Mine.of j;have F:=hid U;clear j y p o U;go_wp2;go_roundw
        case rel=>exact⟨m+1,a++[0],A7,c7,oo,rfl,by go_num,by simpa[Qa_]using F.o,Q.o,I⟩
        case measure=>simp[intOf];omega
  ·obtain rfl:m=k+1:=oo;have g3:¬(((k+1:Nat):Int)<=(k:Int)):=oo;go_wp2;go_ret;have am:=B.o.rd;exact⟨A5,⟨c5,rfl⟩,a,am,K,z⟩
theorem Qhe_ {ps:List PN} {k:Nat} {a:LI} (h:SpL ps (k+1) a):a[k]? =some (Zc_ ps k):=by
 obtain⟨h1,h2,h3⟩:=h;rcases h3 with h|⟨h,_,h4⟩
 ·obtain⟨d,hd⟩:∃d,a[k]? =some d:=⟨_,gE oo⟩;rw[Gm_ h hd,hd]
 ·rw[Gl_ h (Nat.le_refl _)];exact h4
theorem VV_ (A:OA) (n c:Nat) (ps:List PN) (k:Int) (w:World) (hn:n<=1048576) (a:Nps w A n ps) (hb:Hid (PNs ps)):
  Calls prog 79 #[.slice A n c,.int .i64 k] w fun e w'=>e=.returned (.int .i64 (Yf_ ps k))/\Below w.heap.size w w':=by
 have hl:=a.len;by_cases f:0<=k/\k < (n:Int)
 ·obtain⟨q,rfl⟩:=Int.eq_ofNat_of_zero_le f.1;have g:Yf_ ps (q:Int)=Zc_ ps q:=by unfold Yf_;rw[if_pos (by rw[hl];exact f),Int.toNat_natCast]
  rw[g];have d:=hid (fun W=>Kh_ (show inB (q:Int) 0 ((n:Int) - 1)=true from decide_eq_true oo) W);have HD:=hid (fun c=>kY_ A n c ps q w hn a hb oo);clear a;go_enter func79,ntmps79;go_wp2_with fail
  refine(d.o _).mono ?_;rintro e w1 ⟨rfl,rfl⟩;go_wp2_with fail
  refine(HD.o _).mono ?_;rintro e w2 ⟨A',c',i,rfl,hr,hs,h2⟩;obtain⟨b,off,rfl,h,cq⟩:=Ql_ hr (oo:q < q+1) (Qhe_ hs.o);have g0:(0:Int)<=(q:Int):=oo;have g1:(q:Int) < ((q+1:Nat):Int):=oo;clear hr hs HD;go_wp2;go_ret;exact⟨rfl,h2⟩
 ·have g:Yf_ ps k=0:=by unfold Yf_;rw[if_neg (by rw[hl];exact f)]
  rw[g];have d:=hid (fun W=>Kh_ (show inB k 0 ((n:Int) - 1)=false from decide_eq_false oo) W);go_enter func79,ntmps79;go_wp2_with fail
  refine(d.o _).mono ?_;rintro e w1 ⟨rfl,rfl⟩;go_wp2;go_ret;exact⟨rfl,grow_⟩
def vS_ (F:LI) (n:Nat):LI:=(List.range n).map (fun(j:Nat)=>((F.count (j:Int):Nat):Int))
theorem Xq_ (F:LI) (n:Nat):(vS_ F n).length=n:=by simp[vS_]
theorem vT_ (n:Nat):vS_ [] n=List.replicate n 0:=by
 unfold vS_;apply List.ext_getElem
 ·simp
 ·intro i h1 h2;simp
theorem VD_ {F:LI} {n q:Nat} (h:q < n):(vS_ F n)[q]? =some ((F.count (q:Int):Nat):Int):=by
 unfold vS_;rw[List.getElem?_map,List.getElem?_range h];rfl
theorem xK_ {F:LI} {n q:Nat} (h:q < n):(Qa_ (vS_ F n)).set q (.int .i64 ((F.count (q:Int):Nat)+1:Int))=Qa_ (vS_ (F++[(q:Int)]) n):=by
 unfold Qa_;apply List.ext_getElem?;intro i;rw[List.getElem?_set,List.getElem?_map,List.getElem?_map];by_cases hi:i < n
 ·rw[VD_ hi,VD_ hi];by_cases hq:q=i
  ·subst hq;rw[if_pos rfl,if_pos (by simp[Xq_];exact h)];simp
  ·rw[if_neg hq];have:List.count (i:Int) [(q:Int)]=0:=by
    rw[List.count_singleton];simp;omega
   simp[List.count_append,this]
 ·have e1:(vS_ F n)[i]? =none:=List.getElem?_eq_none (by rw[Xq_];omega);have e2:(vS_ (F++[(q:Int)]) n)[i]? =none:=List.getElem?_eq_none (by rw[Xq_];omega);rw[e1,e2,if_neg oo]
def QD_ (ps:List PN) (m:Nat):LI:=(ps.take m).flatMap PN.kids
theorem U9_ (ps:List PN):QD_ ps 0=[]:=rfl
theorem Zz_ {ps:List PN} {m:Nat} {x:PN} (h:ps[m]? =some x):QD_ ps (m+1)=QD_ ps m++x.kids:=by
 unfold QD_;rw[List.take_add_one,h];simp
theorem zw_ {ps:List PN} (h:∀p∈ps,p.kids.length<=12) (m:Nat):(QD_ ps m).length<=12 * m:=by
 induction m with
 |zero=>simp[QD_]
 |succ m ih=>
  cases a:ps[m]? with
  |none=>
   have:QD_ ps (m+1)=QD_ ps m:=(by unfold QD_;rw[List.take_add_one,a];simp);rw[this];omega
  |some x=>
   rw[Zz_ a,lA];have:=h x (List.mem_of_getElem? a);omega
def Xm_ (ps:List PN) (n j:Nat):Prop:=∀(i:Nat),i < j->((QD_ ps n).count (i:Int))=1
def Jg_ (ps:List PN) (n:Nat):Bool:=(List.range (n - 1)).all (fun(j:Nat)=>(QD_ ps n).count (j:Int)==1)
theorem xL_ {ps:List PN} {n:Nat} (h:Xm_ ps n (n - 1)):Jg_ ps n=true:=by
 unfold Jg_;rw[List.all_eq_true];intro j hj;rw[List.mem_range]at hj;rw[beq_iff_eq];exact h j hj
theorem vU_ {ps:List PN} {n j:Nat} (hj:j < n - 1) (h:¬(QD_ ps n).count (j:Int)=1):Jg_ ps n=false:=by
 unfold Jg_;rw[List.all_eq_false];exact⟨j,List.mem_range.2 hj,by simp;exact h⟩
def KL_ (ps:List PN):Bool:=inB (ps.length:Int) 1 300&&((Qs_ ps ((ps.length:Int) - 1)==22)&&(!(Zc_ ps (ps.length - 1)==0)&&Jg_ ps ps.length))
theorem v9_ {ps:List PN}:∀{m:Nat} {l:LI},Kb_ ps m=some l->∀i,i < m->K3_ ps i=true:=by
 intro m
 induction m with
 |zero=>intro l h i hi;omega
 |succ m ih=>
  intro l h i hi
  cases hd:Kb_ ps m with
  |none=>rw[V2_ hd (Nat.le_succ m)]at h;cases h
  |some l0=>
   by_cases hm:i=m
   ·subst hm
    cases hn:K3_ ps i with
    |true=>rfl
    |false=>rw[Gn_ hn]at h;cases h
   ·exact ih hd i oo
theorem qd_ {ps:List PN} {k:Nat} (h:¬Zc_ ps k=0):∀i,i<=k->K3_ ps i=true:=by
 unfold Zc_ at h
 cases hd:Kb_ ps (k+1)with
 |none=>rw[hd]at h;exact absurd rfl h
 |some l=>exact fun i hi=>v9_ hd i oo
theorem xr_ {ps:List PN} {m:Nat} {x:PN} (hb:K3_ ps m=true) (hx:ps[m]? =some x):x.kids.length<=12:=by
 by_cases h:x.kids.length<=12
 ·exact h
 ·rw[zH_ hx h]at hb;cases hb
def Good (ps:List PN):Prop:=∀(m:Nat) (x:PN),ps[m]? =some x->x.kids.length<=12/\∀v∈x.kids,0<=v/\v < (m:Int)
theorem UZ_ {ps:List PN} (h:¬Zc_ ps (ps.length - 1)=0):Good ps:=fun m x a=>by
 have hl:=(List.getElem?_eq_some_iff.1 a).1;have hb:=qd_ h m oo;exact⟨xr_ hb a,fun v hv=>Ve_ hb a hv⟩
theorem Good.len {ps:List PN} (h:Good ps):∀p∈ps,p.kids.length<=12:=fun p hp=>by
 obtain⟨j,hj⟩:=List.mem_iff_getElem?.1 hp;exact(h j p hj).1
theorem kl_ (F:LI) (v:Int):F.count v<=F.length:=List.count_le_length
theorem VP_ (A:OA) (n c:Nat) (ps:List PN) (w:World) (hn:n<=1048576) (K:Nps w A n ps) (hb:Hid (PNs ps)):
  Calls prog 116 #[.slice A n c] w fun e w'=>e=.returned (.bool (KL_ ps))/\Below w.heap.size w w':=by
 have M:=hid K;have HL:=hid K.len;have f:Hid (KL_ ps=(inB (n:Int) 1 300&&((Qs_ ps ((n:Int) - 1)==22)&&(!(Zc_ ps (n - 1)==0)&&Jg_ ps n)))):=(show _=_ by unfold KL_;rw[HL.o]);generalize KL_ ps=T at f |-
 clear K;by_cases aL:1<=n/\n<=300
 ·have l:=hid (fun W=>Vo_ (show inB (n:Int) 1 300=true from decide_eq_true oo) W);obtain⟨a,rfl⟩:∃a,n=a+1:=⟨n - 1,oo⟩;have e1:((a+1:Nat):Int) - 1=(a:Int):=oo;obtain⟨x,hx⟩:=M.o.get (show a < a+1 from oo);obtain⟨b,off,A2,c2,rfl,R,x0,x1,x2,x3,ay⟩:=M.o.at_ (show a < a+1 from oo) hx;have V:=QR_ hx;replace f:Hid (T=((x.kind==22)&&(!(Zc_ ps a==0)&&Jg_ ps (a+1)))):=(show _=_ by
   rw[f.o,show inB ((a+1:Nat):Int) 1 300=true from decide_eq_true oo,e1,V,Nat.add_sub_cancel,Bool.true_and])
  have g1:(a:Int) < ((a+1:Nat):Int):=oo;have g0:(0:Int)<=(a:Int):=oo;clear V ay x1 x2 x3
  cases o:(x.kind==22)with
  |false=>
   have r:T=false:=(by rw[f.o,o];rfl);subst r;have Q:(x.kind != 22)=true:=(by unfold bne;rw[o];rfl);clear f o;go_enter func116,ntmps116;go_wp2_with fail
   refine(l.o _).mono ?_;rintro e w1 ⟨rfl,rfl⟩;go_wp2;go_ret;exact⟨rfl,grow_⟩
  |true=>
   have Q:(x.kind != 22)=false:=(by unfold bne;rw[o];rfl);replace f:Hid (T=(!(Zc_ ps a==0)&&Jg_ ps (a+1))):=(show _=_ by rw[f.o,o,Bool.true_and]);have U:Yf_ ps (a:Int)=Zc_ ps a:=(by unfold Yf_;rw[if_pos (by rw[HL.o];omega),Int.toNat_natCast]);have p:=hid (fun W (hW:Below w.heap.size w W)=>show Calls prog 90 #[.slice (some ⟨b,off,none⟩) (a+1) c,.int .i64 a] W fun e w'=>e=.returned (.int .i64 (Zc_ ps a))/\Below W.heap.size W w' by rw[<-U];exact VN_ _ (a+1) c ps a W hn (M.o.below hW) hb);clear o U;by_cases k:Zc_ ps a=0
   ·have r:T=false:=(by rw[f.o,k];rfl);subst r;rw[k]at p;clear f k;go_enter func116,ntmps116;go_wp2_with fail
    refine(l.o _).mono ?_;rintro e w1 ⟨rfl,rfl⟩;go_wp2_with fail
    refine(p.o _ br).mono ?_;rintro e w2 ⟨rfl,h2⟩;go_wp2;go_ret;exact⟨rfl,h2⟩
   ·have S:(Zc_ ps a==0)=false:=(by rw[beq_eq_false_iff_ne];exact k);have HG:=hid (UZ_ (ps:=ps) (by rw[HL.o,Nat.add_sub_cancel];exact k));replace f:Hid (T=Jg_ ps (a+1)):=(show _=_ by rw[f.o,S];rfl);generalize Zc_ ps a=D at p S k;obtain⟨i0,hi,ac,ad,ae⟩:=info_parts QB_;have s:=fun W=>QK_ (P:=prog) 34 3 i0 _ underlying34 hi ac .i64 .i64 (a+1) (a+1) (Nat.le_refl _) (by rw[ae];omega) oo W
    rw[ad,Nat.mul_one]at s;simp only[Value.cells]at s;have e9:((a+1:Nat):Int)=(a:Int)+1:=oo;rw[e9]at s;have ai:=hid (zw_ HG.o.len);clear hi ac ad ae k;go_enter func116,ntmps116;go_wp2_with fail
    refine(l.o _).mono ?_;rintro e w1 ⟨rfl,rfl⟩;go_wp2_with fail
    refine(p.o _ br).mono ?_;rintro e w2 ⟨rfl,h2⟩;clear p l R x0;go_wp2;clear s;have aC:=h2.size;have hZ:=Own.zeros (w:=w2) (e:=3) (a+1);go_loopw [36] (fun i wr=>∃m:Nat,m<=a+1/\i=.int .i64 m/\Own wr w2.heap.size 3 (a+1) (Qa_ (vS_ (QD_ ps m) (a+1)))/\Below w.heap.size w wr) (fun i _=>a+1 - (intOf i).toNat)
    case atStart=>exact⟨0,Nat.zero_le _,rfl,by rw[U9_,vT_];exact hZ,grow_⟩
    case round=>
     clear hZ;obtain⟨m,hm,rfl,g,h⟩:=hrel;have aK:=h2.size;by_cases X:m < a+1
     ·have aA:(m:Int) < ((a+1:Nat):Int):=oo;obtain⟨y,Z⟩:=M.o.get X;obtain⟨b3,aF,A3,c3,e3,I,y0,y1,y2,y3,aa⟩:=M.o.at_ X Z;injection e3 with e3;injection e3 with e31 e32;subst e31;subst e32;obtain⟨aq,ar⟩:=QE_ h;have az:=HG.o m y Z;have HY:=hid Z;have ak:=hid aa;have ao:=hid (Zz_ Z);have G:=g.alloc (.cells #[.int .i64 y.kind,.string y.text,.slice A3 y.kids.length c3,.bool y.blank] 36);have aD:=h.size;have C:Below w.heap.size w (wr.alloc (.cells #[.int .i64 y.kind,.string y.text,.slice A3 y.kids.length c3,.bool y.blank] 36)):=grow_;have aN:=ai.o m;obtain⟨aE,ab⟩:=az;have al:=hid ab;clear g Z aa ab;go_wp2;clear aq ar y0 y1 y2 y3 I h;go_loopw [43] (fun i w3=>∃t:Nat,t<=y.kids.length/\i=.int .i64 t/\Own w3 w2.heap.size 3 (a+1) (Qa_ (vS_ (QD_ ps m++y.kids.take t) (a+1)))/\Below w.heap.size w w3) (fun i _=>y.kids.length - (intOf i).toNat)
      case atStart=>exact⟨0,Nat.zero_le _,rfl,by simpa using G,C⟩
      case round=>
       clear G C;obtain⟨t,ht,rfl,g,h⟩:=hrel;by_cases E:t < y.kids.length
       ·obtain⟨v,hd⟩:∃d,y.kids[t]? =some d:=⟨_,List.getElem?_eq_getElem E⟩;have hv:=al.o v (List.mem_of_getElem? hd);obtain⟨q,rfl⟩:=Int.eq_ofNat_of_zero_le hv.1;have B:q < a+1:=oo;have k0:(0:Int)<=(q:Int):=oo;have k1:(q:Int) < ((a+1:Nat):Int):=oo;have gt:(t:Int) < y.kids.length:=oo;obtain⟨b5,aG,rfl,ap,cv⟩:=Ql_ (ak.o.below h) E hd;have z:=(g.rd (size:=1) (n:=a+1) (by simp[Qa_,Xq_]));obtain⟨b6,af,H,J,cq⟩:=Ql_ z B (VD_ B);injection H with H;injection H with e61 e62;subst e61;subst e62;simp only[Nat.zero_add]at cq;have L:=hid (xK_ (F:=QD_ ps m++y.kids.take t) B);have Y:=hid (g.put (i:=q) (by simp[Qa_,Xq_];exact B) (.int .i64 (((QD_ ps m++y.kids.take t).count (q:Int):Nat)+1:Int)));have aI:=kl_ (QD_ ps m++y.kids.take t) (q:Int);have aO:(QD_ ps m++y.kids.take t).length<=12 * m+12:=(by rw[lA,List.length_take];omega);have ax:=hid (show y.kids.take (t+1)=y.kids.take t++[(q:Int)]by rw[List.take_add_one,hd];rfl);have av:=g.lt;have aJ:=g.frozen;clear hv hd z g;generalize hN:(QD_ ps m++y.kids.take t).count (q:Int)=N at *;clear hN;have aH:N<=3624:=oo;go_wp2;go_roundw
        case rel=>exact⟨t+1,oo,by go_num,by rw[ax.o,<-List.append_assoc,<-L.o];exact Y.o,grow_⟩
        case measure=>simp[intOf];omega
       ·obtain rfl:t=y.kids.length:=oo;rw[List.take_length,<-ao.o]at g;have HO:=hid g;clear g;go_wp2;go_roundw
        case rel=>exact⟨m+1,oo,by go_num,HO.o,h⟩
        case measure=>simp[intOf];omega
     ·obtain rfl:m=a+1:=oo;have av:=g.lt;have z:=hid (g.rd (size:=1) (n:=a+1) (by simp[Qa_,Xq_]));clear g;have e5:((a+1:Nat):Int) - 1=(a:Int):=oo;go_wp2
      go_loop [60] (fun i=>∃j:Nat,j<=a/\i=.int .i64 j/\Hid (Xm_ ps (a+1) j)) (fun i=>a - (intOf i).toNat)
      case atStart=>exact⟨0,Nat.zero_le _,rfl,(show ∀i,_ from fun i hi=>absurd hi oo)⟩
      case round=>
       obtain⟨j,hj,rfl,O⟩:=hrel;by_cases aM:j < a
       ·obtain⟨b6,af,H,J,cq⟩:=Ql_ z.o (show j < a+1 from oo) (VD_ (show j < a+1 from oo));injection H with H;injection H with e61 e62;subst e61;subst e62;simp only[Nat.zero_add]at cq;have gj:(j:Int) < a:=oo;by_cases h1:(QD_ ps (a+1)).count (j:Int)=1
        ·have an:Hid (Xm_ ps (a+1) (j+1)):=(show ∀i,_ from fun i hi=>by
          by_cases e:i=j
          ·subst e;exact h1
          ·exact O.o i oo)
         rw[h1]at cq;clear f O h1;go_wp2
         go_round
         case rel=>exact⟨j+1,oo,by go_num,an⟩
         case measure=>simp[intOf];omega
        ·have r:T=false:=(by rw[f.o];exact vU_ oo h1);subst r;have aP:((((QD_ ps (a+1)).count (j:Int):Nat):Int) != 1)=true:=(by rw[bne_iff_ne];omega);have aB:((((QD_ ps (a+1)).count (j:Int):Nat):Int)==1)=false:=(by rw[beq_eq_false_iff_ne];omega);clear f O;generalize (QD_ ps (a+1)).count (j:Int)=N at *;go_wp2;go_ret;exact⟨rfl,h⟩
       ·obtain rfl:j=a:=oo;have r:T=true:=(by rw[f.o];exact xL_ (by simpa using O.o));subst r;clear f O;go_wp2;go_ret;exact⟨rfl,h⟩
 ·have l:=hid (fun W=>Vo_ (show inB (n:Int) 1 300=false from decide_eq_false oo) W);have r:T=false:=by rw[f.o,show inB (n:Int) 1 300=false from decide_eq_false oo];rfl
  subst r;clear f;go_enter func116,ntmps116;go_wp2_with fail
  refine(l.o _).mono ?_;rintro e w1 ⟨rfl,rfl⟩;go_wp2;go_ret;exact⟨rfl,grow_⟩
theorem Zu_ (A:OA) (n c:Nat) (ps:List PN) (w:World) (hn:n<=1048576) (J:Nps w A n ps) (hb:Hid (PNs ps)):
  Calls prog 47 #[.slice A n c] w fun e w'=>e=.returned (.bool (KL_ ps))/\Below w.heap.size w w':=by
 have L:=hid J;have HL:=hid J.len;have f:Hid (KL_ ps=(inB (n:Int) 1 300&&((Qs_ ps ((n:Int) - 1)==22)&&(!(Zc_ ps (n - 1)==0)&&Jg_ ps n)))):=(show _=_ by unfold KL_;rw[HL.o]);generalize KL_ ps=T at f |-
 clear J;by_cases aM:1<=n/\n<=300
 ·have l:=hid (fun W=>Kh_ (show inB (n:Int) 1 300=true from decide_eq_true oo) W);obtain⟨a,rfl⟩:∃a,n=a+1:=⟨n - 1,oo⟩;have e1:((a+1:Nat):Int) - 1=(a:Int):=oo;obtain⟨x,hx⟩:=L.o.get (show a < a+1 from oo);obtain⟨b,off,A2,c2,rfl,Q,x0,x1,x2,x3,ay⟩:=L.o.at_ (show a < a+1 from oo) hx;have X:=QR_ hx;replace f:Hid (T=((x.kind==22)&&(!(Zc_ ps a==0)&&Jg_ ps (a+1)))):=(show _=_ by
   rw[f.o,show inB ((a+1:Nat):Int) 1 300=true from decide_eq_true oo,e1,X,Nat.add_sub_cancel,Bool.true_and])
  have g1:(a:Int) < ((a+1:Nat):Int):=oo;have g0:(0:Int)<=(a:Int):=oo;clear X ay x1 x2 x3
  cases o:(x.kind==22)with
  |false=>
   have r:T=false:=(by rw[f.o,o];rfl);subst r;have O:(x.kind != 22)=true:=(by unfold bne;rw[o];rfl);clear f o;go_enter func47,ntmps47;go_wp2_with fail
   refine(l.o _).mono ?_;rintro e w1 ⟨rfl,rfl⟩;go_wp2;go_ret;exact⟨rfl,grow_⟩
  |true=>
   have O:(x.kind != 22)=false:=(by unfold bne;rw[o];rfl);replace f:Hid (T=(!(Zc_ ps a==0)&&Jg_ ps (a+1))):=(show _=_ by rw[f.o,o,Bool.true_and]);have U:Yf_ ps (a:Int)=Zc_ ps a:=(by unfold Yf_;rw[if_pos (by rw[HL.o];omega),Int.toNat_natCast]);have p:=hid (fun W (hW:Below w.heap.size w W)=>show Calls prog 79 #[.slice (some ⟨b,off,none⟩) (a+1) c,.int .i64 a] W fun e w'=>e=.returned (.int .i64 (Zc_ ps a))/\Below W.heap.size W w' by rw[<-U];exact VV_ _ (a+1) c ps a W hn (L.o.below hW) hb);clear o U;by_cases k:Zc_ ps a=0
   ·have r:T=false:=(by rw[f.o,k];rfl);subst r;rw[k]at p;clear f k;go_enter func47,ntmps47;go_wp2_with fail
    refine(l.o _).mono ?_;rintro e w1 ⟨rfl,rfl⟩;go_wp2_with fail
    refine(p.o _ br).mono ?_;rintro e w2 ⟨rfl,h2⟩;go_wp2;go_ret;exact⟨rfl,h2⟩
   ·have S:(Zc_ ps a==0)=false:=(by rw[beq_eq_false_iff_ne];exact k);have HG:=hid (UZ_ (ps:=ps) (by rw[HL.o,Nat.add_sub_cancel];exact k));replace f:Hid (T=Jg_ ps (a+1)):=(show _=_ by rw[f.o,S];rfl);generalize Zc_ ps a=D at p S k;obtain⟨i0,hi,ad,ae,af⟩:=info_parts QB_;have s:=fun W=>QK_ (P:=prog) 34 3 i0 _ underlying34 hi ad .i64 .i64 (a+1) (a+1) (Nat.le_refl _) (by rw[af];omega) oo W
    rw[ae,Nat.mul_one]at s;simp only[Value.cells]at s;have e9:((a+1:Nat):Int)=(a:Int)+1:=oo;rw[e9]at s;have aj:=hid (zw_ HG.o.len);clear hi ad ae af k;go_enter func47,ntmps47;go_wp2_with fail
    refine(l.o _).mono ?_;rintro e w1 ⟨rfl,rfl⟩;go_wp2_with fail
    refine(p.o _ br).mono ?_;rintro e w2 ⟨rfl,h2⟩;clear p l Q x0;go_wp2;clear s;have aC:=h2.size;have hZ:=Own.zeros (w:=w2) (e:=3) (a+1);go_loopw [5] (fun i wr=>∃m:Nat,m<=a+1/\i=.int .i64 m/\Own wr w2.heap.size 3 (a+1) (Qa_ (vS_ (QD_ ps m) (a+1)))/\Below w.heap.size w wr) (fun i _=>a+1 - (intOf i).toNat)
    case atStart=>exact⟨0,Nat.zero_le _,rfl,by rw[U9_,vT_];exact hZ,grow_⟩
    case round=>
     clear hZ;obtain⟨m,hm,rfl,g,h⟩:=hrel;have aL:=h2.size;by_cases Y:m < a+1
     ·have aA:(m:Int) < ((a+1:Nat):Int):=oo;obtain⟨y,hy⟩:=L.o.get Y;obtain⟨b3,aF,A3,c3,e3,aq,y0,y1,y2,y3,ab⟩:=L.o.at_ Y hy;injection e3 with e3;injection e3 with e31 e32;subst e31;subst e32;obtain⟨R,V⟩:=QE_ h;have az:=HG.o m y hy;have HY:=hid hy;have al:=hid ab;have ap:=hid (Zz_ hy);have G:=g;have aD:=h.size;have C:=h;have aO:=aj.o m;obtain⟨aE,ac⟩:=az;have am:=hid ac;clear g hy ab ac;go_wp2;clear R V h;go_loopw [6] (fun i w3=>∃t:Nat,t<=y.kids.length/\i=.int .i64 t/\Own w3 w2.heap.size 3 (a+1) (Qa_ (vS_ (QD_ ps m++y.kids.take t) (a+1)))/\Below w.heap.size w w3) (fun i _=>y.kids.length - (intOf i).toNat)
      case atStart=>exact⟨0,Nat.zero_le _,rfl,by simpa using G,C⟩
      case round=>
       clear G C;obtain⟨t,ht,rfl,g,h⟩:=hrel;obtain⟨R,V⟩:=QE_ h;by_cases E:t < y.kids.length
       ·obtain⟨v,hd⟩:∃d,y.kids[t]? =some d:=⟨_,List.getElem?_eq_getElem E⟩;have hv:=am.o v (List.mem_of_getElem? hd);obtain⟨q,rfl⟩:=Int.eq_ofNat_of_zero_le hv.1;have B:q < a+1:=oo;have k0:(0:Int)<=(q:Int):=oo;have k1:(q:Int) < ((a+1:Nat):Int):=oo;have gt:(t:Int) < y.kids.length:=oo;obtain⟨b5,aG,rfl,ar,cv⟩:=Ql_ (al.o.below h) E hd;have z:=(g.rd (size:=1) (n:=a+1) (by simp[Qa_,Xq_]));obtain⟨b6,ag,H,I,cq⟩:=Ql_ z B (VD_ B);injection H with H;injection H with e61 e62;subst e61;subst e62;simp only[Nat.zero_add]at cq;have K:=hid (xK_ (F:=QD_ ps m++y.kids.take t) B);have Z:=hid (g.put (i:=q) (by simp[Qa_,Xq_];exact B) (.int .i64 (((QD_ ps m++y.kids.take t).count (q:Int):Nat)+1:Int)));have aJ:=kl_ (QD_ ps m++y.kids.take t) (q:Int);have aP:(QD_ ps m++y.kids.take t).length<=12 * m+12:=(by rw[lA,List.length_take];omega);have ax:=hid (show y.kids.take (t+1)=y.kids.take t++[(q:Int)]by rw[List.take_add_one,hd];rfl);have av:=g.lt;have aK:=g.frozen;clear hv hd z g;generalize hN:(QD_ ps m++y.kids.take t).count (q:Int)=N at *;clear hN;have aI:N<=3624:=oo;go_wp2;go_roundw
        case rel=>exact⟨t+1,oo,by go_num,by rw[ax.o,<-List.append_assoc,<-K.o];exact Z.o,grow_⟩
        case measure=>simp[intOf];omega
       ·obtain rfl:t=y.kids.length:=oo;rw[List.take_length,<-ap.o]at g;have HO:=hid g;clear g;go_wp2;go_roundw
        case rel=>exact⟨m+1,oo,by go_num,HO.o,h⟩
        case measure=>simp[intOf];omega
     ·obtain rfl:m=a+1:=oo;have av:=g.lt;have z:=hid (g.rd (size:=1) (n:=a+1) (by simp[Qa_,Xq_]));clear g;clear L;go_wp2
      go_loop [7] (fun i=>∃j:Nat,j<=a/\i=.int .i64 j/\Hid (Xm_ ps (a+1) j)) (fun i=>a - (intOf i).toNat)
      case atStart=>exact⟨0,Nat.zero_le _,rfl,(show ∀i,_ from fun i hi=>absurd hi oo)⟩
      case round=>
       obtain⟨j,hj,rfl,M⟩:=hrel;by_cases aN:j < a
       ·obtain⟨b6,ag,H,I,cq⟩:=Ql_ z.o (show j < a+1 from oo) (VD_ (show j < a+1 from oo));injection H with H;injection H with e61 e62;subst e61;subst e62;simp only[Nat.zero_add]at cq;have gj:(j:Int)+1 < (a:Int)+1:=oo;have aH:(j:Int) < (a:Int)+1:=oo;by_cases h1:(QD_ ps (a+1)).count (j:Int)=1
        ·have ao:Hid (Xm_ ps (a+1) (j+1)):=(show ∀i,_ from fun i hi=>by
          by_cases e:i=j
          ·subst e;exact h1
          ·exact M.o i oo)
         rw[h1]at cq;clear f M h1;go_wp2
         go_round
         case rel=>exact⟨j+1,oo,by go_num,ao⟩
         case measure=>simp[intOf];omega
        ·have r:T=false:=(by rw[f.o];exact vU_ oo h1);subst r;have aQ:((((QD_ ps (a+1)).count (j:Int):Nat):Int) != 1)=true:=(by rw[bne_iff_ne];omega);have aB:((((QD_ ps (a+1)).count (j:Int):Nat):Int)==1)=false:=(by rw[beq_eq_false_iff_ne];omega);clear f M;generalize (QD_ ps (a+1)).count (j:Int)=N at *;go_wp2;go_ret;exact⟨rfl,h⟩
       ·obtain rfl:j=a:=oo;have gj:¬((j:Int)+1 < (j:Int)+1):=oo;have r:T=true:=(by rw[f.o];exact xL_ (by simpa using M.o));subst r;clear f M;go_wp2;go_ret;exact⟨rfl,h⟩
 ·have l:=hid (fun W=>Kh_ (show inB (n:Int) 1 300=false from decide_eq_false oo) W);have r:T=false:=by rw[f.o,show inB (n:Int) 1 300=false from decide_eq_false oo];rfl
  subst r;clear f;go_enter func47,ntmps47;go_wp2_with fail
  refine(l.o _).mono ?_;rintro e w1 ⟨rfl,rfl⟩;go_wp2;go_ret;exact⟨rfl,grow_⟩
end Go.Proofs.YtgbikafalcbibaaGreatDoor

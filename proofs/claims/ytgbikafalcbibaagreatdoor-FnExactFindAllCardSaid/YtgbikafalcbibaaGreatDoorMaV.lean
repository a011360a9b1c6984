/-
  Put together by program (shake.py):FeA,ParZ,FeB,FeC,FeE,FeF,FgA,FgC.
-/
import Derived.Test.YtgbikafalcbibaaGreatDoorMaU
set_option maxRecDepth 100000
set_option linter.all false
set_option maxHeartbeats 25600000
open Go.Lib (hid)
open Go.Proofs.Tryz
namespace Go.Proofs.YtgbikafalcbibaaGreatDoor
open Go.RowKit
def Yg_ (p:PN):Bool:=(p.kind==18)&&((p.kids.length:Int)==0)
def KD_ (t:BA) (ps:List PN):Nat->List FindingD
 |0=>[]
 |k+1=>KD_ t ps k++(match ps[k]? with|none=>[]|some p=>if Yg_ p=true then [(4,KS_ t (Q3_ ps k),noT)]else [])
def KQ_ (t:BA):List FindingD:=match KF_ t with|none=>[]|some ps=>KD_ t ps ps.length
theorem UQ_ {t:BA} {ps:List PN} {k:Nat} {p:PN} (h:ps[k]? =some p) (hp:Yg_ p=true):KD_ t ps (k+1)=KD_ t ps k++[(4,KS_ t (Q3_ ps k),noT)]:=by
 rw[KD_,h];simp only[hp,if_true]
theorem zs_ {t:BA} {ps:List PN} {k:Nat} {p:PN} (h:ps[k]? =some p) (hp:Yg_ p=false):KD_ t ps (k+1)=KD_ t ps k:=by
 rw[KD_,h];simp[hp]
theorem V3_ (t:BA) (ps:List PN) (k:Nat):(KD_ t ps k).length<=k:=by
 induction k with
 |zero=>simp[KD_]
 |succ k ih=>
  rw[KD_,lA];split
  ·simp;omega
  ·split<;>simp<;>omega
theorem qf_ (t:BA):(KQ_ t).length<=300:=by
 unfold KQ_;split
 ·simp
 ·next ps h=>exact Nat.le_trans (V3_ _ _ _) (QU_ h).2.1
theorem SRd.one {t:BA} {w w':World} {e:Ending} (h:SRd t w e w'):∃(A:OA) (n c:Nat) (p:Int) (ok:Bool) (ps:List PN),e=.returned (.tuple #[.slice A n c,.int .i64 p,.bool ok])/\NpsM w' w.heap.size A n c ps/\PNs ps/\n<=300/\KQ_ t=KD_ t ps n/\Below w.heap.size w w':=by
 obtain⟨hb,h⟩:=h;unfold KQ_;revert h;rcases hr:KF_ t with _|ps
 ·rintro⟨g,p,rfl,a⟩;exact⟨some ⟨g,0,none⟩,0,0,p,false,[],rfl,a,(fun p hp=>by cases hp),Nat.zero_le _,rfl,hb⟩
 ·rintro⟨A,c,rfl,a⟩;exact⟨A,ps.length,c,0,true,ps,rfl,a,(QU_ hr).2.2,(QU_ hr).2.1,rfl,hb⟩
theorem GN_ (t:BA) (w:World) (ht:t.size<=1048576):Calls prog 34 #[.string t] w (Kj_ w (KQ_ t)):=by
 obtain⟨i0,hi,P,Q,R⟩:=info_parts Kl_;have m:=hid (And.intro hi (And.intro P (And.intro Q R)));have HR:=hid (fun W=>(Zb_ t W ht).mono fun _ _ h=>SRd.one h);have V:=hid (fun(A:OA) (n c:Nat) (ps:List PN) (k:Nat) (W:World) h1 s h3=>XZ_ t A n c ps k W ht h1 s h3);unfold Kj_;obtain⟨fe,G⟩:=ex_ (KQ_ t);rw[G]at HR;rw[G];clear hi P Q R G;go_enter func34,ntmps34;go_wp2_with fail
 refine(HR.o _).mono ?_;rintro e w1 ⟨AN,n,cN,p,ok,ps,rfl,j,O,ah,L,h1⟩;have J:=hid (j.more (B':=w.heap.size) (by simp));have aa:=hid O;have HF:=hid L;have HL:=hid j.nps.len;have M0:=hid (show Mine w1 w.heap.size 41 3 (some ⟨w.heap.size,0,none⟩) (KD_ t ps 0).length 0 ((KD_ t ps 0).flatMap Qc_)from Mine.next (QI_ w 41 3) h1);have v:=QA_ br h1;clear h1 j O L HR;go_wp2;go_loopw [3,7] (fun o i wr=>∃(k:Nat) (A:OA) (c:Nat),k<=n/\i=.int .i64 k/\o=.slice A (KD_ t ps k).length c/\Hid (Mine wr w.heap.size 41 3 A (KD_ t ps k).length c ((KD_ t ps k).flatMap Qc_))/\Hid (NpsM wr w.heap.size AN n cN ps)/\Below w.heap.size w wr) (fun _ i _=>n - (intOf i).toNat)
 case atStart=>exact⟨0,_,_,Nat.zero_le _,rfl,rfl,M0,J,v⟩
 case round=>
  clear M0 v J;obtain⟨k,A,c,hk,rfl,rfl,z,C,v⟩:=hrel;have y:=V3_ t ps k;obtain⟨acc,b⟩:=ex_ (KD_ t ps k);rw[b]at z y;rw[b];have U:=hid b;obtain⟨m2,q⟩:=ex_ acc.length;rw[q]at z y;rw[q];have r:=hid q;clear b q;by_cases M:k < n
  ·obtain⟨S,N⟩:=C.o.nps.get M;obtain⟨b',off,A',c',rfl,K,x0,x1,x2,x3,_,_⟩:=C.o.nps.atc M N;have ag:(k:Int) < (n:Int):=oo;by_cases f:Yg_ S=true
   ·have a:=hid (UQ_ (t:=t) N f);unfold Yg_ at f;rw[Bool.and_eq_true]at f;obtain⟨g1,g2⟩:=f;rw[U.o]at a;have T:=hid (fun W s=>V.o (some ⟨b',off,none⟩) n cN ps k W oo s aa);revert a T;generalize KS_ t (Q3_ ps k)=D;intro a T;clear N x1 x3;go_wp2_with fail
    refine(T.o _ C.o.nps).mono ?_;rintro e w2 ⟨rfl,s⟩;have B:=hid (z.o.next s);have Y:=hid (C.o.next s);have E:=Qb_ v s;clear z C v s x0 x2 K;go_wp2_with (at_builtin;(refine wpList_append_own _ rfl (.tmp 36) (.tmp 42) _ rfl w.heap.size 41 i0 (.agg #[.int .i64 0,.int .i64 0,.string ⟨#[]⟩]) 3 32 underlying22 m.o.1 m.o.2.1 m.o.2.2.1 m.o.2.2.2 rfl (by decide) _ _ _ rfl (Mine.alloc B.o _) ⟨w2.heap.size,0,none⟩ 1 1 [.int .i64 4,.int .i64 D,.string ⟨#[]⟩] rfl rfl (X1_ _ _ _ _ _) (fun x hx=>by simp at hx;rcases hx with rfl|rfl|rfl<;>rfl) (by unfold maxLen;omega) oo (by have:=E.size;simp;omega) ?_);intro v' w3 l H I)
    have F:=E.alloc E.size (.cells #[.int .i64 4,.int .i64 D,.string ⟨#[]⟩] 41);have ad:Below w.heap.size w w3:=F.grown H F.size (fun g hg=>(Mine.blk B.o ((Qw_ A m2 c).symm.trans hg)).1);have Z:=hid ((Y.o.next (br.alloc (Nat.le_refl _) (.cells #[.int .i64 4,.int .i64 D,.string ⟨#[]⟩] 41))).grown H (fun g hg=>by
     obtain⟨cs,hk⟩:=QP_ (Mine.alloc B.o (.cells #[.int .i64 4,.int .i64 D,.string ⟨#[]⟩] 41)) ((Qw_ A m2 c).symm.trans hg);exact⟨_,cs,hk,by decide,by decide⟩))
    obtain⟨A3,c3,rfl,m3⟩:=Mine.of l;rw[<-Yo_]at m3;have X:=hid m3;clear l m3 H I F;go_wp2;go_roundw
    case rel=>exact⟨k+1,A3,c3,oo,by go_num,by rw[a.o,lA,r.o];rfl,(by rw[a.o,lA,r.o];exact X.o),Z,ad⟩
    case measure=>simp[intOf];omega
   ·have d:Yg_ S=false:=(by rcases bft (Yg_ S)with h|h;exact absurd h f;exact h);have a:=hid (zs_ (t:=t) N d);rw[U.o]at a;unfold Yg_ at d;clear N f x1 x3;rcases bft (S.kind==18)with g1|g1
    ·rw[g1,Bool.true_and]at d;go_wp2;go_roundw
     case rel=>exact⟨k+1,A,c,oo,by go_num,by rw[a.o,r.o],(by rw[a.o,r.o];exact z),C,v⟩
     case measure=>simp[intOf];omega
    ·clear d;go_wp2;go_roundw
     case rel=>exact⟨k+1,A,c,oo,by go_num,by rw[a.o,r.o],(by rw[a.o,r.o];exact z),C,v⟩
     case measure=>simp[intOf];omega
  ·obtain rfl:k=n:=oo;go_wp2;go_ret;rw[HF.o,U.o];exact⟨A,c,by rw[r.o];rfl,(by rw[r.o];exact z.o),v⟩
theorem RdI.npsM {R:RC} {d:Nat} {s:PS} {row:ON} {w:World} (hi:R.imp=true) (h:RdI R d (some s) row w):
  ∃A c,w.cell? ⟨R.T,4,none⟩=some (.bool false)/\w.cell? ⟨R.T,5,none⟩=some (.slice A s.nodes.length c)/\(∀i,w.frozen? ⟨R.T,i,none⟩=false)/\R.T < w.heap.size/\NpsM w R.w0.heap.size A s.nodes.length c s.nodes:=by
 obtain⟨a,b,AN,cN,l,f,⟨rfl,_,e⟩,_⟩:=h;obtain⟨c0,c2,c3,c4,c5,cf,cz⟩:=f.ci hi;have g:s.nodes.length=l.length:=by rw[e,List.length_map]
 refine⟨AN,cN,c4,by rw[g];exact c5,cf,cz,l,?_,g.symm,fun x hx=>⟨⟨(f.2.2.1.1 x hx).1.1,fun _ _ h=>h⟩,(f.2.2.1.1 x hx).2⟩,e.symm⟩;rw[g];exact f.2.1
def RdRM (t:BA) (w:World) (e:Ending) (w':World):Prop:=
 ∃(T:Nat) (p:Int),e=.returned (.tuple #[.pointer (some ⟨T,0,none⟩),.int .i64 p])/\w'.cell? ⟨T,4,none⟩=some (.bool (KF_ t).isNone)/\T < w'.heap.size/\Below w.heap.size w w'/\∀ps,KF_ t=some ps->p=0/\∃A c,w'.cell? ⟨T,5,none⟩=some (.slice A ps.length c)/\NpsM w' w.heap.size A ps.length c ps
theorem Wv_ (t:BA) (w:World) (ht:t.size<=1048576):Calls prog 82 #[.string t] w (RdRM t w):=by
 have HS:=hid (XL_ t w ht);have N:=Z0_ t;have o:=hid (fun h=>qT_ (t:=t) h);have p:=hid (fun h1 h2=>GJ_ (t:=t) h1 h2);have q:=hid (fun h1 (s:PS) h2=>qU_ (t:=t) h1 (s:=s) h2);have B:=hid (fun(s:PS) h=>Yn_ (t:=t) (s:=s) h);unfold RdRM;unfold q7_ at HS;generalize KF_ t=RP at o p q |-
 generalize QY_ t=Z at HS N o p q B;obtain⟨sg,pl,ok⟩:=Z;dsimp only at HS N o p q B;obtain⟨n,hn⟩:=ex_ sg.length;rw[hn]at HS N;go_enter func82,ntmps82;go_wp2_with fail
 refine HS.o.mono ?_;rintro e w1 ⟨A,c,rfl,m1,h1⟩;have f:=h1.size;have ap:=hid m1;have H:=hid h1;clear m1 h1 HS
 cases ok with
 |false=>
  have S:=o.o (by trivial);subst S;have K:=Blk.new w1 105 #[.slice A n c,.int .i64 t.size,.int .i64 0,.int .i64 0,.bool true,.slice none 0 0,.slice none 0 0];have k4:=K.q4;have kz:=K.lt;have ao:=hid (H.o.alloc f (.cells #[.slice A n c,.int .i64 t.size,.int .i64 0,.int .i64 0,.bool true,.slice none 0 0,.slice none 0 0] 105));clear K o p q B;go_wp2;go_ret2;exact⟨w1.heap.size,pl,rfl,k4,kz,ao.o,fun ps h=>by cases h⟩
 |true=>
  obtain⟨R,P⟩:∃R:RC,R=⟨true,w1.heap.size,A,n,c,t.size,.slice none 0 0,sg,w1,fun _=>False⟩:=⟨_,rfl⟩;have K:=Blk.new w1 105 #[.slice A n c,.int .i64 t.size,.int .i64 0,.int .i64 0,.bool false,.slice none 0 0,.slice none 0 0];have ae:RdI R 0 (some ⟨0,[]⟩) none (w1.alloc (.cells #[.slice A n c,.int .i64 t.size,.int .i64 0,.int .i64 0,.bool false,.slice none 0 0,.slice none 0 0] 105)):=by
   subst P;exact⟨0,false,none,0,[],⟨K,Mine.mk_nil _ _ _ _,⟨fun x hx=>absurd hx (by simp),fun g hg=>False.elim hg⟩,by simp,Nat.zero_le _,br.alloc (Nat.le_refl _) _,⟨hn,N,ap.o.rd,Nat.le_refl _⟩⟩,⟨rfl,rfl,rfl⟩,rfl⟩
  have r:R.imp=true:=by rw[P]
  have C:R.T=w1.heap.size:=by rw[P]
  have k:R.n=n:=by rw[P]
  have Y:R.M=.slice none 0 0:=by rw[P]
  have J:R.sg=sg:=by rw[P]
  have G:R.A=A/\R.c=c:=by rw[P];exact⟨rfl,rfl⟩
  have hF:=kr_ R r (n+2) (14 * (n+2)) (by rw[k];omega) oo (by rw[k];omega) (Jt_ R r (n+2) (by rw[k];omega) _) (some ⟨0,[]⟩) none _ ae Y;have ai:kp_ R.sg (Qd_ R.sg (n+2) (14 * (n+2))) (n+2) (some ⟨0,[]⟩)=ZD_ sg:=by rw[J];unfold ZD_;rw[hn]
  rw[ai,C]at hF;have HF:=hid hF;have aG:=hid (H.o.alloc f (.cells #[.slice A n c,.int .i64 t.size,.int .i64 0,.int .i64 0,.bool false,.slice none 0 0,.slice none 0 0] 105));have L:R.w0=w1:=by rw[P]
  have aq:=hid L;clear hF ai K ae;go_wp2_with fail
  refine HF.o.mono ?_;rintro e w2 ⟨rfl,v,row',j,aI⟩;have I:Hid (Below w.heap.size w w2):=(show Below w.heap.size w w2 from H.o.trans (by have:=j.old;rw[show(R.mem v).w0=w1 from L]at this;exact this.mono f));have aK:=j.old.size
  cases D:ZD_ sg with
  |none=>
   have S:=p.o (by trivial) D;subst S;rw[D]at j;obtain⟨a,b,AN,cN,l,hc,hb,aj⟩:=j;obtain⟨c0,c2,c3,F,X,O,m⟩:=RdC.ci (R:=R.mem v) r hc;obtain rfl:b=true:=hb;have af:=hc.2.2.2.2.1;have d:=hc.2.2.2.2.2.2.rd.below hc.2.2.2.2.2.1;change w2.cell? ⟨R.T,0,none⟩=some (.slice R.A R.n R.c)at c0;change w2.cell? ⟨R.T,2,none⟩=_ at c2;change w2.cell? ⟨R.T,4,none⟩=_ at F;change R.T < _ at m;change a<=R.n at af;change Rd w2 4 R.A R.n (R.sg.flatMap Q1_)at d;rw[C]at c0 c2 F m;rw[G.1,k,G.2]at c0;rw[k]at af;rw[G.1,k,J]at d;clear hc c3 X O aj HF o p q B Y J G C k r L;by_cases aD:a < n
   ·obtain⟨x,hx⟩:∃x,sg[a]? =some x:=⟨_,gE oo⟩;obtain⟨b1,off,hA,aF,e0,e1,e2,e3⟩:=XY_ d aD hx;subst hA;have ah:(a:Int) < n:=oo;clear d hx e0 e1 e3;go_wp2;go_quiet (fail);go_wp2;go_ret2;exact⟨w1.heap.size,_,rfl,F,m,Qb_ I.o (below_drewN br _),fun ps h=>by cases h⟩
   ·have ah:¬(a:Int) < n:=oo;clear d;go_wp2;go_ret2;exact⟨w1.heap.size,_,rfl,F,m,I.o,fun ps h=>by cases h⟩
  |some s=>
   have S:=q.o (by trivial) s D;obtain⟨aJ,ak⟩:=B.o s D;rw[D]at j;obtain⟨A2,av,F,X,O,m,Q⟩:=RdI.npsM (R:=R.mem v) r j;change w2.cell? ⟨R.T,4,none⟩=_ at F;change w2.cell? ⟨R.T,5,none⟩=_ at X;change ∀i,w2.frozen? ⟨R.T,i,none⟩=false at O;change R.T < _ at m;rw[C]at F X O m;have ac:=hid j;have V:=hid r;have HT:=hid (VP_ A2 s.nodes.length av s.nodes w2 oo Q.nps (hid ak));have hz:=H.o.size;have ad:=hid C;clear Q ak j HF o p q B Y J G C k r L D
   cases E:KL_ s.nodes with
   |true=>
    rw[E,if_pos rfl]at S;rw[E]at HT;subst S;clear E;go_wp2_with fail
    refine HT.o.mono ?_;rintro e w3 ⟨rfl,y⟩;have ax:=((QE_ y).1 _ 4 m).trans F;have aH:=((QE_ y).1 _ 5 m).trans X;have az:∀i,w3.frozen? ⟨w1.heap.size,i,none⟩=false:=fun i=>((QE_ y).2 _ i m).trans (O i)
    have aA:=Nat.lt_of_lt_of_le m y.size;obtain⟨A4,ay,q4,q5,_,qz,z⟩:=RdI.npsM (R:=R.mem v) V.o (RdI.set4 (R:=R.mem v) V.o (ac.o.next y));change (w3.setCell ⟨R.T,4,none⟩ (.bool false)).cell? ⟨R.T,4,none⟩=_ at q4;change (w3.setCell ⟨R.T,4,none⟩ (.bool false)).cell? ⟨R.T,5,none⟩=_ at q5;change R.T < (w3.setCell ⟨R.T,4,none⟩ (.bool false)).heap.size at qz;change NpsM (w3.setCell ⟨R.T,4,none⟩ (.bool false)) R.w0.heap.size _ _ _ _ at z;rw[ad.o]at q4 q5 qz z;have T:=hid (And.intro q4 (And.intro q5 (And.intro qz z)));clear q4 q5 qz z;have U:=hid ((Qb_ I.o y).setCell (show w.heap.size<=(⟨w1.heap.size,4,none⟩:Addr).block from f) (.bool false));clear y F X O m HT;go_wp2;go_ret2;exact⟨w1.heap.size,_,rfl,T.o.1,T.o.2.2.1,U.o,fun ps h=>by obtain rfl:=Option.some.inj h;exact⟨rfl,A4,ay,T.o.2.1,by have h:=T.o.2.2.2;rw[aq.o]at h;exact h.more f⟩⟩
   |false=>
    rw[E,if_neg (by decide)]at S;rw[E]at HT;subst S;clear E;go_wp2_with fail
    refine HT.o.mono ?_;rintro e w3 ⟨rfl,y⟩;have M:=RdI.set4b (R:=R.mem v) V.o (ac.o.next y);change (w3.setCell ⟨R.T,4,none⟩ (.bool true)).cell? ⟨R.T,4,none⟩=_/\R.T < _ at M;rw[ad.o]at M;have T:=hid M;clear M;have ax:=((QE_ y).1 _ 4 m).trans F;have az:∀i,w3.frozen? ⟨w1.heap.size,i,none⟩=false:=fun i=>((QE_ y).2 _ i m).trans (O i)
    have aA:=Nat.lt_of_lt_of_le m y.size;have U:=hid ((Qb_ I.o y).setCell (show w.heap.size<=(⟨w1.heap.size,4,none⟩:Addr).block from f) (.bool true));clear y F X O m HT;go_wp2;go_ret2;exact⟨w1.heap.size,_,rfl,T.o.1,T.o.2,U.o,fun ps h=>by cases h⟩
theorem zb_ (t:BA) (w:World) (ht:t.size<=1048576) (ps:List PN) (h:KF_ t=some ps):Calls prog 52 #[.string t] w fun e w'=>∃A c,e=.returned (.tuple #[.slice A ps.length c,.int .i64 0,.bool true])/\NpsM w' w.heap.size A ps.length c ps/\Below w.heap.size w w':=by
 have a:=Wv_ t w ht;unfold RdRM at a;rw[h]at a;have a:=hid a;clear h;go_enter func52,ntmps52;go_wp2_with fail
 refine a.o.mono ?_;rintro e w1 ⟨T,p,rfl,c4,cz,hb,h5⟩;obtain⟨rfl,A,c,c5,hn⟩:=h5 ps rfl;have HB:=hid hb;have HN:=hid hn;change w1.cell? ⟨T,4,none⟩=some (.bool false)at c4;clear hb hn h5;go_wp2;refine bodyPost_ret (by simp[results,Tryz.results52,go_sem,];try rfl) rfl ?_;exact⟨A,c,rfl,HN.o,HB.o⟩
def Jk_ (l:LI):Prop:=∀x∈l,0<=x
theorem Qg3_ {l:LI} (h:Jk_ l) (k:Nat) (x:Nat):Jk_ (l.set k (x:Int)):=fun y hy=>by
 rcases List.mem_or_eq_of_mem_set hy with h2|rfl
 ·exact h y h2
 ·omega
theorem Qg2_ {g:Nat->TS->TS} (hg:∀k s,Jk_ s.2->Jk_ (g k s).2):∀(es:List Ev) (s:TS),Jk_ s.2->Jk_ (Ki_ g s es).2:=by
 intro es
 induction es with
 |nil=>intro s h;exact h
 |cons e es ih=>
  intro s h;rw[JZ_]
  cases e with
  |sg k t=>exact ih _ h
  |kid j=>exact ih _ (hg _ _ h)
theorem Qf2_ (ps:List PN):∀(f k:Nat) (s:TS),Jk_ s.2->Jk_ (Qn_ ps f k s).2:=by
 intro f
 induction f with
 |zero=>intro k s h;exact h
 |succ f ih=>
  intro k s h;unfold Qn_
  cases ps[k]? with
  |none=>exact h
  |some p=>exact Qg2_ ih _ _ (Qg3_ h k _)
theorem Qf3_ (ps:List PN):Jk_ (VJ_ ps).2:=Qf2_ ps _ _ _ (fun x hx=>by rw[(List.mem_replicate.1 hx).2];exact Int.le_refl _)
theorem jq_ {w w':World} {T B:Nat} {ty e:TypeId} {cs:Array Value} {s n c:Nat} {A:OA} {xs:List Value} (hm:Mine w B e s A n c xs) (hT:Blk w T ty cs) (k:Kr T none w none w') (b:e≠ty):Mine w' B e s A n c xs:=by
 have a:=hm.len;rcases hm.own with⟨rfl,rfl,rfl⟩|⟨g,rfl,hB,hn,hc,rest,hb,hs⟩
 ·exact⟨a,.inl ⟨rfl,rfl⟩⟩
 ·exact Mine.mk_own ⟨rest,hb.kr k (KM_ hb hT b) (by simp),hs⟩ a hB hn hc
theorem NpsM.kr {w w':World} {T B n c:Nat} {ty:TypeId} {cs:Array Value} {A:OA} {ps:List PN} (h:NpsM w B A n c ps) (hT:Blk w T ty cs) (k:Kr T none w none w') (h1:ty≠36) (h2:ty≠3):NpsM w' B A n c ps:=by
 obtain⟨l,hm,hl,hk,e⟩:=h;exact⟨l,jq_ hm hT k (Ne.symm h1),hl,fun x hx=>⟨(hk x hx).1,jq_ (hk x hx).2 hT k (Ne.symm h2)⟩,e⟩
theorem Qg5_ {w w':World} {T g cap:Nat} {ty e:TypeId} {cs:Array Value} {xs:List Value} (h:Own w g e cap xs) (hT:Blk w T ty cs) (k:Kr T none w none w') (a:e≠ty):Own w' g e cap xs:=by
 obtain⟨rest,hb,hs⟩:=h;exact⟨rest,hb.kr k (KM_ hb hT a) (by simp),hs⟩
def YP_ (t:BA) (ps:List PN):LI:=(VJ_ ps).2.map (KS_ t)
def FiP (w0:World) (B T:Nat) (AN:OA) (n cN:Nat) (ps:List PN) (ls:LI) (fs:List FindingD) (w:World):Prop:=
 ∃(AL:OA) (cL:Nat) (AF:OA) (cF:Nat),Blk w T 45 #[.slice AN n cN,.slice AL ls.length cL,.slice AF fs.length cF]/\NpsM w B AN n cN ps/\Mine w B 3 1 AL ls.length cL (Qa_ ls)/\Mine w B 41 3 AF fs.length cF (fs.flatMap Qc_)/\B<=T/\Below B w0 w
theorem QeR_ {ps:List PN} {w:World} {T Sb n c:Nat} {ty:TypeId} {A:OA} {w0:World} (h:TL ty T Sb A n c w0 (VJ_ ps) w):(VJ_ ps).2.length=n:=by
 obtain⟨_,_,_,_,_,h,_⟩:=h;exact h
theorem V5_ (t:BA) (w:World) (ht:t.size<=1048576) (h:KF_ t=none):Calls prog 21 #[.string t] w fun e w'=>∃T,e=.returned (.pointer (some ⟨T,0,none⟩))/\FiP w w.heap.size T none 0 0 [] [] [] w':=by
 have HR:=hid (qq_ t w ht h);clear h;go_enter func21,ntmps21;go_wp2_with fail
 refine HR.o.mono ?_;rintro e w1 ⟨p,rfl,h1⟩;have a:=h1.size;have K:=Blk.new w1 45 #[.slice none 0 0,.slice none 0 0,.slice none 0 0];have HK:=hid K;have HB:=hid (h1.alloc a (.cells #[.slice none 0 0,.slice none 0 0,.slice none 0 0] 45));clear K h1;go_wp2;go_ret;exact⟨w1.heap.size,rfl,none,0,none,0,HK.o,NpsM.none_ (Mine.mk_nil _ _ _ _),Mine.mk_nil _ _ _ _,Mine.mk_nil _ _ _ _,a,HB.o⟩
theorem Qdj_ {α:Type} {l:List α} {k:Nat} {x:α} (h:l[k]? =some x):l.take (k+1)=l.take k++[x]:=by
 rw[List.take_add_one,h];rfl
theorem QbX_ {w w1 w3 wr b:World} {A j:OA} {n c k l:Nat} {xs:List Value} {L:Int} {v':Value} (hK:Blk wr w1.heap.size 45 #[.slice A n c,.slice j k l,.slice none 0 0]) (hm:Mine wr w3.heap.size 3 1 j k l xs) (hk:Kr w1.heap.size none w3 none wr) (hb:Below w.heap.size w wr) (s:w.heap.size<=w1.heap.size) (t:w1.heap.size < w3.heap.size) (v:w3.heap.size<=wr.heap.size)
  (p:b.ownsRow w3.heap.size 3 1 v' (k+1) (xs++[.int .i64 L])) (m:(wr.alloc (.cells #[.int .i64 L] 3)).grownBy b (Value.slice j k l).ownBlock):
  ∃(d:OA) (f:Nat),v'=.slice d (k+1) f/\(b.cell? ⟨w1.heap.size,1,none⟩=some (.slice j k l)/\(∀i,b.frozen? ⟨w1.heap.size,i,none⟩=false)/\w1.heap.size < b.heap.size)/\
   (Blk (b.setCell ⟨w1.heap.size,1,none⟩ (.slice d (k+1) f)) w1.heap.size 45 #[.slice A n c,.slice d (k+1) f,.slice none 0 0]/\Mine (b.setCell ⟨w1.heap.size,1,none⟩ (.slice d (k+1) f)) w3.heap.size 3 1 d (k+1) f (xs++[.int .i64 L])/\Kr w1.heap.size none w3 none (b.setCell ⟨w1.heap.size,1,none⟩ (.slice d (k+1) f))/\Below w.heap.size w (b.setCell ⟨w1.heap.size,1,none⟩ (.slice d (k+1) f))):=by
 obtain⟨d,f,rfl,m5⟩:=Mine.of p;have h:∀g,(Value.slice j k l).ownBlock=some g->w3.heap.size<=g:=fun g m=>by rw[Qw_]at m;exact(Mine.blk hm m).1
 have a:Blk b w1.heap.size 45 #[.slice A n c,.slice j k l,.slice none 0 0]:=(hK.alloc _).grown m (fun e=>by
  rw[Qw_]at e;obtain⟨cs,r⟩:=QP_ (Mine.alloc hm (.cells #[.int .i64 L] 3)) e.symm;exact KM_ (hK.alloc _) r (by decide) rfl)
 have o:Below wr.heap.size wr (wr.alloc (.cells #[.int .i64 L] 3)):=br.alloc (Nat.le_refl _) _;have k5:=(hk.below o).grown m h;refine⟨d,f,rfl,⟨a.cell 1,a.frozen,a.lt⟩,a.set_ 1 _,Kx_ m5 a (by decide) _ _,k5.setT 1 _,?_⟩;have b1:=Qb_ hb o;exact(b1.grown m b1.size (fun g q=>by have:=h g q;omega)).setCell (show w.heap.size<=(⟨w1.heap.size,1,none⟩:Addr).block from s) _
theorem Y0_ (t:BA) (w:World) (ht:t.size<=1048576) (ps:List PN) (h:KF_ t=some ps):Calls prog 21 #[.string t] w fun e w'=>∃(T:Nat) (A:OA) (c:Nat),e=.returned (.pointer (some ⟨T,0,none⟩))/\FiP w w.heap.size T A ps.length c ps (YP_ t ps) [] w':=by
 obtain⟨i0,ac,ah,ai,aj⟩:=info_parts QB_;have g:=hid (And.intro ac (And.intro ah (And.intro ai aj)));obtain⟨af,aL,aM⟩:=QU_ h;have HR:=hid (zb_ t w ht ps h);have HP:=hid (fun W=>za_ t W ht);have HX:=hid (fun(x:Int) W=>U4_ t x W ht);obtain⟨n,hn⟩:=ex_ ps.length;rw[hn]at HR aL;rw[hn];have N:=hid (fun(A:OA) (c:Nat) (W:World) h=>kI_ A n c ps W oo h af);have y:(K9_ t).length<=3000:=by
  rw[GH_,List.length_map];exact JO_ _ (Z0_ t)
 obtain⟨P,hP⟩:=ex_ (K9_ t);rw[hP]at HP y;have H0:=hid (fun(v:Int) h=>vy_ hP (v:=v) h);have H1:=hid (fun(q:Nat) (x:Int) h=>k5_ hP (v:=q) (x:=x) h);have Z:=hid (Qf3_ ps);have D:=hid (show YP_ t ps=(VJ_ ps).2.map (KS_ t)from rfl);generalize YP_ t ps=B at D |-
 have O:=hid (fun(w0 w':World) (T Sb c:Nat) (ty:TypeId) (A:OA) h=>QeR_ (ps:=ps) (w:=w') (T:=T) (Sb:=Sb) (n:=n) (c:=c) (ty:=ty) (A:=A) (w0:=w0) h);generalize VJ_ ps=am at N Z D O;clear ac ah ai aj h af hP aM;go_enter func21,ntmps21;go_wp2_with fail
 refine HR.o.mono ?_;rintro e w1 ⟨A,c,rfl,ad,h1⟩;have ay:=hid ad;have aq:=hid h1;have m:=h1.size;clear h1 ad HR;go_wp2_with fail
 have K1:=hid (Blk.new w1 45 #[.slice A n c,.slice none 0 0,.slice none 0 0]);have H:=hid (ay.o.next (br.alloc (Nat.le_refl _) (.cells #[.slice A n c,.slice none 0 0,.slice none 0 0] 45)));have G:=hid (aq.o.alloc m (.cells #[.slice A n c,.slice none 0 0,.slice none 0 0] 45));refine(HP.o _).mono ?_;rintro e w2 ⟨AP,cP,rfl,mP,h2⟩;have Y:=hid mP;have K2:=hid (K1.o.next h2);have M:=hid (H.o.next h2);have U:=hid (Qb_ G.o h2);clear mP h2 HP K1 H G;go_wp2_with fail
 refine(N.o A c w2 M.o.nps).mono ?_;rintro e w3 ⟨rfl,S⟩;have p:=S.below;have J:=O.o _ _ _ _ _ _ _ S;obtain⟨AS,cS,Q,_,ho,_⟩:=S;have aB:=hid ho;have av:=hid (Y.o.next p);have K3:=hid (K2.o.next p);have az:=hid (M.o.next p);have V:=hid (Qb_ U.o p);have ak:=K3.o.lt;have t2:=Q.q2;have tz:=Q.lt;clear Q ho p Y K2 M U N O;have f:=hid (Kr.refl w1.heap.size none w3);have j:=hid (show Mine w3 w3.heap.size 3 1 none 0 0 (Qa_ (B.take 0))from Mine.mk_nil _ _ _ _);have X:=hid (show B.length=n by rw[D.o,List.length_map];exact J);go_upto_region 7 with fail
 clear t2 tz;go_loopw [32] (fun i wr=>∃(k:Nat) (F:OA) (I:Nat),k<=n/\i=.int .i64 k/\Hid (Blk wr w1.heap.size 45 #[.slice A n c,.slice F k I,.slice none 0 0])/\Hid (Mine wr w3.heap.size 3 1 F k I (Qa_ (B.take k)))/\Hid (Kr w1.heap.size none w3 none wr)/\Hid (Below w.heap.size w wr)) (fun i _=>n - (intOf i).toNat)
 case atStart=>exact⟨0,none,0,Nat.zero_le _,rfl,K3,j,f,V⟩
 case round=>
  clear j f;obtain⟨k,F,I,hk,rfl,d,j,f,K⟩:=hrel;have al:=f.o.size;by_cases aK:k < n
  ·obtain⟨v,hv⟩:∃v,am.2[k]? =some v:=⟨_,gE oo⟩;obtain⟨q,rfl⟩:=Int.eq_ofNat_of_zero_le (Z.o v (List.mem_of_getElem? hv));have aC:=hid (Qg5_ aB.o K3.o f.o (by decide));have ax:=hid (jq_ av.o K3.o f.o (by decide));obtain⟨b6,aS,e6,aH,cq⟩:=Ql_ (aC.o.rd (size:=1) (n:=n) (by simp[Qa_,J])) aK hv;injection e6 with e6;injection e6 with e61 e62;subst e61;subst e62;simp only[Nat.zero_add]at cq;have R:B[k]? =some (KS_ t (q:Int)):=(by rw[D.o,List.getElem?_map,hv];rfl);have aa:=hid (Qdj_ R);have aU:(k:Int) < (n:Int):=oo;have aV:P.length<=3000:=y;by_cases hq:q < P.length
   ·obtain⟨x,hx⟩:∃x,P[q]? =some x:=⟨_,List.getElem?_eq_getElem hq⟩;obtain⟨b7,aT,rfl,aI,cp⟩:=Ql_ ax.o.rd hq hx;have ae:(q:Int) < (P.length:Int):=oo;have C:=hid (H1.o q x hx);have HY:=hid (HX.o x);clear hv R hx;generalize Wc_ t x=L at HY C;go_wp2_with fail
    refine(HY.o _).mono ?_;rintro e w4 ⟨c4,rfl,rfl⟩;have kc1:=d.o.q1;have kf:=d.o.frozen;have kz:=d.o.lt;have o:=hid (fun(v':Value) (E:World) (s:E.ownsRow w3.heap.size 3 1 v' (k+1) (Qa_ (B.take k)++[.int .i64 L])) (hg:(wr.alloc (.cells #[.int .i64 L] 3)).grownBy E (Value.slice F k I).ownBlock)=>QbX_ (L:=L) d.o j.o f.o K.o m ak al s hg);go_wp2_with (at_builtin;(refine Qf_ _ rfl (.tmp 53) (.tmp 55) _ rfl w3.heap.size 3 i0 (.int .i64 0) 1 8 underlying34 g.o.1 g.o.2.1 g.o.2.2.1 g.o.2.2.2 rfl (by decide) (.slice F k I) k (Qa_ (B.take k)) rfl (Mine.alloc j.o _) ⟨wr.heap.size,0,none⟩ 1 1 [.int .i64 L] rfl rfl (Kq_ _ _ _) (Kr_ _) (by unfold maxLen;omega) oo (by simp;omega) ?_);intro v' E b r z;obtain⟨A5,c5,rfl,⟨j1,jf,jz⟩,l⟩:=o.o v' E b r)
    have a:=hid l;clear b r z l o j1 jf jz;go_wp2;go_roundw
    case rel=>exact⟨k+1,A5,c5,oo,by go_num,a.o.1,(by rw[aa.o,C.o,QO_];exact a.o.2.1),a.o.2.2.1,a.o.2.2.2⟩
    case measure=>simp[intOf];omega
   ·have ae:¬(q:Int) < (P.length:Int):=oo;have aX:decide ((q:Int) < (P.length:Int))=false:=decide_eq_false ae;have C:=hid (H0.o (q:Int) (decide_eq_false oo));have kc1:=d.o.q1;have kf:=d.o.frozen;have kz:=d.o.lt;clear hv R;have o:=hid (fun(v':Value) (E:World) (s:E.ownsRow w3.heap.size 3 1 v' (k+1) (Qa_ (B.take k)++[.int .i64 0])) (hg:(wr.alloc (.cells #[.int .i64 0] 3)).grownBy E (Value.slice F k I).ownBlock)=>QbX_ (L:=0) d.o j.o f.o K.o m ak al s hg);go_wp2_with (at_builtin;(refine Qf_ _ rfl (.tmp 53) (.tmp 55) _ rfl w3.heap.size 3 i0 (.int .i64 0) 1 8 underlying34 g.o.1 g.o.2.1 g.o.2.2.1 g.o.2.2.2 rfl (by decide) (.slice F k I) k (Qa_ (B.take k)) rfl (Mine.alloc j.o _) ⟨wr.heap.size,0,none⟩ 1 1 [.int .i64 0] rfl rfl (Kq_ _ _ _) (Kr_ _) (by unfold maxLen;omega) oo (by simp;omega) ?_);intro v' E b r z;obtain⟨A5,c5,rfl,⟨j1,jf,jz⟩,l⟩:=o.o v' E b r)
    have a:=hid l;clear b r z l o j1 jf jz;go_wp2;go_roundw
    case rel=>exact⟨k+1,A5,c5,oo,by go_num,a.o.1,(by rw[aa.o,C.o,QO_];exact a.o.2.1),a.o.2.2.1,a.o.2.2.2⟩
    case measure=>simp[intOf];omega
  ·obtain rfl:k=n:=oo;have aA:=hid (az.o.kr K3.o f.o (by decide) (by decide));have ar:Hid (FiP w w.heap.size w1.heap.size A k c ps B [] wr):=(show FiP w w.heap.size w1.heap.size A k c ps B [] wr from⟨F,I,none,0,by rw[X.o];exact d.o,aA.o,(by
    have h:=j.o;rw[<-X.o,List.take_length]at h;exact h.more V.o.size),Mine.mk_nil _ _ _ _,m,K.o⟩)
   go_wp2;go_ret;exact⟨w1.heap.size,A,c,rfl,ar.o⟩
theorem NpsM.set {w:World} {B n c T:Nat} {ty:TypeId} {cs:Array Value} {A:OA} {ps:List PN} (h:NpsM w B A n c ps) (hT:Blk w T ty cs) (h1:ty≠36) (h2:ty≠3) (i:Nat) (u:Value):NpsM (w.setCell ⟨T,i,none⟩ u) B A n c ps:=by
 obtain⟨l,hm,hl,hk,e⟩:=h;exact⟨l,Kx_ hm hT (Ne.symm h1) _ _,hl,fun x hx=>⟨(hk x hx).1,Kx_ (hk x hx).2 hT (Ne.symm h2) _ _⟩,e⟩
def KpF (T:Nat) (w w':World):Prop:=∀g t cs,Blk w g t cs->g≠T->t≠41->Blk w' g t cs
theorem Mine.kpf {w w':World} {B s n c T:Nat} {e ty:TypeId} {cs:Array Value} {A:OA} {xs:List Value} (h:Mine w B e s A n c xs) (k:KpF T w w') (hT:Blk w T ty cs) (h1:e≠ty) (h2:e≠41):Mine w' B e s A n c xs:=by
 have b:=h.len;rcases h.own with⟨rfl,rfl,rfl⟩|⟨g',rfl,hB,hn,hc,rest,a,hs⟩
 ·exact⟨by rw[b],.inl ⟨rfl,rfl⟩⟩
 ·exact Mine.mk_own ⟨rest,k _ _ _ a (KM_ a hT h1) h2,hs⟩ b hB hn hc
theorem Qfm_ {w0 w w6:World} {B T:Nat} {AN f AF:OA} {n cN h cF:Nat} {ps:List PN} {ls:LI} {fs:List FindingD} {kd L:Int} {tx:BA} {v':Value}
  (hK:Blk w T 45 #[.slice AN n cN,.slice f ls.length h,.slice AF fs.length cF]) (hN:NpsM w B AN n cN ps) (hL:Mine w B 3 1 f ls.length h (Qa_ ls)) (hF:Mine w B 41 3 AF fs.length cF (fs.flatMap Qc_)) (j:B<=T) (hB:Below B w0 w) (p:B=w0.heap.size)
  (m:w6.ownsRow B 41 3 v' (fs.length+1) (fs.flatMap Qc_++[.int .i64 kd,.int .i64 L,.string tx])) (d:(w.alloc (.cells #[.int .i64 kd,.int .i64 L,.string tx] 41)).grownBy w6 (Value.slice AF fs.length cF).ownBlock):
  ∃(o:OA) (c6:Nat),v'=.slice o (fs.length+1) c6/\((∃v,w6.cell? ⟨T,2,none⟩=some v)/\(∀i,w6.frozen? ⟨T,i,none⟩=false)/\T < w6.heap.size)/\FiP w0 B T AN n cN ps ls (fs++[(kd,L,tx)]) (w6.setCell ⟨T,2,none⟩ v')/\KpF T w (w6.setCell ⟨T,2,none⟩ v'):=by
 obtain⟨o,c6,rfl,m6⟩:=Mine.of m;rw[Qw_]at d;have a:Below w.heap.size w (w.alloc (.cells #[.int .i64 kd,.int .i64 L,.string tx] 41)):=br.alloc (Nat.le_refl _) _;have c:=hF.next a;have hr:∀g,AF.map (·.block)=some g->∃t cs,Blk (w.alloc (.cells #[.int .i64 kd,.int .i64 L,.string tx] 41)) g t cs/\t≠36/\t≠3:=fun g e=>by
  obtain⟨cs,l⟩:=QP_ c e;exact⟨_,cs,l,by decide,by decide⟩
 have b:Blk w6 T 45 #[.slice AN n cN,.slice f ls.length h,.slice AF fs.length cF]:=(hK.next a).grown d (fun e=>by
  obtain⟨cs,l⟩:=QP_ c e.symm;exact KM_ (hK.next a) l (by decide) rfl)
 have s:=(hN.next a).grown d hr;have r:Mine w6 B 3 1 f ls.length h (Qa_ ls):=Mine.grown (hL.next a) d (fun g e=>.inr (Mine.apart (hL.next a) c (by decide) e));have q:Below B w0 w6:=by
  subst p;exact(Qb_ hB a).grown d (Qb_ hB a).size (fun g e=>(Mine.blk c e).1)
 refine⟨o,c6,rfl,⟨⟨_,b.cell 2⟩,b.frozen,b.lt⟩,⟨f,h,o,c6,?_,s.set b (by decide) (by decide) _ _,Kx_ r b (by decide) _ _,?_,j,q.setCell j _⟩,fun g t cs k h1 h2=>(((k.next a).grown d (fun e=>?_)).far h1 _)⟩
 ·rw[lA];exact b.set_ 2 _
 ·rw[Yo_,lA];exact Kx_ m6 b (by decide) _ _
 ·obtain⟨x,l⟩:=QP_ c e.symm;exact KM_ (k.next a) l h2 rfl
theorem Jw_ (w0:World) (T:Nat) (AN:OA) (n cN:Nat) (ps:List PN) (ls:LI) (fs:List FindingD) (kd:Int) (k:Nat) (L:Int) (tx:BA) (w:World) (h:FiP w0 w0.heap.size T AN n cN ps ls fs w) (m:ls[k]? =some L) (M:fs.length<=100000) (N:ls.length<=100000):
  Calls prog 23 #[.pointer (some ⟨T,0,none⟩),.int .i64 kd,.int .i64 k,.string tx] w fun e w'=>e=.returned (.tuple #[])/\FiP w0 w0.heap.size T AN n cN ps ls (fs++[(kd,L,tx)]) w'/\KpF T w w':=by
 obtain⟨i0,hi,r,s,v⟩:=info_parts Kl_;have y:=hid (And.intro hi (And.intro r (And.intro s v)));obtain⟨AL,cL,AF,cF,l,hN,F,E,D,C⟩:=h;have H:k < ls.length:=(List.getElem?_eq_some_iff.1 m).1;obtain⟨b,off,rfl,p,cl⟩:=Ql_ F.rd H m;have f:∀o,Below w.heap.size w (w.alloc o):=fun o=>br.alloc (Nat.le_refl _) o
 have c1:=l.q1;have c2:=l.q2;have cf:=l.frozen;have cz:=l.lt;have e1:∀o,(w.alloc o).cell? ⟨T,1,none⟩=some (.slice (some ⟨b,off,none⟩) ls.length cL):=fun o=>((QE_ (f o)).1 _ 1 cz).trans c1
 have e2:∀o,(w.alloc o).cell? ⟨T,2,none⟩=some (.slice AF fs.length cF):=fun o=>((QE_ (f o)).1 _ 2 cz).trans c2
 have e3:∀o,(w.alloc o).cell? ⟨b,off+k,none⟩=some (.int .i64 L):=fun o=>((QE_ (f o)).1 _ _ p).trans cl
 have J:(k:Int) < (ls.length:Int):=oo;have HM:=hid (Mine.alloc E (.cells #[.int .i64 kd,.int .i64 L,.string tx] 41));have A:=hid (fun(v':Value) (w6:World) h1 B=>Qfm_ (kd:=kd) (L:=L) (tx:=tx) (v':=v') (w6:=w6) l hN F E D C rfl h1 B);have z:=hid (show w0.heap.size<=(w.alloc (.cells #[.int .i64 kd,.int .i64 L,.string tx] 41)).heap.size by have:=C.size;simp only[World.size_alloc];omega);have I:=heap_alloc_new w (.cells #[.int .i64 kd,.int .i64 L,.string tx] 41);clear hi r s v l hN F E C m f;go_enter func23,ntmps23
 try go_upto_region 0 with fail
 go_region_law
  (refine step_append_lies _ rfl (.tmp 12) (.tmp 23) 22 rfl w0.heap.size 41 i0 (.agg #[.int .i64 0,.int .i64 0,.string ⟨#[]⟩]) 3 32 underlying22 y.o.1 y.o.2.1 y.o.2.2.1 y.o.2.2.2 rfl (by decide) (.slice AF fs.length cF) fs.length (fs.flatMap Qc_) (by first|(simp[Act.eval];done)|(simp[Act.eval,Act.put];done)|rfl) (by first|exact HM.o.drew|exact HM.o) ⟨w.heap.size,0,none⟩ 1 1 [.int .i64 kd,.int .i64 L,.string tx] (by first|(simp[Act.eval];done)|(simp[Act.eval,Act.put];done)|rfl) (by rfl) (World.news_of_block (cs:=#[.int .i64 kd,.int .i64 L,.string tx]) (t:=41) (fr:=(0,0)) I) (fun x m=>by simp at m;rcases m with rfl|rfl|rfl<;>rfl) (by decide) (by unfold maxLen;omega) oo (by first|exact z.o) (w.heap.size+1) (by simp) ?_
   intro q cap w6 d a G K;have c:(w.alloc (.cells #[.int .i64 kd,.int .i64 L,.string tx] 41)).grownBy w6 (Value.slice AF fs.length cF).ownBlock:=(by first|exact a|exact Kw_ a);obtain⟨A6,c6,ev,⟨⟨v6,j6⟩,jf,jz⟩,j⟩:=A.o _ _ d c;have HW:=hid (And.intro ev j);clear d a G c ev j)
 all_goals
  have i:=hid HW.o.2;clear HW;go_wp2;go_end0;exact⟨rfl,i.o.1,fun g t cs hb h1 B=>i.o.2 g t cs hb h1 B⟩
theorem FiP.next {w0 w w':World} {B T:Nat} {AN:OA} {n cN:Nat} {ps:List PN} {ls:LI} {fs:List FindingD} (h:FiP w0 B T AN n cN ps ls fs w) (hB:B=w0.heap.size) (a:Below w.heap.size w w'):FiP w0 B T AN n cN ps ls fs w':=by
 obtain⟨AL,cL,AF,cF,hK,hN,hL,hF,b,c⟩:=h;subst hB;exact⟨AL,cL,AF,cF,hK.next a,hN.next a,hL.next a,hF.next a,b,Qb_ c a⟩
theorem QfR_ {g:Nat->TS->TS} (hg:∀k s,(g k s).2.length=s.2.length):∀(es:List Ev) (s:TS),(Ki_ g s es).2.length=s.2.length:=by
 intro es
 induction es with
 |nil=>intro s;rfl
 |cons e es ih=>
  intro s;rw[JZ_]
  cases e with
  |sg k t=>exact ih _
  |kid j=>exact(ih _).trans (hg _ _)
theorem Qef_ (ps:List PN):∀(f k:Nat) (s:TS),(Qn_ ps f k s).2.length=s.2.length:=by
 intro f
 induction f with
 |zero=>intro k s;rfl
 |succ f ih=>
  intro k s;unfold Qn_
  cases ps[k]? with
  |none=>rfl
  |some p=>exact(QfR_ ih _ _).trans (by simp)
theorem vx_ (ps:List PN):(VJ_ ps).2.length=ps.length:=by unfold VJ_;rw[Qef_];simp
theorem Gx_ (t:BA) (ps:List PN):(YP_ t ps).length=ps.length:=by unfold YP_;rw[List.length_map,vx_]
theorem qC_ {t:BA} {ps:List PN} (h:KL_ ps=true) {k:Nat} (hk:k < ps.length):(YP_ t ps)[k]? =some (KS_ t (Q3_ ps k)):=by
 obtain⟨v,hv⟩:∃v,(VJ_ ps).2[k]? =some v:=⟨_,gE (by rw[vx_];exact hk)⟩;unfold YP_ Q3_;rw[List.getElem?_map,hv,if_pos ⟨h,oo,oo⟩,Int.toNat_natCast,List.getD_eq_getElem?_getD,hv]
 rfl
theorem kt_ (t:BA) (w:World) (ht:t.size<=1048576):Calls prog 21 #[.string t] w fun e w'=>∃(T:Nat) (A:OA) (n c:Nat) (ps:List PN) (ls:LI),e=.returned (.pointer (some ⟨T,0,none⟩))/\FiP w w.heap.size T A n c ps ls [] w'/\n<=300/\ls.length=n/\(∀k,k < n->ls[k]? =some (KS_ t (Q3_ ps k)))/\KQ_ t=KD_ t ps n:=by
 unfold KQ_;rcases hr:KF_ t with _|ps
 ·refine(V5_ t w ht hr).mono ?_;rintro e w' ⟨T,rfl,h⟩;exact⟨T,none,0,0,[],[],rfl,h,Nat.zero_le _,rfl,fun k a=>absurd a oo,rfl⟩
 ·refine(Y0_ t w ht ps hr).mono ?_;rintro e w' ⟨T,A,c,rfl,h⟩;obtain⟨h1,h2,h3⟩:=QU_ hr;exact⟨T,A,ps.length,c,ps,YP_ t ps,rfl,h,h2,Gx_ t ps,fun k a=>qC_ h1 a,rfl⟩
theorem Gq_ (t:BA) (w:World) (ht:t.size<=1048576):Calls prog 37 #[.string t] w (Kj_ w (KQ_ t)):=by
 have G:=hid (kt_ t w ht);unfold Kj_;obtain⟨fe,m⟩:=ex_ (KQ_ t);rw[m]at G;rw[m];clear m;go_enter func37,ntmps37;go_wp2_with fail
 refine G.o.mono ?_;rintro e w1 ⟨T,A,n,c,ps,ls,rfl,v,N,M,x,s⟩;have a:=hid v;have F:=hid x;have HF:=hid s;obtain⟨AL,cL,AF,cF,f,l,_⟩:=v;have k0:=f.q0;have kf:=f.frozen;have kz:=f.lt;clear f l x s G;go_upto_region 3 with fail
 clear k0 kf kz;go_loopw [13] (fun i wr=>∃(k:Nat),k<=n/\i=.int .i64 k/\Hid (FiP w w.heap.size T A n c ps ls (KD_ t ps k) wr)) (fun i _=>n - (intOf i).toNat)
 case atStart=>exact⟨0,Nat.zero_le _,rfl,a⟩
 case round=>
  clear a;obtain⟨k,hk,rfl,a⟩:=hrel;have K:=V3_ t ps k;by_cases o:k < n
  ·obtain⟨AL,cL,AF,cF,f,l,J,B,j,z⟩:=id a.o;obtain⟨C,y⟩:=l.nps.get o;obtain⟨b',off,A',c',rfl,r,x0,x1,x2,x3,_,_⟩:=l.nps.atc o y;have L:(k:Int) < (n:Int):=oo;have p:=F.o k o;clear f l J B j z;by_cases d:Yg_ C=true
   ·have g:=hid (UQ_ (t:=t) y d);unfold Yg_ at d;rw[Bool.and_eq_true]at d;obtain⟨H,g2⟩:=d;have E:=hid (fun(W:World) (h:Below wr.heap.size wr W)=>Jw_ w T (some ⟨b',off,none⟩) n c ps ls (KD_ t ps k) 4 k (KS_ t (Q3_ ps k)) ⟨#[]⟩ W (a.o.next rfl h) p oo oo);clear y p;go_wp2_with fail
    refine(E.o _ grow_).mono ?_;rintro e w2 ⟨rfl,I,_⟩;rw[<-g.o]at I;have D:=hid I;clear I x0 x1 x2 x3 r;go_wp2;go_roundw
    case rel=>exact⟨k+1,oo,by go_num,D⟩
    case measure=>simp[intOf];omega
   ·have b:Yg_ C=false:=(by rcases bft (Yg_ C)with h|h;exact absurd h d;exact h);have g:=hid (zs_ (t:=t) y b);unfold Yg_ at b;have q:=hid (fun(W:World) (h:Below wr.heap.size wr W)=>a.o.next rfl h);clear y d p;rcases bft (C.kind==18)with H|H
    ·rw[H,Bool.true_and]at b;go_wp2;go_roundw
     case rel=>exact⟨k+1,oo,by go_num,by rw[g.o];exact q.o _ grow_⟩
     case measure=>simp[intOf];omega
    ·clear b;go_wp2;go_roundw
     case rel=>exact⟨k+1,oo,by go_num,by rw[g.o];exact q.o _ grow_⟩
     case measure=>simp[intOf];omega
  ·obtain rfl:k=n:=oo;rw[<-HF.o]at a;obtain⟨AL,cL,AF,cF,f,l,J,B,j,z⟩:=id a.o;have k2:=f.q2;have kf:=f.frozen;have kz:=f.lt;have HM:=hid B;have HB:=hid z;clear f l J B j z;go_wp2;go_ret;exact⟨AF,cF,rfl,HM.o,HB.o⟩
theorem NpsM.kidM {w:World} {B n c k:Nat} {A:OA} {ps:List PN} {p:PN} (h:NpsM w B A n c ps) (hk:k < n) (hd:ps[k]? =some p):
  ∃b off A' c',A=some ⟨b,off,none⟩/\b < w.heap.size/\w.cell? ⟨b,off+k * 4,none⟩=some (.int .i64 p.kind)/\w.cell? ⟨b,off+k * 4+1,none⟩=some (.string p.text)/\w.cell? ⟨b,off+k * 4+2,none⟩=some (.slice A' p.kids.length c')/\w.cell? ⟨b,off+k * 4+3,none⟩=some (.bool p.blank)/\Mine w B 3 1 A' p.kids.length c' (Qa_ p.kids):=by
 obtain⟨l,hm,hl,f,rfl⟩:=h;rw[List.getElem?_map]at hd;obtain⟨d,a,rfl⟩:=Option.map_eq_some_iff.1 hd;have hn:Nds w A n l:=⟨hl,hm.rd,fun x hx=>(f x hx).2.rd⟩;obtain⟨b,off,e,hb,c0,c1,c2,c3⟩:=hn.at_ hk a;have hc:=hn.cnt (List.mem_of_getElem? a);refine⟨b,off,d.adr,d.cap,e,hb,c0,c1,?_,c3,?_⟩
 ·show w.cell? _=some (.slice d.adr d.kids.length d.cap);rw[hc];exact c2
 ·show Mine w B 3 1 d.adr d.kids.length d.cap (Qa_ d.kids);rw[hc];exact(f d (List.mem_of_getElem? a)).2
theorem Mine.grown' {w w':World} {B s n c:Nat} {e:TypeId} {A:OA} {xs:List Value} {r:ON} (h:Mine w B e s A n c xs) (hg:w.grownBy w' r) (hr:∀g,r=some g->∃t cs,Blk w g t cs/\t≠e):Mine w' B e s A n c xs:=by
 have b:=h.len;rcases h.own with⟨rfl,rfl,rfl⟩|⟨g',rfl,hB,hn,hc,rest,a,hs⟩
 ·exact⟨by rw[b],.inl ⟨rfl,rfl⟩⟩
 ·refine Mine.mk_own ⟨rest,a.grown hg (fun e2=>?_),hs⟩ b hB hn hc;obtain⟨t,cs,hb,d⟩:=hr g' e2.symm;exact KM_ a hb (Ne.symm d) rfl
def SF (w:World) (AN:OA) (n cN:Nat) (ps:List PN) (AI:OA) (cI:Nat) (xs:LI) (AS:OA) (cS:Nat) (ss:List BA) (AF:OA) (cF:Nat) (fs:List FindingD) (wr:World):Prop:=
 NpsM wr w.heap.size AN n cN ps/\Mine wr w.heap.size 3 1 AI xs.length cI (Qa_ xs)/\Mine wr w.heap.size 9 1 AS ss.length cS (Qm_ ss)/\Mine wr w.heap.size 41 3 AF fs.length cF (fs.flatMap Qc_)/\Below w.heap.size w wr
section
variable {w wr w2 w3:World} {AN:OA} {n cN:Nat} {ps:List PN} {AI:OA} {cI:Nat} {xs:LI} {AS:OA} {cS:Nat} {ss:List BA} {AF:OA} {cF:Nat} {fs:List FindingD} {v':Value}
theorem SF.next (h:SF w AN n cN ps AI cI xs AS cS ss AF cF fs wr) (a:Below wr.heap.size wr w2):SF w AN n cN ps AI cI xs AS cS ss AF cF fs w2:=
 ⟨h.1.next a,h.2.1.next a,h.2.2.1.next a,h.2.2.2.1.next a,Qb_ h.2.2.2.2 a⟩
theorem SF.alloc (h:SF w AN n cN ps AI cI xs AS cS ss AF cF fs wr) (o:Obj):SF w AN n cN ps AI cI xs AS cS ss AF cF fs (wr.alloc o):=h.next (br.alloc (Nat.le_refl _) o)
theorem SF.find (h:SF w AN n cN ps AI cI xs AS cS ss AF cF fs wr) {a b:Int} {s:BA} (d:w3.ownsRow w.heap.size 41 3 v' (fs.length+1) (fs.flatMap Qc_++[.int .i64 a,.int .i64 b,.string s])) (c:wr.grownBy w3 (Value.slice AF fs.length cF).ownBlock):
  ∃f i,v'=.slice f (fs.length+1) i/\SF w AN n cN ps AI cI xs AS cS ss f i (fs++[(a,b,s)]) w3:=by
 obtain⟨f,i,rfl,m3⟩:=Mine.of d;rw[Qw_]at c;have hr:∀g,AF.map (·.block)=some g->∃cs,Blk wr g 41 cs:=fun g e=>QP_ h.2.2.2.1 e
 refine⟨f,i,rfl,h.1.grown c (fun g e=>?_),h.2.1.grown' c (fun g e=>?_),h.2.2.1.grown' c (fun g e=>?_),by rw[Yo_,lA];exact m3,h.2.2.2.2.grown c h.2.2.2.2.size (fun g e=>(Mine.blk h.2.2.2.1 e).1)⟩
 all_goals obtain⟨cs,j⟩:=hr g e
 ·exact⟨_,cs,j,by decide,by decide⟩
 ·exact⟨_,cs,j,by decide⟩
 ·exact⟨_,cs,j,by decide⟩
theorem SF.name (h:SF w AN n cN ps AI cI xs AS cS ss AF cF fs wr) {s:BA} (b:w3.ownsRow w.heap.size 9 1 v' (ss.length+1) (Qm_ ss++[.string s])) (a:wr.grownBy w3 (Value.slice AS ss.length cS).ownBlock):
  ∃c d,v'=.slice c (ss.length+1) d/\SF w AN n cN ps AI cI xs c d (ss++[s]) AF cF fs w3:=by
 obtain⟨c,d,rfl,m3⟩:=Mine.of b;rw[Qw_]at a;have hr:∀g,AS.map (·.block)=some g->∃cs,Blk wr g 9 cs:=fun g e=>QP_ h.2.2.1 e
 refine⟨c,d,rfl,h.1.grown a (fun g e=>?_),h.2.1.grown' a (fun g e=>?_),by simp only[Qm_,lA,List.map_append];exact m3,h.2.2.2.1.grown' a (fun g e=>?_),h.2.2.2.2.grown a h.2.2.2.2.size (fun g e=>(Mine.blk h.2.2.1 e).1)⟩
 all_goals obtain⟨cs,f⟩:=hr g e
 ·exact⟨_,cs,f,by decide,by decide⟩
 ·exact⟨_,cs,f,by decide⟩
 ·exact⟨_,cs,f,by decide⟩
end
theorem Qdf_ {x y:BA} (h:x=y):(x.toList==y.toList)=true:=by rw[h];simp
theorem zy_ (A:OA) (n c:Nat) (l:List BA) (x:BA) (w:World) (hn:n<=4194304) (hl:Hid (l.length=n)) (ha:Rd w 1 A n (Qm_ l)):
  Calls prog 19 #[.slice A n c,.string x] w fun e w'=>e=.returned (.bool (Lib.containsS l x))/\Below w.heap.size w w':=by
 obtain⟨r,m⟩:=ex_ (Lib.containsS l x);have HY:=hid (fun(k:Nat) (h:l[k]? =some x)=>show r=true by rw[<-m];exact(Lib.containsS_iff _ _).2 (List.mem_of_getElem? h));have HN:=hid (fun(h:∀j,j < n->l[j]? ≠some x)=>show r=false by
  rw[<-m,Bool.eq_false_iff];intro g;obtain⟨j,hj,e⟩:=List.mem_iff_getElem.1 ((Lib.containsS_iff _ _).1 g);exact h j (by have:=hl.o;omega) (by rw[List.getElem?_eq_getElem hj,e]))
 rw[m];have HA:=hid ha;clear ha m;go_enter func19,ntmps19;go_wp2;go_loopw [5] (fun i wr=>∃k:Nat,k<=n/\i=.int .i64 k/\Hid (∀j,j < k->l[j]? ≠some x)/\Below w.heap.size w wr) (fun i _=>n - (intOf i).toNat)
 case atStart=>exact⟨0,Nat.zero_le _,rfl,(show ∀j,j < 0->l[j]? ≠some x from fun j h=>absurd h oo),br⟩
 case round=>
  obtain⟨k,hk,rfl,HO,f⟩:=hrel;by_cases p:k < n
  ·obtain⟨y,hd⟩:∃d,l[k]? =some d:=⟨_,gE (by have:=hl.o;omega)⟩;obtain⟨b,off,rfl,q,c0⟩:=Ud_ (HA.o.below f) p hd;by_cases a:y=x
   ·subst a;have hs:=Qdf_ (rfl:y=y);obtain rfl:=HY.o k hd;clear hd;go_wp2;go_ret;exact⟨rfl,grow_⟩
   ·have hs:=Qde_ a;have o:Hid (∀j,j < k+1->l[j]? ≠some x):=(show ∀j,j < k+1->l[j]? ≠some x from fun j h=>by
     rcases Nat.lt_or_ge j k with g|g
     ·exact HO.o j g
     ·obtain rfl:j=k:=oo;rw[hd];intro e;exact a (Option.some.inj e))
    clear hd a;go_wp2;go_roundw
    case rel=>exact⟨k+1,oo,by go_num,o,grow_⟩
    case measure=>simp[intOf];omega
  ·obtain rfl:k=n:=oo;obtain rfl:=HN.o HO.o;go_wp2;go_ret;exact⟨rfl,f⟩
theorem UN_ {w:World} {B:Nat} {A:OA} {n c:Nat} {l:List BA} (x:BA) (h:Mine w B 9 1 A n c (Qm_ l)):Calls prog 22 #[.slice A n c,.string x] w fun e w'=>e=.returned (.bool (Lib.containsS l x))/\w'=w:=by
 have hl:l.length=n:=by have:=h.len;unfold Qm_ at this;rw[List.length_map]at this;omega
 rcases h.own with⟨rfl,rfl,rfl⟩|⟨g,rfl,hB,hn,hc,ho⟩
 ·obtain rfl:l=[]:=List.eq_nil_of_length_eq_zero hl;exact(Tryz.slices_Contains_string_empty none 0 x w)
 ·have h2:=h.rd;have h3:=Tryz.slices_Contains_string g 0 n c l x w oo (by unfold maxLen at hc;omega) (fun j hj=>by
   obtain⟨b',off,e,hb,a⟩:=h2.2 oo;injection e with e;injection e with e1 e2;subst e1;subst e2;have:=a j (.string (l.getD j ByteArray.empty)) (by unfold Qm_;rw[List.getElem?_map,List.getElem?_eq_getElem hj];simp[List.getD,List.getElem?_eq_getElem hj]);simpa using this)
  rw[List.take_of_length_le oo]at h3;exact h3
theorem FiP.grown {w0 w w':World} {T:Nat} {AN:OA} {n cN:Nat} {ps:List PN} {ls:LI} {fs:List FindingD} {row:ON} (h:FiP w0 w0.heap.size T AN n cN ps ls fs w) (a:w.grownBy w' row) (hr:∀g,row=some g->w0.heap.size<=g/\∃cs,Blk w g 9 cs):FiP w0 w0.heap.size T AN n cN ps ls fs w':=by
 obtain⟨AL,cL,AF,cF,hK,hN,hL,hF,c,hB⟩:=h;have hs:∀g,row=some g->∃cs,Blk w g 9 cs:=fun g e=>(hr g e).2
 refine⟨AL,cL,AF,cF,hK.grown a (fun e=>?_),hN.grown a (fun g e=>?_),hL.grown' a (fun g e=>?_),hF.grown' a (fun g e=>?_),c,hB.grown a hB.size (fun g e=>(hr g e).1)⟩
 ·obtain⟨cs,b⟩:=hs _ e.symm;exact KM_ hK b (by decide) rfl
 all_goals obtain⟨cs,b⟩:=hs g e
 ·exact⟨_,cs,b,by decide,by decide⟩
 ·exact⟨_,cs,b,by decide⟩
 ·exact⟨_,cs,b,by decide⟩
def FP (w:World) (T:Nat) (AN:OA) (n cN:Nat) (ps:List PN) (ls:LI) (AI:OA) (cI:Nat) (xs:LI) (AS:OA) (cS:Nat) (ss:List BA) (fs:List FindingD) (wr:World):Prop:=
 FiP w w.heap.size T AN n cN ps ls fs wr/\Mine wr w.heap.size 3 1 AI xs.length cI (Qa_ xs)/\Mine wr w.heap.size 9 1 AS ss.length cS (Qm_ ss)
section
variable {w wr w2 w3:World} {T:Nat} {AN:OA} {n cN:Nat} {ps:List PN} {ls:LI} {AI:OA} {cI:Nat} {xs:LI} {AS:OA} {cS:Nat} {ss:List BA} {fs fs':List FindingD} {v':Value}
theorem FP.next (h:FP w T AN n cN ps ls AI cI xs AS cS ss fs wr) (a:Below wr.heap.size wr w2):FP w T AN n cN ps ls AI cI xs AS cS ss fs w2:=⟨h.1.next rfl a,h.2.1.next a,h.2.2.next a⟩
theorem FP.alloc (h:FP w T AN n cN ps ls AI cI xs AS cS ss fs wr) (o:Obj):FP w T AN n cN ps ls AI cI xs AS cS ss fs (wr.alloc o):=h.next (br.alloc (Nat.le_refl _) o)
theorem FP.found (h:FP w T AN n cN ps ls AI cI xs AS cS ss fs wr) (h':FiP w w.heap.size T AN n cN ps ls fs' w2) (k:KpF T wr w2):FP w T AN n cN ps ls AI cI xs AS cS ss fs' w2:=by
 obtain⟨hf,hi,hs⟩:=h;obtain⟨AL,cL,AF,cF,hK,_⟩:=hf;exact⟨h',hi.kpf k hK (by decide) (by decide),hs.kpf k hK (by decide) (by decide)⟩
theorem FP.name (h:FP w T AN n cN ps ls AI cI xs AS cS ss fs wr) {s:BA} (a:w3.ownsRow w.heap.size 9 1 v' (ss.length+1) (Qm_ ss++[.string s])) (d:wr.grownBy w3 (Value.slice AS ss.length cS).ownBlock):
  ∃b c,v'=.slice b (ss.length+1) c/\FP w T AN n cN ps ls AI cI xs b c (ss++[s]) fs w3:=by
 obtain⟨b,c,rfl,m3⟩:=Mine.of a;rw[Qw_]at d;have hr:∀g,AS.map (·.block)=some g->w.heap.size<=g/\∃cs,Blk wr g 9 cs:=fun g e=>⟨(Mine.blk h.2.2 e).1,QP_ h.2.2 e⟩
 refine⟨b,c,rfl,h.1.grown d hr,h.2.1.grown' d (fun g e=>?_),by simp only[Qm_,lA,List.map_append];exact m3⟩;obtain⟨_,cs,hk⟩:=hr g e;exact⟨_,cs,hk,by decide⟩
end
theorem GX_ (t:BA) (w:World) (ht:t.size<=1048576):Calls prog 21 #[.string t] w fun e w'=>∃(T:Nat) (A:OA) (n c:Nat) (ps:List PN) (ls:LI),e=.returned (.pointer (some ⟨T,0,none⟩))/\FiP w w.heap.size T A n c ps ls [] w'/\n<=300/\ls.length=n/\(∀k,k < n->ls[k]? =some (KS_ t (Q3_ ps k)))/\((KF_ t=none/\n=0/\ps=[])\/(KF_ t=some ps/\n=ps.length)):=by
 rcases hr:KF_ t with _|ps
 ·refine(V5_ t w ht hr).mono ?_;rintro e w' ⟨T,rfl,h⟩;exact⟨T,none,0,0,[],[],rfl,h,Nat.zero_le _,rfl,fun k a=>absurd a oo,.inl ⟨rfl,rfl,rfl⟩⟩
 ·refine(Y0_ t w ht ps hr).mono ?_;rintro e w' ⟨T,A,c,rfl,h⟩;obtain⟨h1,h2,h3⟩:=QU_ hr;exact⟨T,A,ps.length,c,ps,YP_ t ps,rfl,h,h2,Gx_ t ps,fun k a=>qC_ h1 a,.inr ⟨rfl,rfl⟩⟩
end Go.Proofs.YtgbikafalcbibaaGreatDoor

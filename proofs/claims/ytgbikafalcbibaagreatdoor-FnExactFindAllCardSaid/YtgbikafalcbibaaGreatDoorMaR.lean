/-
  Put together by program (shake.py):SpaL,SpaM,SpaN,SpaO.
-/
import Derived.Test.YtgbikafalcbibaaGreatDoorMaQ
set_option maxRecDepth 100000
set_option linter.all false
set_option maxHeartbeats 25600000
open Go.Lib (hid)
open Go.Proofs.Tryz
namespace Go.Proofs.YtgbikafalcbibaaGreatDoor
open Go.RowKit
theorem Qe1_ {sg:List SgP} {s t:PS} (h:t.at_=s.at_) (m:BA):isM sg (some t) m=isM sg (some s) m:=by unfold isM Qu_;simp only[h]
theorem Qeg_ {sg:List SgP} {s t:PS} (h:t.at_=s.at_) (l:List BA):Zs_ sg (some t) l=Zs_ sg (some s) l:=by
 induction l with
 |nil=>rfl
 |cons m l ih=>unfold Zs_;rw[Qe1_ h,ih]
theorem vB_ {sg:List SgP} {s t:PS} (h:t.at_=s.at_) (l:Nat):KK_ sg (some t) l=KK_ sg (some s) l:=Qeg_ h _
theorem Qfg_ {a b:BA} (h:a.toList=b.toList):a=b:=by
 rw[ByteArray.toList_eq,ByteArray.toList_eq]at h;obtain⟨⟨a⟩⟩:=a;obtain⟨⟨b⟩⟩:=b;simp at h;subst h
 rfl
theorem vs_ {sg:List SgP} {st:RdSt} {m:BA} (h:isM sg st m=true):(Qu_ sg st 0).2.1.toList=m.toList:=by
 unfold isM at h;rw[Bool.and_eq_true]at h;exact eq_of_beq h.2
theorem vr_ {sg:List SgP} {st:RdSt} {m m':BA} (h:isM sg st m=true) (h':isM sg st m'=true):m=m':=Qfg_ ((vs_ h).symm.trans (vs_ h'))
theorem Qeh_ {sg:List SgP} {st:RdSt} {m:BA} (h:isM sg st m=true):∀l:List BA,m∈l->Zs_ sg st l=m:=by
 intro l
 induction l with
 |nil=>intro a;cases a
 |cons x l ih=>
  intro a;unfold Zs_;by_cases b:isM sg st x=true
  ·rw[if_pos b];exact vr_ b h
  ·rw[if_neg b];rcases List.mem_cons.1 a with rfl|a
   ·exact absurd h b
   ·exact ih a
theorem xh_ {sg:List SgP} {st:RdSt}:∀l:List BA,((Zs_ sg st l).toList==[])=false->Zs_ sg st l∈l:=by
 intro l
 induction l with
 |nil=>intro h;exact absurd X6_ (by rw[show(noT.toList==[])=false from h];decide)
 |cons x l ih=>
  intro h;unfold Zs_ at h |-
  by_cases hx:isM sg st x=true
  ·rw[if_pos hx];exact List.mem_cons_self
  ·rw[if_neg hx]at h |-; exact List.mem_cons_of_mem _ (ih h)
def ChR (sg:List SgP) (one:RdSt->PR) (l N n:Nat) (Q:PR) (tx:BA) (ks:LI) (st:RdSt):Prop:=
 (tx=noT/\∃M k,ks=[k]/\Zp_ sg one l N M k st=Q/\Enough n M st)\/
 (tx∈K8_ l/\2<=ks.length/\∃a M2,Enough n a st/\Enough n M2 st/\Zp_ sg one l N M2 (KC_ (GK_ sg one tx a ks st).2 ⟨7,tx,(GK_ sg one tx a ks st).1,false⟩).1 (KC_ (GK_ sg one tx a ks st).2 ⟨7,tx,(GK_ sg one tx a ks st).1,false⟩).2=Q)
section
variable {sg:List SgP} {one:RdSt->PR} {l N n:Nat} {Q:PR} {tx:BA} {ks:LI} {st:RdSt} {s:PS}
theorem vM_ (h:isM sg st tx=false) (M:Nat) (ks:LI):GK_ sg one tx M ks st=(ks,st):=by
 cases M with
 |zero=>rfl
 |succ M=>unfold GK_;rw[h,if_neg (by decide)]
theorem zq_ (h:KK_ sg st l=noT) (M:Nat) (k:Int):Zp_ sg one l N M k st=(k,st):=by
 cases M with
 |zero=>rfl
 |succ M=>unfold Zp_;rw[h,if_pos X6_]
theorem vH_ (h:noT∈K8_ l):False:=absurd X6_ (by rw[qI_ l noT h];decide)
theorem QbQ_ (b:KK_ sg st l=noT) (h:ChR sg one l N n Q tx ks st):(∃k,ks=[k]/\Q=(k,st))\/(2<=ks.length/\Q=KC_ st ⟨7,tx,ks,false⟩):=by
 rcases h with⟨_,M,k,rfl,a,_⟩|⟨hx,hl,M1,M2,_,_,a⟩
 ·left;rw[zq_ b]at a;exact⟨k,rfl,a.symm⟩
 ·right;have hi:isM sg st tx=false:=by
   rcases bft (isM sg st tx)with e|e
   ·have:=Qeh_ e (K8_ l) hx;exact absurd (this.symm.trans b ▸ hx) (fun h=>vH_ h)
   ·exact e
  rw[vM_ hi]at a;refine⟨hl,?_⟩
  cases st with
  |none=>rw[Z6_,ZV_]at a;rw[Z6_];exact a.symm
  |some s=>
   rcases hA:KC_ (some s) ⟨7,tx,ks,false⟩with⟨k,_|t⟩
   ·rw[hA,ZV_]at a;exact a.symm
   ·rw[hA,zq_ (by rw[vB_ (zp_ rfl (by rw[hA]))];exact b)]at a;exact a.symm
theorem QcX_ (a:isM sg (some s) tx=true) (M:Nat) (ks:LI):GK_ sg one tx (M+1) ks (some s)=GK_ sg one tx M (ks++[(one (Qe_ (some s))).1]) (one (Qe_ (some s))).2:=by
 rw[GK_,if_pos a]
theorem Go_ {M:Nat} (h:Enough n M (some s)) (hs:s.at_<=n):∃M',M=M'+1:=⟨M - 1,by have:=h s rfl;omega⟩
theorem QdS_ (hN:n < N) (h1:∀st,Adv 1 1 st (one st).2) (hs:s.at_<=n) (c:((KK_ sg (some s) l).toList==[])=false) (h:ChR sg one l N n Q tx ks (some s)) (j:tx=noT\/tx=KK_ sg (some s) l):
  ChR sg one l N n Q (KK_ sg (some s) l) (ks++[(one (Qe_ (some s))).1]) (one (Qe_ (some s))).2:=by
 have i:KK_ sg (some s) l∈K8_ l:=xh_ _ c;have b:=qH_ c;have a:Adv (0+1) 0 (some s) (one (Qe_ (some s))).2:=((Qh_ (some s)).trans (h1 _)).weak oo oo;right;rcases h with⟨_,M,k,rfl,e,he⟩|⟨hx,hl,M1,M2,d,g,e⟩
 ·obtain⟨M,rfl⟩:=Go_ he hs;obtain⟨f,rfl⟩:∃f,N=f+1:=⟨N - 1,oo⟩;rw[Zp_,if_neg (by rw[c];decide),QcX_ b]at e;exact⟨i,by simp,f,M,(QL_ hN (some s)).adv a,he.adv a,e⟩
 ·rcases j with rfl|j
  ·exact(vH_ hx).elim
  ·rw[<-j]at b |-
   obtain⟨M1,rfl⟩:=Go_ d hs;rw[QcX_ b]at e;exact⟨hx,by rw[lA];omega,M1,M2,d.adv a,g.mono a,e⟩
theorem Qfj_ (hN:n < N) (h1:∀st,Adv 1 1 st (one st).2) (h0:one none=(0,none)) (hs:s.at_<=n) (b:((KK_ sg (some s) l).toList==[])=false) (h:ChR sg one l N n Q tx ks (some s)) (ht:tx≠noT) (p:tx≠KK_ sg (some s) l):
  ChR sg one l N n Q (KK_ sg (some s) l) ([(KC_ (Qe_ (some s)) ⟨7,tx,ks,false⟩).1]++[(one (KC_ (Qe_ (some s)) ⟨7,tx,ks,false⟩).2).1]) (one (KC_ (Qe_ (some s)) ⟨7,tx,ks,false⟩).2).2:=by
 have i:KK_ sg (some s) l∈K8_ l:=xh_ _ b;have d:=qH_ b;right;rcases h with⟨e,_⟩|⟨hx,hl,M1,M2,q,g,c⟩
 ·exact absurd e ht
 ·have hi:isM sg (some s) tx=false:=by
   rcases bft (isM sg (some s) tx)with e|e
   ·exact absurd (vr_ e d) p
   ·exact e
  rw[vM_ hi]at c;rw[Vm_];rcases hA:KC_ (some s) ⟨7,tx,ks,false⟩with⟨k,_|t⟩
  ·have hk:k=0:=by
    unfold KC_ at hA;simp only at hA;split at hA
    ·injection hA with e1 e2;exact e1.symm
    ·injection hA with e1 e2;cases e2
   rw[hA,ZV_]at c;dsimp only;rw[zO_,h0];refine⟨i,by simp,0,0,(fun t e=>by cases e),(fun t e=>by cases e),?_⟩;rw[QcV_,Z6_,ZV_,<-c,hk]
  ·have f:t.at_=s.at_:=zp_ (st:=some s) (x:=⟨7,tx,ks,false⟩) rfl (by rw[hA]);obtain⟨M2,rfl⟩:=Go_ g hs;obtain⟨j,rfl⟩:∃j,N=j+1:=⟨N - 1,oo⟩;have o:KK_ sg (some t) l=KK_ sg (some s) l:=vB_ f l;have m:isM sg (some t) (KK_ sg (some s) l)=true:=(by rw[Qe1_ f];exact d);have a:Adv (0+1) 0 (some s) (one (Qe_ (some t))).2:=by
    have ha:=Q5_ (some s) ⟨7,tx,ks,false⟩;rw[hA]at ha;exact((ha.trans (Qh_ (some t))).trans (h1 _)).weak oo oo
   rw[hA]at c;dsimp only at c |-
   rw[Zp_,o,if_neg (by rw[b];decide),QcX_ m]at c;exact⟨i,by simp,j,M2,(QL_ hN (some s)).adv a,g.adv a,c⟩
end
theorem Qcq_ (l:Nat) (hl:l < 6) (w:World):Calls prog 207 #[.int .i64 l] w fun e w'=>∃B,e=.returned (.slice (some ⟨B,0,none⟩) (K8_ l).length (K8_ l).length)/\Blk w' B 9 ((K8_ l).map Value.string).toArray/\w.heap.size<=B/\Below w.heap.size w w':=by
 rcases (show l=0\/l=1\/l=2\/l=3\/l=4\/l=5 from oo)with rfl|rfl|rfl|rfl|rfl|rfl
 all_goals
  go_enter func207,ntmps207;go_wp2;go_ret;exact⟨w.heap.size,rfl,Blk.new _ _ _,Nat.le_refl _,grow_⟩
theorem RC.ty_str (R:RC):R.ty≠9:=by unfold RC.ty;cases R.imp<;>decide
def InR (sg:List SgP) (ms:List BA) (a:BA) (s:PS) (j:Nat) (mm:BA) (st2:RdSt):Prop:=
 ((mm.toList==[])=true/\st2=some s/\Zs_ sg (some s) (ms.drop j)=a)\/(mm=a/\(a.toList==[])=false/\st2=Qe_ (some s))
theorem QcD_ (l:Nat):(K8_ l).length<=2:=by
 unfold K8_
 repeat' split
 all_goals simp
theorem Qf1_ {m:BA} (h:(m.toList==[])=true):m=noT:=Qfg_ ((eq_of_beq h).trans (eq_of_beq X6_).symm)
theorem xt_ {w:World} {B:Nat} {A:OA} {c:Nat} {k:Int} (h:Mine w B 3 1 A 1 c (Qa_ [k])):∃g,A=some ⟨g,0,none⟩/\w.cell? ⟨g,0,none⟩=some (.int .i64 k)/\g < w.heap.size:=by
 rcases h.own with⟨_,h0,_⟩|⟨g,rfl,hB,hn,hc,rest,hb,hs⟩
 ·cases h0
 ·exact⟨g,rfl,hb.cell 0,hb.lt⟩
theorem jB_ (R:RC) (hi:R.imp=false) (N f:Nat) (hN:R.n < N) (HE:SC R N f) (l d:Nat) (hl:l<=6) (st:RdSt) (row:ON) (w:World) (hI:RdI R d st row w) (hn:Need R.n st (9 - l) (f+1)) (hd:d+(f+1)<=100000) (aC:Deep d st):
  Calls prog 168 #[.pointer (some ⟨R.T,0,none⟩),.int .i64 l] w (Does R d row w (.int .i64 (Xa_ R.sg (Qd_ R.sg N f) N l d st).1) (Xa_ R.sg (Qd_ R.sg N f) N l d st).2):=by
 have bN:=hid hI;have aU:=hid (Kr.refl R.T row w);have ai:=hid hI.lo;unfold Does;unfold Xa_;by_cases h6:l=6
 ·rw[if_pos h6];have HP:=hid (HE.end_ R.U d st row w hI (hn.same (r':=2) oo (Adv.refl st)) oo aC);unfold PosS at HP;clear hI hn;subst h6;go_enter func168,ntmps168;go_wp2_with fail
  refine pst (HP.o) aU ?_;intro w1 al ar ah;go_wp2;go_ret;exact⟨rfl,al,ar.o,ah.o⟩
 ·rw[if_neg h6];have b2:l < 6:=oo;have HP:=HE.chain R.U (l+1) d st row w hI oo (hn.same (r':=9 - (l+1)) oo (Adv.refl st)) oo aC;rw[show((l+1:Nat):Int)=(l:Int)+1 from oo]at HP;have H:=Qy_ (sg:=R.sg) (N:=N) f (.chain (l+1)) d st;have HA:=hid (fun st=>Qy_ (sg:=R.sg) (N:=N) f (.chain (l+1)) d st);have HZ:=hid (Xt_ (sg:=R.sg) (N:=N) f (.chain (l+1)) d);have cn:=hI.ok.len;unfold PosS at HP;have HP:=hid HP;have HO:Hid (∀(U:Nat->Prop) (st':RdSt) (row:ON) (w:World),RdI { R with U:=U } d st' row w->Adv 1 0 st st'->(∀s,st=some s->s.at_ < R.n)->(st=none->st'=none)->Calls prog 168 #[.pointer (some ⟨R.T,0,none⟩),.int .i64 ((l:Int)+1)] w (fun e w'=>e=.returned (.int .i64 (Qd_ R.sg N f (.chain (l+1)) d st').1)/\∃row',RdI { R with U:=U } d (Qd_ R.sg N f (.chain (l+1)) d st').2 row' w'/\Kr R.T row w row' w')):=(show ∀U st' row w,_->_->_->_->_ from fun U st' row w h ha Z b8=>by
   have:=HE.chain U (l+1) d st' row w h oo (by
    cases st with
    |none=>rw[b8 rfl];exact hn.same oo (Adv.refl none)
    |some s=>exact hn.next (Z s rfl) (ha.weak (i':=0+1) (j':=0) oo oo) oo) oo (aC.adv ha)
   rwa[show((l+1:Nat):Int)=(l:Int)+1 from oo]at this)
  have cv:decide ((5:Int) < (l:Int))=false:=decide_eq_false oo;have cm:¬(5:Int) < (l:Int):=oo;have cD:IntKind.i64.wrap ((l:Int)+1)=(l:Int)+1:=IntWalk.i64_in _ oo;generalize Qd_ R.sg N f (.chain (l+1)) d=one at HP H HA HO HZ |-
  generalize hr:one st=r at HP H |-
  obtain⟨k0,ap⟩:=r;dsimp only at HP H |-
  have aJ:=hid H;obtain⟨Q,hQ⟩:=ex_ (Zp_ R.sg one l N N k0 ap);rw[hQ];have HQ:Hid (ChR R.sg one l N R.n Q noT [k0] ap):=(show ChR R.sg one l N R.n Q noT [k0] ap from .inl ⟨rfl,N,k0,rfl,hQ,QL_ hN _⟩);have aL:Hid (KidB [k0] ap):=(show KidB _ _ from⟨by simp,fun t' e=>by obtain⟨s,_,_,h2⟩:=H t' e;simp;omega⟩);obtain⟨i0,bB,bD,aF,bE⟩:=info_parts QB_;have K:=hid (And.intro bB (And.intro bD (And.intro aF bE)));have HV:=hid (fun(W:World)=>Qcq_ l b2 W);have bq:=hid (qI_ l);obtain⟨G,a6⟩:=ex_ (K8_ l);have bQ:=hid a6;have bp:=hid (QcD_ l);rw[a6]at HV bq bp;clear bB bD aF bE hI hn H hQ hr a6 aC;go_enter func168,ntmps168;go_wp2_with fail
  refine pst (HP.o) aU ?_;intro w1 al ar ah;have aF:=ah.o.size;go_wp2_with fail
  refine(HV.o _).mono ?_;rintro e w2 ⟨B,rfl,KB,bY,g2⟩;have bm:=hid ((GZ_ w1 k0).more (B':=w.heap.size) oo);have bj:=hid ((ar.o.res_new (A:=some ⟨w1.heap.size,0,none⟩) (br.alloc (Nat.le_refl _) (.cells #[.int .i64 k0] 3)) (fun g hg=>by simp at hg;subst hg;simp)).next g2);have bn:=hid (bm.o.next g2);have bl:=hid ((ah.o.below (br.alloc (Nat.le_refl _) (.cells #[.int .i64 k0] 3))).below g2);have bh:=hid KB;clear bY g2 bm KB;go_upto_region 6 with fail
  go_loopw [5,6] (fun v x wr=>∃(tx:BA) (ks:LI) (st':RdSt) (row':ON) (A:OA) (n c:Nat),v=.slice A n c/\x=.string tx/\Hid (n=ks.length)/\Hid (ChR R.sg one l N R.n Q tx ks st')/\Hid (Adv 1 1 st st')/\Hid (KidB ks st')/\Hid (Mine wr w.heap.size 3 1 A n c (Qa_ ks))/\Hid (RdI (R.res A) d st' row' wr)/\Hid (Kr R.T row w row' wr)/\Hid (Blk wr B 9 (G.map Value.string).toArray)) (fun _ _ wr=>V9_ R wr)
  case atStart=>exact⟨noT,[k0],ap,al,_,1,1,rfl,rfl,(show 1=1 from rfl),HQ,aJ,aL,bn,bj,bl,bh⟩
  case round=>
   clear HQ aJ aL bN ar bj aU ah bl bn bh HP HV aF;obtain⟨tx,ks,st',row',A,n,c,rfl,rfl,HL,HC,aq,bO,V,y,T,HB⟩:=hrel
   cases st' with
   |none=>
    obtain⟨a,b,AN,cN,l',hc,hb,ak⟩:=y.o;obtain⟨c1,c2,c3,cf,cz⟩:=hc.csu _ hi;obtain rfl:b=true:=hb;clear hc c1 c3 ak;rcases QbQ_ (zC_ l) HC.o with⟨kE,rfl,rfl⟩|⟨b3,rfl⟩
    ·have a7:n=1:=HL.o;subst a7;obtain⟨gE,rfl,cE,zE⟩:=xt_ V.o;go_wp2;go_ret;exact⟨rfl,row',y.o.unres,T.o⟩
    ·have b5:((n:Int)==1)=false:=(by rw[beq_eq_false_iff_ne];have:=HL.o;omega);have aT:=hid y.o.unres;go_wp2_with fail
     refine(Ym_ R.U hi d none row' 7 tx A n c ks w.heap.size _ aT.o V.o ai.o).mono ?_;rintro e w9 ⟨rfl,ao,h9,k9⟩;go_wp2;go_ret;exact⟨rfl,ao,h9,T.o.trans k9⟩
   |some o=>
    obtain⟨s,es,ha,b6⟩:=aq.o o rfl;obtain⟨a,b,AN,cN,l',hc,hb,ak⟩:=y.o;obtain⟨c1,c2,c3,cf,cz⟩:=hc.csu _ hi;obtain⟨rfl,_,_⟩:=hb;have aM:o.at_<=R.n:=(y.o.le rfl).1;have b9:s.at_ < R.n:=oo;have cA:o.nodes.length<=300:=(y.o.le rfl).2;have bs:Hid (∀(U:Nat->Prop) (st2:RdSt) (row:ON) (w:World),RdI { R with U:=U } d st2 row w->Adv 0 0 (some o) st2->Calls prog 168 #[.pointer (some ⟨R.T,0,none⟩),.int .i64 ((l:Int)+1)] w (fun e w'=>e=.returned (.int .i64 (one st2).1)/\∃row',RdI { R with U:=U } d (one st2).2 row' w'/\Kr R.T row w row' w')):=(show ∀U st2 row w,_->_->_ from fun U st2 row w h ha=>HO.o U st2 row w h ((aq.o.trans ha).weak oo oo) (fun s2 e2=>by rw[es]at e2;obtain rfl:=Option.some.inj e2;exact b9) (fun e=>by rw[es]at e;cases e));obtain⟨MK,a3⟩:=ex_ (KK_ R.sg (some o) l);have ax:=hid a3;have aK:Hid (InR R.sg G MK o 0 noT (some o)):=(show InR _ _ _ _ _ _ _ from .inl ⟨X6_,rfl,by rw[List.drop_zero,<-bQ.o];exact a3⟩);have cy:G.length=G.length:=rfl;clear hc c1 c3 ak ha b6 a3;go_upto_region 9 with fail
    clear c2 cf cz;go_loopw [8,9] (fun m i wi=>∃(j:Nat) (J:BA) (st2:RdSt) (row2:ON),m=.string J/\i=.int .i64 j/\j<=G.length/\Hid (InR R.sg G MK o j J st2)/\Hid (Mine wi w.heap.size 3 1 A n c (Qa_ ks))/\Hid (RdI (R.res A) d st2 row2 wi)/\Hid (Kr R.T row w row2 wi)/\Hid (Blk wi B 9 (G.map Value.string).toArray)) (fun _ i _=>G.length - (intOf i).toNat)
    case atStart=>exact⟨0,noT,some o,row',rfl,rfl,Nat.zero_le _,aK,V,y,T,HB⟩
    case round=>
     rename_i wo v0 x0 y0;have bk:=y;clear aK V y T HB;obtain⟨j,J,st2,row2,rfl,rfl,hj,ag,V,y,T,HB⟩:=hrel;rcases Nat.lt_or_ge j G.length with Z|cr
     ·obtain⟨x,hx⟩:∃x,G[j]? =some x:=⟨_,List.getElem?_eq_getElem Z⟩;have co:(j:Int) < (G.length:Int):=oo;have cx:=bp.o;have cC:IntKind.i64.wrap ((j:Int)+1)=(j:Int)+1:=IntWalk.i64_in _ oo;have kj:=HB.o.cell j;have kz:=HB.o.lt;simp only[List.getElem?_toArray,List.getElem?_map,hx,Option.map_some]at kj;rcases ag.o with⟨E,rfl,D⟩|⟨rfl,E,rfl⟩
      ·have X:(J.toList != [])=false:=(by rw[bne,E];rfl);have a4:G.drop j=x::G.drop (j+1):=by
        obtain⟨h1,h2⟩:=List.getElem?_eq_some_iff.1 hx;rw[<-h2];exact List.drop_eq_getElem_cons h1
       rw[a4]at D;unfold Zs_ at D;have HS:=hid (XX_ _ hi d (some o) row2 x _ y.o);rcases bft (isM R.sg (some o) x)with hM|hM
       ·rw[if_pos hM]at D;subst D;rw[hM,Qv_ hM]at HS;have cc:(x.toList==[])=false:=bq.o x (List.mem_of_getElem? hx);have L:Hid (InR R.sg G x o (j+1) x (Qe_ (some o))):=(show InR _ _ _ _ _ _ _ from .inr ⟨rfl,cc,rfl⟩);clear hM a4;go_wp2_with fail
        refine HS.o.mono ?_;rintro e w3 ⟨rfl,am,h3,k3⟩;have aZ:=hid (y.o.keepI k3 V.o);have ad:=hid (y.o.keep k3 HB.o (Ne.symm R.ty_str) (by decide));have aS:=hid h3;have aV:=hid (T.o.trans k3);clear h3 k3 kj kz;have kj:=ad.o.cell j;have kz:=ad.o.lt;simp only[List.getElem?_toArray,List.getElem?_map,hx,Option.map_some]at kj;go_wp2;go_roundw
        case rel=>exact⟨j+1,x,Qe_ (some o),am,rfl,by go_num,Z,L,aZ,aS,aV,ad⟩
        case measure=>simp[intOf];omega
       ·rw[if_neg (by rw[hM];decide)]at D;rw[hM,QC_ hM]at HS;have L:Hid (InR R.sg G MK o (j+1) J (some o)):=(show InR _ _ _ _ _ _ _ from .inl ⟨E,rfl,D⟩);clear hM a4 D;go_wp2_with fail
        refine HS.o.mono ?_;rintro e w3 ⟨rfl,am,h3,k3⟩;have aZ:=hid (y.o.keepI k3 V.o);have ad:=hid (y.o.keep k3 HB.o (Ne.symm R.ty_str) (by decide));have aS:=hid h3;have aV:=hid (T.o.trans k3);clear h3 k3 kj kz;go_wp2;go_roundw
        case rel=>exact⟨j+1,J,some o,am,rfl,by go_num,Z,L,aZ,aS,aV,ad⟩
        case measure=>simp[intOf];omega
      ·have L:Hid (InR R.sg G J o (j+1) J (Qe_ (some o))):=(show InR _ _ _ _ _ _ _ from .inr ⟨rfl,E,rfl⟩);have X:(J.toList != [])=true:=(by rw[bne,E];rfl);clear kj kz;go_wp2;go_roundw
       case rel=>exact⟨j+1,J,Qe_ (some o),row2,rfl,by go_num,Z,L,V,y,T,HB⟩
       case measure=>simp[intOf];omega
     ·have bA:¬(j:Int) < (G.length:Int):=oo;have cl:decide ((j:Int) < (G.length:Int))=false:=decide_eq_false bA;obtain rfl:j=G.length:=oo;rcases ag.o with⟨E,rfl,D⟩|⟨rfl,E,rfl⟩
      ·rw[List.drop_length]at D;have X:(J.toList != [])=false:=(by rw[bne,E];rfl);have b7:KK_ R.sg (some o) l=noT:=ax.o.trans D.symm;clear ag D;rcases QbQ_ b7 HC.o with⟨kE,rfl,rfl⟩|⟨b3,rfl⟩
       ·have a7:n=1:=HL.o;subst a7;obtain⟨gE,rfl,cE,zE⟩:=xt_ V.o;go_wp2;go_ret;exact⟨rfl,row2,y.o.unres,T.o⟩
       ·have b5:((n:Int)==1)=false:=(by rw[beq_eq_false_iff_ne];have:=HL.o;omega);have aT:=hid y.o.unres;go_wp2_with fail
        refine(Ym_ R.U hi d (some o) row2 7 tx A n c ks w.heap.size _ aT.o V.o ai.o).mono ?_;rintro e w9 ⟨rfl,ao,h9,k9⟩;go_wp2;go_ret;exact⟨rfl,ao,h9,T.o.trans k9⟩
      ·have X:(J.toList != [])=true:=(by rw[bne,E];rfl);have aD:((KK_ R.sg (some o) l).toList==[])=false:=(by rw[ax.o];exact E);have bC:=bO.o.2 o rfl;by_cases p:tx=noT\/tx=KK_ R.sg (some o) l
       ·have q:=QdS_ hN HA.o aM aD HC.o p;rw[ax.o]at q p;have k:=(Qh_ (some o)).trans (HA.o (Qe_ (some o)));have HX:=hid (fun(row:ON) (W:World) h=>bs.o (fun x=>R.U x\/A.map (·.block)=some x) (Qe_ (some o)) row W h ((Qh_ _).weak oo oo));generalize one (Qe_ (some o))=r3 at q k HX;obtain⟨Y,S⟩:=r3;dsimp only at q k HX;have aR:=hid q;have aO:Hid (KidB (ks++[Y]) S):=(show KidB _ _ from⟨by rw[lA];simp;omega,fun t e=>by
         obtain⟨cj,e2,_,h3⟩:=k t e;obtain rfl:=Option.some.inj e2;rw[lA];simp;omega⟩)
        have aN:Hid (Adv 1 1 st S):=(aq.o.trans k).weak oo oo;have ac:=hid k;have bP:Hid (n+1=(ks++[Y]).length):=(show _=_ by rw[lA,HL.o];simp);have ct:n<=300:=by rw[HL.o];omega
        -- the tests of the mark
        have cb:((tx.toList != [])=false/\(tx.toList==[])=true)\/((tx.toList != [])=true/\(tx.toList==[])=false/\(J.toList != tx.toList)=false/\(J.toList==tx.toList)=true):=by
         rcases p with e|e
         ·left;rw[e];exact⟨by rw[bne,X6_];rfl,X6_⟩
         ·right;rw[e];exact⟨X,E,by rw[bne,beq_self_eq_true];rfl,beq_self_eq_true _⟩
        clear q k p aD bC ag;rcases cb with⟨t1,t2⟩|⟨t1,t2,t3,t4⟩
        all_goals
         go_wp2_with fail
         refine(HX.o _ _ y.o).mono ?_;rintro e w6 ⟨rfl,an,h6,k6⟩;have z:=hid (y.o.keepI k6 V.o);have O:=hid (y.o.keep k6 HB.o (Ne.symm R.ty_str) (by decide));have ae:=hid h6;have P:=hid (T.o.trans k6);clear h6 k6 HX V y T HB;have cd:=P.o.size;have aP:=hid ai.o.1;go_wp2_with (at_builtin;(refine Qf_ _ rfl (.tmp 61) (.tmp 66) _ rfl w.heap.size 3 i0 (.int .i64 0) 1 8 underlying34 K.o.1 K.o.2.1 K.o.2.2.1 K.o.2.2.2 rfl (by decide) (.slice A n c) n (Qa_ ks) rfl (Mine.alloc z.o _) ⟨w6.heap.size,0,none⟩ 1 1 [.int .i64 Y] rfl rfl (Kq_ _ Y _) (Kr_ _) (by unfold maxLen;omega) oo (by simp;omega) ?_);intro v' w7 F I M;obtain⟨A7,c7,rfl,h7,m7⟩:=RdI.appended ae.o z.o aP.o bra F I M)
         have aY:=hid ((P.o.below bra).grown I (fun g hg=>by rw[Qw_]at hg;exact(Mine.blk z.o hg).1));have aQ:=hid ((O.o.alloc (.cells #[.int .i64 Y] 3)).grown (Qw_ _ _ _ ▸ I) (fun e=>by obtain⟨bV,a5⟩:=QP_ (Mine.alloc z.o (.cells #[.int .i64 Y] 3)) e.symm;exact KM_ (O.o.alloc _) a5 (by decide) rfl));rw[<-QO_]at m7;have af:=hid h7;have a0:=hid m7;clear F I M h7 m7 ae z P O;go_wp2;go_roundw
         case rel=>exact⟨J,ks++[Y],S,an,A7,n+1,c7,rfl,rfl,bP,aR,aN,aO,a0,af,aY,aQ⟩
         case measure=>exact ZA_ hi bk.o af.o (ac.o.weak (i':=1) (j':=0) oo oo)
       ·have a8:tx≠noT:=fun e=>p (.inl e)
        have aE:tx≠KK_ R.sg (some o) l:=fun e=>p (.inr e)
        have q:=Qfj_ hN HA.o HZ.o aM aD HC.o a8 aE;rw[ax.o]at q aE;have C:=(Qh_ (some o)).trans (Q5_ (Qe_ (some o)) ⟨7,tx,ks,false⟩);have ay:=hid (fun(row:ON) (W:World) (A:OA) (n c:Nat) h hm=>Ym_ R.U hi d (Qe_ (some o)) row 7 tx A n c ks w.heap.size W h hm ai.o);generalize KC_ (Qe_ (some o)) ⟨7,tx,ks,false⟩=r2 at q C ay;obtain⟨kp,ba⟩:=r2;dsimp only at q C ay;have k:=C.trans (HA.o ba);have HX:=hid (fun(U:Nat->Prop) (row:ON) (W:World) h=>bs.o U ba row W h (C.weak oo oo));generalize one ba=r3 at q k HX;obtain⟨Y,S⟩:=r3;dsimp only at q k HX;have aR:=hid q;have aO:Hid (KidB ([kp]++[Y]) S):=(show KidB _ _ from⟨by simp,fun t e=>by
         obtain⟨cj,e2,_,h3⟩:=k t e;obtain rfl:=Option.some.inj e2;simp;omega⟩)
        have aN:Hid (Adv 1 1 st S):=(aq.o.trans k).weak oo oo;have ac:=hid k;have b4:(J.toList==tx.toList)=false:=by
         rw[beq_eq_false_iff_ne];exact fun e=>aE (Qfg_ e).symm
        have cp:(J.toList != tx.toList)=true:=(by rw[bne,b4];rfl);have ca:(tx.toList==[])=false:=by
         rcases bft (tx.toList==[])with e|e
         ·exact absurd (Qf1_ e) a8
         ·exact e
        have cB:(tx.toList != [])=true:=(by rw[bne,ca];rfl);clear q k C p a8 aE aD bC ag;go_wp2_with fail
        refine(ay.o _ _ _ _ _ y.o.unres V.o).mono ?_;rintro e w5 ⟨rfl,cq,h5,k5⟩;have bi:=hid (y.o.keep k5 HB.o (Ne.symm R.ty_str) (by decide));have aX:=hid (T.o.trans k5);have cF:=aX.o.size;have av:=hid (h5.res_new (A:=some ⟨w5.heap.size,0,none⟩) (br.alloc (Nat.le_refl _) (.cells #[.int .i64 kp] 3)) (fun g hg=>by simp at hg;subst hg;simp));have bo:=hid ((GZ_ w5 kp).more (B':=w.heap.size) oo);clear h5 k5 ay V y T HB;go_wp2_with fail
        refine(HX.o _ _ _ av.o).mono ?_;rintro e w6 ⟨rfl,an,h6,k6⟩;have z:=hid (av.o.keepI k6 bo.o);have O:=hid (av.o.keep k6 (bi.o.alloc _) (Ne.symm R.ty_str) (by decide));have ae:=hid h6;have P:=hid ((aX.o.below bra).trans k6);clear h6 k6 HX bo av aX bi;have cd:=P.o.size;have aP:=hid ai.o.1;go_wp2_with (at_builtin;(refine Qf_ _ rfl (.tmp 61) (.tmp 66) _ rfl w.heap.size 3 i0 (.int .i64 0) 1 8 underlying34 K.o.1 K.o.2.1 K.o.2.2.1 K.o.2.2.2 rfl (by decide) (.slice (some ⟨w5.heap.size,0,none⟩) 1 1) 1 (Qa_ [kp]) rfl (Mine.alloc z.o _) ⟨w6.heap.size,0,none⟩ 1 1 [.int .i64 Y] rfl rfl (Kq_ _ Y _) (Kr_ _) (by unfold maxLen;omega) oo (by simp;omega) ?_);intro v' w7 F I M;obtain⟨A7,c7,rfl,h7,m7⟩:=RdI.appended ae.o z.o aP.o bra F I M)
        have aY:=hid ((P.o.below bra).grown I (fun g hg=>by rw[Qw_]at hg;exact(Mine.blk z.o hg).1));have aQ:=hid ((O.o.alloc (.cells #[.int .i64 Y] 3)).grown (Qw_ _ _ _ ▸ I) (fun e=>by obtain⟨bV,a5⟩:=QP_ (Mine.alloc z.o (.cells #[.int .i64 Y] 3)) e.symm;exact KM_ (O.o.alloc _) a5 (by decide) rfl));rw[<-QO_]at m7;have af:=hid h7;have a0:=hid m7;clear F I M h7 m7 ae z P O;go_wp2;go_roundw
        case rel=>exact⟨J,[kp]++[Y],S,an,A7,2,c7,rfl,rfl,(show 2=2 from rfl),aR,aN,aO,a0,af,aY,aQ⟩
        case measure=>exact ZA_ hi bk.o af.o (ac.o.weak (i':=1) (j':=0) oo oo)
theorem x9_ (R:RC) (hi:R.imp=false) (d:Nat) (st:RdSt) (row:ON) (w:World) (b:RdI R d st row w):
  Calls prog 71 #[.pointer (some ⟨R.T,0,none⟩),.int .i64 1] w fun e w'=>e=.returned (.bool (Kd_ R.sg st 0))/\∃m,w'=w.drewN m:=by
 unfold Kd_;rcases b.see hi with⟨rfl,c2,hs,cz,cf⟩|⟨s,a,rfl,ha,o,c,c0,c1,c2,hs,cz,cf⟩|⟨s,a,b1,off,x,rfl,ha,p,c,c0,c1,c2,hx,hs,cz,cf,f,n,e0,e1,e2,e3⟩
 ·rw[hs,show((sgZero.1==1)&&!X3_ sgZero.2.1)=false from rfl];clear b;go_enter func71,ntmps71;go_wp2;go_quiet (fail);go_wp2;go_ret;exact⟨rfl,_,rfl⟩
 ·rw[hs,show((sgZero.1==1)&&!X3_ sgZero.2.1)=false from rfl];have j:decide ((a:Int) < (R.n:Int))=false:=by rw[decide_eq_false_iff_not];omega
  have g:¬(a:Int) < R.n:=oo;have i:¬a < R.n:=oo;have k:(R.n:Int)<=a:=oo;clear b hs;go_enter func71,ntmps71;go_wp2;go_quiet (fail);go_wp2;go_ret;exact⟨rfl,_,rfl⟩
 ·rw[hs];obtain⟨kd,xt,xp,xz⟩:=x;dsimp only at e0 e1 e2 e3 |-
  have l:(a:Int) < R.n:=oo;clear b hs hx;rcases bft (kd==1)with h1|h1
  ·obtain rfl:kd=1:=eq_of_beq h1;rw[show((1:Int)==1)=true from h1,Bool.true_and];clear h1;have HK:=hid (fun W=>Jd_ xt W);generalize X3_ xt=kb at HK |-
   go_enter func71,ntmps71;go_wp2;go_quiet ((go_at_call 103;exact Calls.quiet_of_same ((HK.o _).mono fun _ _ h=>⟨h.1,h.2.symm⟩)));go_wp2;go_ret;exact⟨rfl,_,rfl⟩
  ·rw[h1,Bool.false_and];go_enter func71,ntmps71;go_wp2;go_quiet (fail);go_wp2;go_ret;exact⟨rfl,_,rfl⟩
theorem VA_ (R:RC) (hi:R.imp=false) (d:Nat) (s:PS) (row:ON) (w:World) (b:RdI R d (some s) row w):
  Calls prog 43 #[.pointer (some ⟨R.T,0,none⟩)] w fun e w'=>e=.returned (.bool (Qu_ R.sg (some s) 0).2.2.2)/\Below w.heap.size w w':=by
 rcases b.see hi with⟨h,_⟩|⟨s',a,h,ha,n,c,c0,c1,c2,hs,cz,cf⟩|⟨s',a,b1,off,x,h,ha,o,c,c0,c1,c2,hx,hs,cz,cf,f,m,e0,e1,e2,e3⟩
 ·cases h
 ·rw[hs,show sgZero.2.2.2=false from rfl];have j:decide ((a:Int) < (R.n:Int))=false:=by rw[decide_eq_false_iff_not];omega
  have g:¬(a:Int) < R.n:=oo;have i:¬a < R.n:=oo;have k:(R.n:Int)<=a:=oo;clear b hs;go_enter func43,ntmps43;go_wp2;go_quiet (fail);go_wp2;go_ret;exact⟨rfl,grow_⟩
 ·rw[hs];have l:(a:Int) < R.n:=oo;clear b hs hx;go_enter func43,ntmps43;go_wp2;go_quiet (fail);go_wp2;go_ret;exact⟨rfl,grow_⟩
theorem Qai_ (v:Bool):∀(l:List Nd) (k:Nat),k < l.length->(l.flatMap Qq_).set (k * 4+3) (.bool v)=(l.modify k (fun x=>{ x with blank:=v })).flatMap Qq_:=by
 intro l
 induction l with
 |nil=>intro k h;cases h
 |cons x l ih=>
  intro k h
  cases k with
  |zero=>rfl
  |succ k=>
   have e:(k+1) * 4+3=(k * 4+3)+4:=oo;rw[e,List.flatMap_cons,List.modify_succ_cons,List.flatMap_cons,<-ih k (by simpa using h)]
   rfl
theorem QaS_ {α:Type} {f:α->α}:∀{l:List α} {k:Nat} {x:α},x∈l.modify k f->x∈l\/∃y∈l,x=f y:=by
 intro l
 induction l with
 |nil=>intro k x h;simp at h
 |cons a l ih=>
  intro k x h
  cases k with
  |zero=>
   simp at h;rcases h with rfl|h
   ·exact .inr ⟨a,by simp,rfl⟩
   ·exact .inl (by simp[h])
  |succ k=>
   simp at h;rcases h with rfl|h
   ·exact .inl (by simp)
   ·rcases ih h with h|⟨y,hy,rfl⟩
    ·exact .inl (by simp[h])
    ·exact .inr ⟨y,by simp[hy],rfl⟩
theorem QaR_ (v:Bool):∀(l:List Nd) (k:Nat),(l.modify k (fun x=>{ x with blank:=v })).map Nd.pn=(l.map Nd.pn).modify k (fun x=>⟨x.kind,x.text,x.kids,v⟩):=by
 intro l
 induction l with
 |nil=>intro k;simp
 |cons a l ih=>
  intro k
  cases k with
  |zero=>rfl
  |succ k=>simp only[List.modify_succ_cons,List.map_cons,ih]
theorem RdC.blanked {R:RC} {a d:Nat} {b:Bool} {AN:OA} {cN:Nat} {l:List Nd} {w:World} (h:RdC R a d b AN cN l w) {k:Nat} (hk:k < l.length) (v:Bool):
  ∃g,AN=some ⟨g,0,none⟩/\(∃u,w.cell? ⟨g,k * 4+3,none⟩=some u)/\(∀i,w.frozen? ⟨g,i,none⟩=false)/\g < w.heap.size/\RdC R a d b AN cN (l.modify k (fun x=>{ x with blank:=v })) (w.setCell ⟨g,k * 4+3,none⟩ (.bool v))/\Kr R.T (AN.map (·.block)) w (AN.map (·.block)) (w.setCell ⟨g,k * 4+3,none⟩ (.bool v)):=by
 obtain⟨h1,h2,n,h4,h5,h6,h7⟩:=h;have t:=h2.len;rcases h2.own with⟨_,e,_⟩|⟨g,rfl,hB,hn,hc,rest,f,hs⟩
 ·omega
 ·have r:R.T≠g:=KM_ h1 f R.ty_node;have m:(l.flatMap Qq_).length=l.length * 4:=Jz_ Qq_ Kz_ l;have c:(l.modify k (fun x=>{ x with blank:=v })).length=l.length:=by simp
  have o:=f.set_ (k * 4+3) (.bool v);have p:((l.flatMap Qq_++rest).toArray).setIfInBounds (k * 4+3) (.bool v)=((l.modify k (fun x=>{ x with blank:=v })).flatMap Qq_++rest).toArray:=by
   rw[<-Qai_ v l k hk];simp only[List.setIfInBounds_toArray];rw[List.set_append_left _ _ (by rw[m];omega)]
  rw[p]at o;have j:∃u,w.cell? ⟨g,k * 4+3,none⟩=some u:=by
   rw[f.cell];exact⟨_,by rw[List.getElem?_toArray];exact List.getElem?_eq_getElem (l:=l.flatMap Qq_++rest) (i:=k * 4+3) (by rw[lA,m];omega)⟩
  refine⟨g,rfl,j,f.frozen,f.lt,⟨?_,?_,⟨fun x q=>?_,fun g hg=>by simpa[World.setCell]using n.2 g hg⟩,by rw[c];exact h4,h5,h6.setCell hB _,h7⟩,?_⟩
  ·rw[c];exact h1.far r _
  ·rw[c];exact Mine.mk_own ⟨rest,o,by
    have:=hs;simp only[lA,m,Jz_ Qq_ Kz_,c]at this |-
    exact this⟩ (by rw[Jz_ Qq_ Kz_,c]) hB hn hc
  ·rcases QaS_ q with q|⟨y,hy,rfl⟩
   ·exact⟨(n.1 x q).1,Kx_ (n.1 x q).2 f (by decide) _ _⟩
   ·exact⟨(n.1 y hy).1,Kx_ (n.1 y hy).2 f (by decide) _ _⟩
  ·exact⟨by simp[World.setCell],.inl rfl,fun g' s ht hr=>Below.heap_setCell w ⟨g,k * 4+3,none⟩ _ g' (fun e=>hr (by rw[e];rfl))⟩
theorem K4_ (R:RC) (hi:R.imp=false) (d:Nat) (st:RdSt) (row:ON) (k:Int) (hk:0<=k) (b:Bool) (w:World) (hI:RdI R d st row w):
  Calls prog 45 #[.pointer (some ⟨R.T,0,none⟩),.int .i64 k,.bool b] w (Does R d row w (.tuple #[]) (Zl_ k b st)):=by
 unfold Does;have f:=hid hI;obtain⟨a,bb,AN,cN,l,h,j,c⟩:=hI;obtain⟨m,n,c2,o,c4,cf,cz⟩:=h.cs hi;obtain⟨k,rfl⟩:∃k':Nat,k=k':=⟨k.toNat,oo⟩;clear hk
 cases st with
 |none=>
  obtain rfl:bb=true:=j;rw[show Zl_ (k:Int) b none=none from rfl];clear h c m n o c4;go_enter func45,ntmps45;go_wp2;go_end0;exact⟨rfl,row,f.o,Kr.refl _ _ _⟩
 |some s=>
  obtain⟨rfl,ha,e⟩:=j;rcases Nat.lt_or_ge k l.length with q|p
  ·obtain⟨g,rfl,⟨u,hu⟩,hf,hz,hC,hK⟩:=h.blanked q b;have v:(k:Int) < (l.length:Int):=oo;have HC:=hid hC;have HK:=hid hK;have HH:Hid (StOk (Zl_ (k:Int) b (some s)) false a (l.modify k (fun x=>{ x with blank:=b }))):=(show StOk _ _ _ _ from⟨rfl,ha,by rw[QaR_,<-e];simp⟩);subst c;clear h hC hK m n o f e;go_enter func45,ntmps45;go_wp2;go_end0;exact⟨rfl,_,⟨a,false,_,_,_,HC.o,HH.o,rfl⟩,HK.o⟩
  ·have t:decide ((k:Int) < (l.length:Int))=false:=decide_eq_false oo;have r:¬(k:Int) < (l.length:Int):=oo;have i:Zl_ (k:Int) b (some s)=some s:=by
    unfold Zl_;rw[Option.map_some,Int.toNat_natCast,List.modify_eq_self (by rw[e,List.length_map];exact p)]
   rw[i];clear h c m n o e i;go_enter func45,ntmps45;go_wp2;go_end0;exact⟨rfl,row,f.o,Kr.refl _ _ _⟩
theorem vo_ (R:RC) (hi:R.imp=false) (N f:Nat) (HE:SC R N f) (d:Nat) (st:RdSt) (row:ON) (w:World) (hI:RdI R d st row w) (hn:Need R.n (Qk_ R.sg st ⟨#[40]⟩) 11 f) (hd:d+f<=100000) (a:Deep d st):
  Calls prog 135 #[.pointer (some ⟨R.T,0,none⟩)] w (Does R d row w (.int .i64 (JB_ R.sg (Qd_ R.sg N f) d st).1) (JB_ R.sg (Qd_ R.sg N f) d st).2):=by
 have e:=hid hI;have l:=hid (Kr.refl R.T row w);unfold Does JB_;dsimp only;have c:=hid (fun(row:ON) (W:World) h=>HE.value R.U d (Qk_ R.sg st ⟨#[40]⟩) row W h hn hd (a.adv (Qo_ _ _)));unfold PosS at c;generalize Qd_ R.sg N f .value d (Qk_ R.sg st ⟨#[40]⟩)=r at c |-
 obtain⟨k,st2⟩:=r;dsimp only at c |-
 clear hI hn a;go_enter func135,ntmps135;go_wp2_with fail
 refine pst (KA_ R hi d st row ⟨#[40]⟩ w e.o) l ?_;intro w1 p g m;go_wp2_with fail
 refine pst (c.o _ _ g.o) m ?_;intro w2 row2 i n;go_wp2_with fail
 refine pst (KA_ R hi d st2 row2 ⟨#[41]⟩ w2 i.o) n ?_;intro w3 b j o;go_wp2;go_ret;exact⟨rfl,b,j.o,o.o⟩
theorem YI_ (R:RC) (hi:R.imp=false) (N f:Nat) (HE:SC R N f) (d:Nat) (st:RdSt) (row:ON) (w:World) (O:RdI R d st row w) (hn:Need R.n (Qe_ (nmS R.sg st)) 11 f) (hd:d+f<=100000) (F:Deep d st):
  Calls prog 74 #[.pointer (some ⟨R.T,0,none⟩)] w (Does R d row w (.int .i64 (Ji_ R.sg (Qd_ R.sg N f) d false st).1) (Ji_ R.sg (Qd_ R.sg N f) d false st).2):=by
 have ao:=hid O;have K:=hid (Kr.refl R.T row w);have B:=hid O.lo;unfold Does Ji_;have b:=(F.adv (Jm_ (sg:=R.sg) st)).adv (Qh_ _);have HX:=hid (YK_ R.U hi d st row w O);generalize nmT R.sg st=tx at HX |-
 generalize nmS R.sg st=o at HX hn b |-
 have HS:=hid (fun(U:Nat->Prop) (row:ON) (W:World) h=>XX_ U hi d o row ⟨#[61]⟩ W h);rcases bft (isM R.sg o ⟨#[61]⟩)with s|s
 ·rw[if_pos s];rw[s,Qv_ s]at HS;dsimp only;obtain⟨i0,Q,S,t,T⟩:=info_parts QB_;have p:=hid (And.intro Q (And.intro S (And.intro t T)));have HV:=hid (fun(U:Nat->Prop) (row:ON) (W:World) h=>HE.value U d (Qe_ o) row W h hn hd b);unfold PosS at HV;generalize Qd_ R.sg N f .value d (Qe_ o)=r at HV |-
  obtain⟨k,st2⟩:=r;dsimp only at HV |-
  clear O hn F b s Q S t T;go_enter func74,ntmps74;go_wp2_with fail
  refine pst (HX.o) K ?_;intro w1 V x i;have t:=i.o.size;have C:=hid ((q5_ w1).more (B':=w.heap.size) oo);have a:=hid (x.o.res_new (A:=some ⟨w1.heap.size,0,none⟩) (br.alloc (Nat.le_refl _) (.cells #[] 3)) (fun g P=>by simp at P;subst P;simp));have j:=hid (i.o.below (br.alloc (Nat.le_refl _) (.cells #[] 3)));go_wp2_with fail
  refine(HS.o _ _ _ a.o).mono ?_;rintro e w2 ⟨rfl,row2,L,H⟩;have l:=hid (a.o.keepI H C.o);have c:=hid L;have z:=hid (j.o.trans H);clear L H;go_wp2_with fail
  refine(HV.o _ _ _ c.o).mono ?_;rintro e w3 ⟨rfl,n,M,I⟩;have D:=hid (c.o.keepI I l.o);have y:=hid M;have q:=hid (z.o.trans I);clear M I;have ap:=q.o.size;have ae:=hid B.o.1;go_wp2_with (at_builtin;(refine Qf_ _ rfl (.tmp 10) (.tmp 13) _ rfl w.heap.size 3 i0 (.int .i64 0) 1 8 underlying34 p.o.1 p.o.2.1 p.o.2.2.1 p.o.2.2.2 rfl (by decide) (.slice (some ⟨w1.heap.size,0,none⟩) 0 0) 0 (Qa_ []) rfl (Mine.alloc D.o _) ⟨w3.heap.size,0,none⟩ 1 1 [.int .i64 k] rfl rfl (Kq_ _ k _) (Kr_ _) (by unfold maxLen;omega) oo (by simp;omega) ?_);intro v' w7 m G v;obtain⟨A7,c7,rfl,h7,m7⟩:=RdI.appended y.o D.o ae.o bra m G v)
  have aj:=hid ((q.o.below bra).grown G (fun g P=>by rw[Qw_]at P;exact(Mine.blk D.o P).1));rw[<-QO_]at m7;have J:=hid h7.unres;have E:=hid m7;clear m G v h7 m7;go_wp2_with fail
  refine(KA_ R hi d st2 n ⟨#[59]⟩ w7 J.o).mono ?_;rintro e w8 ⟨rfl,Y,h8,k8⟩;replace E:=Vq_ J k8 E;have ak:=QQ_ aj k8;have ag:=hid h8;clear h8 k8;go_wp2_with fail
  refine pst (Ym_ R.U hi d _ Y 12 tx A7 (0+1) c7 [k] w.heap.size w8 ag.o E.o B.o) ak ?_;intro w9 Z ah al;go_wp2;go_ret;exact⟨rfl,Z,ah.o,al.o⟩
 ·rw[if_neg (by rw[s];decide)];rw[s,QC_ s]at HS;clear O hn F b s;go_enter func74,ntmps74;go_wp2_with fail
  refine pst (HX.o) K ?_;intro w1 V x i;have t:=i.o.size;have C:=hid ((q5_ w1).more (B':=w.heap.size) oo);have a:=hid (x.o.next (br.alloc (Nat.le_refl _) (.cells #[] 3)));have j:=hid (i.o.below (br.alloc (Nat.le_refl _) (.cells #[] 3)));go_wp2_with fail
  refine(HS.o _ _ _ a.o).mono ?_;rintro e w2 ⟨rfl,row2,L,H⟩;have l:=hid (a.o.keepI H C.o);have c:=hid L;have z:=hid (j.o.trans H);clear L H;go_wp2_with fail
  refine(KA_ R hi d o row2 ⟨#[59]⟩ w2 c.o).mono ?_;rintro e w3 ⟨rfl,n,M,I⟩;replace l:=Vq_ c I l;have q:=QQ_ z I;have y:=hid M;clear M I;go_wp2_with fail
  refine pst (Ym_ R.U hi d _ n 12 tx _ 0 0 [] w.heap.size w3 y.o l.o B.o) q ?_;intro w4 X af ai;go_wp2;go_ret;exact⟨rfl,X,af.o,ai.o⟩
end Go.Proofs.YtgbikafalcbibaaGreatDoor

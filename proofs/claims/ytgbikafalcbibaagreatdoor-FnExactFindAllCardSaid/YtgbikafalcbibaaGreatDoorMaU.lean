/-
  Put together by program (shake.py):ParX,ParY,SpaS,FamFinding,Mark,MarkP,MkFinding,FeD.
-/
import Derived.Test.YtgbikafalcbibaaGreatDoorMaO
import Derived.Test.YtgbikafalcbibaaGreatDoorMaJ
import Derived.Test.YtgbikafalcbibaaGreatDoorMaT
set_option maxRecDepth 100000
set_option linter.all false
set_option maxHeartbeats 25600000
open Go.Lib (hid)
open Go.Proofs.Tryz
namespace Go.Proofs.YtgbikafalcbibaaGreatDoor
open Go.RowKit
def KF_ (t:BA):Option (List PN):=
 if (QY_ t).2.2=true then
  match ZD_ (QY_ t).1 with
  |none=>none
  |some s=>if KL_ s.nodes=true then some s.nodes else none
 else none
def PreC (c:UInt8) (n:Nat) (x:BA):Prop:=x.size<=n/\∀y l,x.data.toList=y::l->y=c
theorem Qe7_ {c:UInt8} {l y:List UInt8} (h:y <+: (c::l)):PreC c (l.length+1) ⟨y.toArray⟩:=by
 obtain⟨z,d⟩:=h;refine⟨?_,fun a b e=>?_⟩
 ·have:=congrArg List.length d;simp at this;show y.toArray.size<=_;simp;omega
 ·have e':y=a::b:=by simpa using e
  subst e';simp at d;exact d.1
theorem qP_ (c:UInt8) (l:List UInt8) (k:Nat):PreC c (l.length+1) ⟨((c::l).take k).toArray⟩:=Qe7_ (List.take_prefix _ _)
theorem QeS_ (l:List UInt8) (c:UInt8):Lib.trimRightB l c <+: l:=by
 unfold Lib.trimRightB;have h:l.reverse.dropWhile (·==c) <:+ l.reverse:=List.dropWhile_suffix _;have:=List.reverse_prefix.2 h;rwa[List.reverse_reverse]at this
theorem Qer_ (c:UInt8) (l:List UInt8) (k:Nat):PreC c (l.length+1) (VK_ ⟨((c::l).take k).toArray⟩):=by
 unfold VK_;refine Qe7_ (List.IsPrefix.trans (QeS_ _ _) ?_);simpa using List.take_prefix k (c::l)
def zo_ (n:Nat) (d:SgP):Prop:=d.2.1.size<=n/\(((d.2.1.toList==[41])=true\/(d.2.1.toList==[61,62])=true\/(d.2.1.toList==[44])=true)->d.1=4)
theorem Uz_ {c:UInt8} {n:Nat} {x:BA} (h:PreC c n x) (h1:c≠41) (h2:c≠61) (h3:c≠44) (k q:Int) (b:Bool):zo_ n (k,x,q,b):=by
 refine⟨h.1,fun e=>?_⟩;exfalso;rw[ByteArray.toList_eq]at e;rcases e with e|e|e
 ·exact h1 (h.2 41 [] (eq_of_beq e)).symm
 ·exact h2 (h.2 61 [62] (eq_of_beq e)).symm
 ·exact h3 (h.2 44 [] (eq_of_beq e)).symm
theorem QgK_ {c:UInt8} (h:Km_ c=true):c≠41/\c≠61/\c≠44:=by
 unfold Km_ at h;have:=of_decide_eq_true h;refine⟨?_,?_,?_⟩<;>(rintro rfl;simp at this)
theorem Qd1_ {c:UInt8} (h:QN_ c=true):c≠41/\c≠61/\c≠44:=by
 unfold QN_ at h;have:=of_decide_eq_true h;refine⟨?_,?_,?_⟩<;>(rintro rfl;simp at this)
theorem Qf4_ {c:UInt8} {l:List UInt8} (h:0 < Ko_ (c::l)):c=47:=by
 rcases Classical.em (c=47)with e|e
 ·exact e
 ·rw[Vw_ e]at h;omega
theorem Qba_ (c:UInt8) (l:List UInt8) (q:Nat) (b:Bool):zo_ (l.length+1) ((Ke_ (c::l) q).1,(Ke_ (c::l) q).2.1,(Ke_ (c::l) q).2.2.1,b):=by
 have hz:∀k p,zo_ (l.length+1) (k,⟨#[]⟩,p,b):=fun k p=>⟨Nat.zero_le _,fun e=>by
  exfalso;rw[ByteArray.toList_eq]at e;rcases e with e|e|e<;>cases e⟩
 unfold Ke_;by_cases i:0 < Ko_ (c::l)
 ·rw[if_pos i];have:=Qf4_ i;exact Uz_ (Qer_ c l _) (by rw[this];decide) (by rw[this];decide) (by rw[this];decide) _ _ _
 ·rw[if_neg i];by_cases h1:QN_ c=true
  ·simp only;rw[if_pos h1];obtain⟨d,f,g⟩:=Qd1_ h1;split
   ·exact hz _ _
   ·exact Uz_ (qP_ c l _) d f g _ _ _
  ·simp only;rw[if_neg h1];by_cases h:Km_ c=true
   ·rw[if_pos h];obtain⟨d,f,g⟩:=QgK_ h;split
    ·exact hz _ _
    ·exact Uz_ (qP_ c l _) d f g _ _ _
   ·rw[if_neg h];by_cases a:c=39
    ·rw[if_pos a];exact Uz_ (qP_ c l _) (by rw[a];decide) (by rw[a];decide) (by rw[a];decide) _ _ _
    ·rw[if_neg a];refine⟨?_,fun _=>rfl⟩;have:=vA_ (c::l) marks04;show(XS_ (c::l)).toArray.size<=_;unfold XS_;simpa using this
theorem jE_ (l:List UInt8) (n:Nat) (hn:l.length<=n):∀(f at_ br:Nat) (acc:List SgP),(∀d∈acc,zo_ n d)->∀d∈(ZN_ l f at_ br acc).1,zo_ n d:=by
 intro f
 induction f with
 |zero=>intro at_ br acc h;exact h
 |succ f b=>
  intro at_ br acc h;unfold ZN_;split
  ·exact h
  ·rename_i c l' hd;split
   ·exact b _ _ _ h
   ·split
    ·exact b _ _ _ h
    ·split
     ·intro d hd;cases hd
     ·refine b _ _ _ (fun d a=>?_);rcases List.mem_append.1 a with a|a
      ·exact h d a
      ·obtain rfl:=List.mem_singleton.1 a;have hl:l'.length+1<=n:=by
        have:=congrArg List.length hd;simp at this;omega
       have:=Qba_ c l' at_ (decide (1 < br));exact⟨Nat.le_trans this.1 hl,this.2⟩
theorem WI_ (t:BA):∀d∈(QY_ t).1,zo_ 3000 d:=by
 unfold QY_;split
 ·intro d hd;cases hd
 ·exact jE_ _ 3000 (by rw[Qz_];omega) _ _ _ _ (fun d hd=>by cases hd)
theorem Qbg_ (t:BA):X9_ (QY_ t).1:=fun d hd=>(WI_ t d hd).1
theorem jF_ (t:BA):Xx_ (QY_ t).1:=fun d hd=>(WI_ t d hd).2
theorem Yn_ {t:BA} {s:PS} (h:ZD_ (QY_ t).1=some s):s.nodes.length<=300/\PNs s.nodes:=by
 obtain⟨h1,h2⟩:=Qaf_ (Qbg_ t) s h;exact⟨h1,fun p hp=>by have:=h2 p hp;exact⟨by have:=this.1;omega,by have:=this.2;omega⟩⟩
theorem QU_ {t:BA} {ps:List PN} (h:KF_ t=some ps):KL_ ps=true/\ps.length<=300/\PNs ps:=by
 unfold KF_ at h;split at h
 ·cases a:ZD_ (QY_ t).1 with
  |none=>rw[a]at h;cases h
  |some s=>
   rw[a]at h;simp only at h;split at h
   ·rename_i ht;obtain rfl:=Option.some.inj h;exact⟨ht,(Yn_ a).1,(Yn_ a).2⟩
   ·cases h
 ·cases h
theorem RdI.nps {R:RC} {d:Nat} {s:PS} {row:ON} {w:World} (hi:R.imp=true) (h:RdI R d (some s) row w):
  ∃A c,w.cell? ⟨R.T,4,none⟩=some (.bool false)/\w.cell? ⟨R.T,5,none⟩=some (.slice A s.nodes.length c)/\(∀i,w.frozen? ⟨R.T,i,none⟩=false)/\R.T < w.heap.size/\Nps w A s.nodes.length s.nodes:=by
 obtain⟨a,b,AN,cN,l,f,⟨rfl,_,e⟩,_⟩:=h;obtain⟨c0,c2,c3,c4,c5,cf,cz⟩:=f.ci hi;have g:s.nodes.length=l.length:=by rw[e,List.length_map]
 refine⟨AN,cN,c4,by rw[g];exact c5,cf,cz,l,⟨g.symm,?_,fun x j=>(f.2.2.1.1 x j).2.rd⟩,fun x j=>(f.2.2.1.1 x j).1.1,e.symm⟩;rw[g];exact f.2.1.rd
theorem RdI.set4 {R:RC} {d:Nat} {s:PS} {row:ON} {w:World} (hi:R.imp=true) (h:RdI R d (some s) row w):RdI R d (some s) row (w.setCell ⟨R.T,4,none⟩ (.bool false)):=by
 obtain⟨a,b,AN,cN,l,hc,⟨rfl,h1,h2⟩,c⟩:=h;have:=hc.set (i:=4) (u:=.bool false) (a':=a) (d':=d) (b':=false) (by unfold RC.cells;rw[if_pos hi];simp) hc.2.2.2.2.1;exact⟨a,false,AN,cN,l,this.1,⟨rfl,h1,h2⟩,c⟩
theorem RdI.set4b {R:RC} {d:Nat} {st:RdSt} {row:ON} {w:World} (hi:R.imp=true) (h:RdI R d st row w):(w.setCell ⟨R.T,4,none⟩ (.bool true)).cell? ⟨R.T,4,none⟩=some (.bool true)/\R.T < (w.setCell ⟨R.T,4,none⟩ (.bool true)).heap.size:=by
 obtain⟨a,b,AN,cN,l,hc,j,c⟩:=h;obtain⟨a',b',g,i,l',f,e,_⟩:=(RdI.bad1 hi hc c).1;obtain⟨c0,c2,c3,c4,c5,cf,cz⟩:=f.ci hi;obtain rfl:b'=true:=e;exact⟨c4,cz⟩
def RdR (t:BA) (w:World) (e:Ending) (w':World):Prop:=
 ∃(T:Nat) (p:Int),e=.returned (.tuple #[.pointer (some ⟨T,0,none⟩),.int .i64 p])/\w'.cell? ⟨T,4,none⟩=some (.bool (KF_ t).isNone)/\T < w'.heap.size/\Below w.heap.size w w'/\∀ps,KF_ t=some ps->p=0/\∃A c,w'.cell? ⟨T,5,none⟩=some (.slice A ps.length c)/\Nps w' A ps.length ps
theorem qT_ {t:BA} (h:(QY_ t).2.2=false):KF_ t=none:=by unfold KF_;rw[h];rfl
theorem GJ_ {t:BA} (h:(QY_ t).2.2=true) (hn:ZD_ (QY_ t).1=none):KF_ t=none:=by unfold KF_;rw[h,if_pos rfl,hn]
theorem qU_ {t:BA} (h:(QY_ t).2.2=true) {s:PS} (hn:ZD_ (QY_ t).1=some s):KF_ t=if KL_ s.nodes=true then some s.nodes else none:=by unfold KF_;rw[h,if_pos rfl,hn]
theorem zf_ (t:BA) (w:World) (ht:t.size<=1048576):Calls prog 82 #[.string t] w (RdR t w):=by
 have HS:=hid (XL_ t w ht);have M:=Z0_ t;have o:=hid (fun h=>qT_ (t:=t) h);have p:=hid (fun h1 h2=>GJ_ (t:=t) h1 h2);have q:=hid (fun h1 (s:PS) h2=>qU_ (t:=t) h1 (s:=s) h2);have B:=hid (fun(s:PS) h=>Yn_ (t:=t) (s:=s) h);unfold RdR;unfold q7_ at HS;generalize KF_ t=RP at o p q |-
 generalize QY_ t=Z at HS M o p q B;obtain⟨sg,pl,ok⟩:=Z;dsimp only at HS M o p q B;obtain⟨n,hn⟩:=ex_ sg.length;rw[hn]at HS M;go_enter func82,ntmps82;go_wp2_with fail
 refine HS.o.mono ?_;rintro e w1 ⟨A,c,rfl,m1,h1⟩;have k:=h1.size;have ap:=hid m1;have H:=hid h1;clear m1 h1 HS
 cases ok with
 |false=>
  have Q:=o.o (by trivial);subst Q;have K:=Blk.new w1 105 #[.slice A n c,.int .i64 t.size,.int .i64 0,.int .i64 0,.bool true,.slice none 0 0,.slice none 0 0];have k4:=K.q4;have kz:=K.lt;have ao:=hid (H.o.alloc k (.cells #[.slice A n c,.int .i64 t.size,.int .i64 0,.int .i64 0,.bool true,.slice none 0 0,.slice none 0 0] 105));clear K o p q B;go_wp2;go_ret2;exact⟨w1.heap.size,pl,rfl,k4,kz,ao.o,fun ps h=>by cases h⟩
 |true=>
  obtain⟨R,O⟩:∃R:RC,R=⟨true,w1.heap.size,A,n,c,t.size,.slice none 0 0,sg,w1,fun _=>False⟩:=⟨_,rfl⟩;have K:=Blk.new w1 105 #[.slice A n c,.int .i64 t.size,.int .i64 0,.int .i64 0,.bool false,.slice none 0 0,.slice none 0 0];have ae:RdI R 0 (some ⟨0,[]⟩) none (w1.alloc (.cells #[.slice A n c,.int .i64 t.size,.int .i64 0,.int .i64 0,.bool false,.slice none 0 0,.slice none 0 0] 105)):=by
   subst O;exact⟨0,false,none,0,[],⟨K,Mine.mk_nil _ _ _ _,⟨fun x hx=>absurd hx (by simp),fun g hg=>False.elim hg⟩,by simp,Nat.zero_le _,br.alloc (Nat.le_refl _) _,⟨hn,M,ap.o.rd,Nat.le_refl _⟩⟩,⟨rfl,rfl,rfl⟩,rfl⟩
  have r:R.imp=true:=by rw[O]
  have C:R.T=w1.heap.size:=by rw[O]
  have j:R.n=n:=by rw[O]
  have X:R.M=.slice none 0 0:=by rw[O]
  have J:R.sg=sg:=by rw[O]
  have G:R.A=A/\R.c=c:=by rw[O];exact⟨rfl,rfl⟩
  have hF:=kr_ R r (n+2) (14 * (n+2)) (by rw[j];omega) oo (by rw[j];omega) (Jt_ R r (n+2) (by rw[j];omega) _) (some ⟨0,[]⟩) none _ ae X;have ai:kp_ R.sg (Qd_ R.sg (n+2) (14 * (n+2))) (n+2) (some ⟨0,[]⟩)=ZD_ sg:=by rw[J];unfold ZD_;rw[hn]
  rw[ai,C]at hF;have HF:=hid hF;have aF:=hid (H.o.alloc k (.cells #[.slice A n c,.int .i64 t.size,.int .i64 0,.int .i64 0,.bool false,.slice none 0 0,.slice none 0 0] 105));have Y:R.w0=w1:=by rw[O]
  clear hF ai K ae;go_wp2_with fail
  refine HF.o.mono ?_;rintro e w2 ⟨rfl,v,row',f,aH⟩;have I:Hid (Below w.heap.size w w2):=(show Below w.heap.size w w2 from H.o.trans (by have:=f.old;rw[show(R.mem v).w0=w1 from Y]at this;exact this.mono k));have aJ:=f.old.size
  cases D:ZD_ sg with
  |none=>
   have Q:=p.o (by trivial) D;subst Q;rw[D]at f;obtain⟨a,b,AN,cN,l,hc,hb,aj⟩:=f;obtain⟨c0,c2,c3,F,V,N,m⟩:=RdC.ci (R:=R.mem v) r hc;obtain rfl:b=true:=hb;have af:=hc.2.2.2.2.1;have d:=hc.2.2.2.2.2.2.rd.below hc.2.2.2.2.2.1;change w2.cell? ⟨R.T,0,none⟩=some (.slice R.A R.n R.c)at c0;change w2.cell? ⟨R.T,2,none⟩=_ at c2;change w2.cell? ⟨R.T,4,none⟩=_ at F;change R.T < _ at m;change a<=R.n at af;change Rd w2 4 R.A R.n (R.sg.flatMap Q1_)at d;rw[C]at c0 c2 F m;rw[G.1,j,G.2]at c0;rw[j]at af;rw[G.1,j,J]at d;clear hc c3 V N aj HF o p q B X J G C j r Y;by_cases aC:a < n
   ·obtain⟨x,hx⟩:∃x,sg[a]? =some x:=⟨_,gE oo⟩;obtain⟨b1,off,hA,aE,e0,e1,e2,e3⟩:=XY_ d aC hx;subst hA;have ah:(a:Int) < n:=oo;clear d hx e0 e1 e3;go_wp2;go_quiet (fail);go_wp2;go_ret2;exact⟨w1.heap.size,_,rfl,F,m,Qb_ I.o (below_drewN br _),fun ps h=>by cases h⟩
   ·have ah:¬(a:Int) < n:=oo;clear d;go_wp2;go_ret2;exact⟨w1.heap.size,_,rfl,F,m,I.o,fun ps h=>by cases h⟩
  |some s=>
   have Q:=q.o (by trivial) s D;obtain⟨aI,ak⟩:=B.o s D;rw[D]at f;obtain⟨A2,ar,F,V,N,m,P⟩:=RdI.nps (R:=R.mem v) r f;change w2.cell? ⟨R.T,4,none⟩=_ at F;change w2.cell? ⟨R.T,5,none⟩=_ at V;change ∀i,w2.frozen? ⟨R.T,i,none⟩=false at N;change R.T < _ at m;rw[C]at F V N m;have ac:=hid f;have U:=hid r;have HT:=hid (VP_ A2 s.nodes.length ar s.nodes w2 oo P (hid ak));have hz:=H.o.size;have ad:=hid C;clear P ak f HF o p q B X J G C j r Y D
   cases E:KL_ s.nodes with
   |true=>
    rw[E,if_pos rfl]at Q;rw[E]at HT;subst Q;clear E;go_wp2_with fail
    refine HT.o.mono ?_;rintro e w3 ⟨rfl,y⟩;have av:=((QE_ y).1 _ 4 m).trans F;have aG:=((QE_ y).1 _ 5 m).trans V;have ay:∀i,w3.frozen? ⟨w1.heap.size,i,none⟩=false:=fun i=>((QE_ y).2 _ i m).trans (N i)
    have az:=Nat.lt_of_lt_of_le m y.size;obtain⟨A4,ax,q4,q5,_,qz,z⟩:=RdI.nps (R:=R.mem v) U.o (RdI.set4 (R:=R.mem v) U.o (ac.o.next y));change (w3.setCell ⟨R.T,4,none⟩ (.bool false)).cell? ⟨R.T,4,none⟩=_ at q4;change (w3.setCell ⟨R.T,4,none⟩ (.bool false)).cell? ⟨R.T,5,none⟩=_ at q5;change R.T < (w3.setCell ⟨R.T,4,none⟩ (.bool false)).heap.size at qz;change Nps (w3.setCell ⟨R.T,4,none⟩ (.bool false)) _ _ _ at z;rw[ad.o]at q4 q5 qz z;have S:=hid (And.intro q4 (And.intro q5 (And.intro qz z)));clear q4 q5 qz z;have T:=hid ((Qb_ I.o y).setCell (show w.heap.size<=(⟨w1.heap.size,4,none⟩:Addr).block from k) (.bool false));clear y F V N m HT;go_wp2;go_ret2;exact⟨w1.heap.size,_,rfl,S.o.1,S.o.2.2.1,T.o,fun ps h=>by obtain rfl:=Option.some.inj h;exact⟨rfl,A4,ax,S.o.2.1,S.o.2.2.2⟩⟩
   |false=>
    rw[E,if_neg (by decide)]at Q;rw[E]at HT;subst Q;clear E;go_wp2_with fail
    refine HT.o.mono ?_;rintro e w3 ⟨rfl,y⟩;have L:=RdI.set4b (R:=R.mem v) U.o (ac.o.next y);change (w3.setCell ⟨R.T,4,none⟩ (.bool true)).cell? ⟨R.T,4,none⟩=_/\R.T < _ at L;rw[ad.o]at L;have S:=hid L;clear L;have av:=((QE_ y).1 _ 4 m).trans F;have ay:∀i,w3.frozen? ⟨w1.heap.size,i,none⟩=false:=fun i=>((QE_ y).2 _ i m).trans (N i)
    have az:=Nat.lt_of_lt_of_le m y.size;have T:=hid ((Qb_ I.o y).setCell (show w.heap.size<=(⟨w1.heap.size,4,none⟩:Addr).block from k) (.bool true));clear y F V N m HT;go_wp2;go_ret2;exact⟨w1.heap.size,_,rfl,S.o.1,S.o.2,T.o,fun ps h=>by cases h⟩
theorem qq_ (t:BA) (w:World) (ht:t.size<=1048576) (h:KF_ t=none):Calls prog 52 #[.string t] w fun e w'=>∃p:Int,e=.returned (.tuple #[.slice none 0 0,.int .i64 p,.bool false])/\Below w.heap.size w w':=by
 have a:=zf_ t w ht;unfold RdR at a;rw[h]at a;have a:=hid a;clear h;go_enter func52,ntmps52;go_wp2_with fail
 refine a.o.mono ?_;rintro e w1 ⟨T,p,rfl,c4,cz,hb,_⟩;have HB:=hid hb;change w1.cell? ⟨T,4,none⟩=some (.bool true)at c4;clear hb;go_wp2;refine bodyPost_ret (by simp[results,Tryz.results52,go_sem,];try rfl) rfl ?_;exact⟨p,rfl,HB.o⟩
def NpsM (w:World) (B:Nat) (A:OA) (n c:Nat) (ps:List PN):Prop:=
 ∃l:List Nd,Mine w B 36 4 A n c (l.flatMap Qq_)/\l.length=n/\(∀x∈l,KidsIn w B (fun _=>False) x)/\l.map Nd.pn=ps
section
variable {w w':World} {B n c:Nat} {A:OA} {ps:List PN}
theorem NpsM.nps (h:NpsM w B A n c ps):Nps w A n ps:=by
 obtain⟨l,hm,hl,hk,rfl⟩:=h;exact⟨l,⟨hl,hm.rd,fun x a=>(hk x a).2.rd⟩,fun x a=>(hk x a).1.1,rfl⟩
theorem NpsM.next (h:NpsM w B A n c ps) (hb:Below w.heap.size w w'):NpsM w' B A n c ps:=by
 obtain⟨l,hm,hl,hk,e⟩:=h;exact⟨l,hm.next hb,hl,fun x hx=>(hk x hx).next hb,e⟩
theorem NpsM.more {B':Nat} (h:NpsM w B A n c ps) (hb:B'<=B):NpsM w B' A n c ps:=by
 obtain⟨l,hm,hl,hk,e⟩:=h;exact⟨l,hm.more hb,hl,fun x hx=>⟨(hk x hx).1,(hk x hx).2.more hb⟩,e⟩
theorem NpsM.grown {r:ON} (h:NpsM w B A n c ps) (hg:w.grownBy w' r) (hr:∀g,r=some g->∃t cs,Blk w g t cs/\t≠36/\t≠3):NpsM w' B A n c ps:=by
 obtain⟨l,i,hl,hk,e⟩:=h;have k:∀g t cs,Blk w g t cs->(t=36\/t=3)->some g≠r:=fun g t cs hb m f=>by
  obtain⟨t',o,a,h1,h2⟩:=hr g f.symm;rcases m with rfl|rfl
  ·exact KM_ hb a (Ne.symm h1) rfl
  ·exact KM_ hb a (Ne.symm h2) rfl
 have d:∀{t:TypeId} {s n c:Nat} {A:OA} {xs:List Value},(t=36\/t=3)->Mine w B t s A n c xs->Mine w' B t s A n c xs:=fun m i=>by
  have b:=i.len;rcases i.own with⟨j,f,e3⟩|⟨g',j,hB,hn,hc,rest,a,hs⟩
  ·rw[j,f,e3];exact⟨by rw[b,f],.inl ⟨rfl,rfl⟩⟩
  ·rw[j];exact Mine.mk_own ⟨rest,a.grown hg (k _ _ _ a m),hs⟩ b hB hn hc
 exact⟨l,d (.inl rfl) i,hl,fun x hx=>⟨(hk x hx).1,d (.inr rfl) (hk x hx).2⟩,e⟩
theorem NpsM.none_ (h:Mine w B 36 4 A 0 c []):NpsM w B A 0 c []:=⟨[],h,rfl,(fun x hx=>by cases hx),rfl⟩
end
theorem RdI.snps {R:RC} {d:Nat} {s:PS} {row:ON} {w:World} (hi:R.imp=false) (h:RdI R d (some s) row w):
  ∃A c,w.cell? ⟨R.T,2,none⟩=some (.bool false)/\w.cell? ⟨R.T,4,none⟩=some (.slice A s.nodes.length c)/\(∀i,w.frozen? ⟨R.T,i,none⟩=false)/\R.T < w.heap.size/\NpsM w R.w0.heap.size A s.nodes.length c s.nodes:=by
 obtain⟨a,b,AN,cN,l,f,⟨rfl,_,e⟩,_⟩:=h;obtain⟨c0,c1,c2,c3,c4,cf,cz⟩:=f.cs hi;have g:s.nodes.length=l.length:=by rw[e,List.length_map]
 refine⟨AN,cN,c2,by rw[g];exact c4,cf,cz,l,?_,g.symm,fun x hx=>⟨⟨(f.2.2.1.1 x hx).1.1,fun _ _ h=>h⟩,(f.2.2.1.1 x hx).2⟩,e.symm⟩;rw[g];exact f.2.1
def SRd (t:BA) (w:World) (e:Ending) (w':World):Prop:=
 Below w.heap.size w w'/\match KF_ t with
  |none=>∃(g:Nat) (p:Int),e=.returned (.tuple #[.slice (some ⟨g,0,none⟩) 0 0,.int .i64 p,.bool false])/\NpsM w' w.heap.size (some ⟨g,0,none⟩) 0 0 []
  |some ps=>∃A c,e=.returned (.tuple #[.slice A ps.length c,.int .i64 0,.bool true])/\NpsM w' w.heap.size A ps.length c ps
theorem kq_ {sg:List SgP} {E:Md->Nat->RdSt->PR} {N M:Nat} {ks:LI} {st:RdSt} (h:jw_ sg st=false):XI_ sg E N M ks st=(ks,st):=by
 cases M with
 |zero=>rfl
 |succ M=>unfold XI_;rw[h,if_neg (by decide)]
theorem Zb_ (t:BA) (w:World) (ht:t.size<=1048576):Calls prog 18 #[.string t] w (SRd t w):=by
 obtain⟨i0,bq,bx,bz,bA⟩:=info_parts QB_;have I:=hid (And.intro bq (And.intro bx (And.intro bz bA)));clear bq bx bz bA;have HS:=hid (fun W=>Vj_ t W ht);have aV:=Z0_ t;have ae:=hid (fun h=>qT_ (t:=t) h);have af:=hid (fun h1 h2=>GJ_ (t:=t) h1 h2);have ag:=hid (fun h1 (s:PS) h2=>qU_ (t:=t) h1 (s:=s) h2);have ay:=hid (fun(s:PS) h=>Yn_ (t:=t) (s:=s) h);have aq:=hid (jF_ t);unfold SRd;unfold q7_ at HS;generalize KF_ t=RP at ae af ag |-
 generalize QY_ t=Z at HS aV ae af ag ay aq;obtain⟨sg,pl,ok⟩:=Z;dsimp only at HS aV ae af ag ay aq;obtain⟨n,hn⟩:=ex_ sg.length;rw[hn]at HS aV;go_enter func18,ntmps18;go_wp2_with fail
 refine(HS.o _).mono ?_;rintro e w1 ⟨A,c,rfl,m1,h1⟩;have aN:=hid (((Below.refl w.heap.size w).alloc (Nat.le_refl _) (.cells #[] 36)).trans (h1.mono (by simp)));have bv:=aN.o.size;have bM:=hid (m1.rd);have ak:=hid (NpsM.none_ (Mine.next (QI_ w 36 4) h1));clear m1 h1 HS
 cases ok with
 |false=>
  have hr:=ae.o (by trivial);subst hr;clear ae af ag ay aq;go_wp2;refine bodyPost_ret (by simp[results,Tryz.results18,go_sem,];try rfl) rfl ?_;refine⟨aN.o,?_⟩
  first
   |exact⟨_,_,rfl,ak.o⟩
   |exact⟨_,rfl,ak.o⟩
   |exact⟨_,⟨_,rfl⟩,ak.o⟩
 |true=>
  obtain⟨R,hR⟩:∃R:RC,R=⟨false,w1.heap.size,A,n,c,0,.slice none 0 0,sg,w1,fun _=>False⟩:=⟨_,rfl⟩;have K:=Blk.new w1 62 #[.slice A n c,.int .i64 0,.bool false,.int .i64 0,.slice none 0 0];have bl:RdI R 0 (some ⟨0,[]⟩) none (w1.alloc (.cells #[.slice A n c,.int .i64 0,.bool false,.int .i64 0,.slice none 0 0] 62)):=by
   subst hR;exact⟨0,false,none,0,[],⟨K,Mine.mk_nil _ _ _ _,⟨fun x hx=>absurd hx (by simp),fun g hg=>False.elim hg⟩,by simp,Nat.zero_le _,br.alloc (Nat.le_refl _) _,⟨hn,aV,bM.o,Nat.le_refl _⟩⟩,⟨rfl,rfl,rfl⟩,rfl⟩
  have hi:R.imp=false:=by rw[hR]
  have a6:R.T=w1.heap.size:=by rw[hR]
  have b3:R.n=n:=by rw[hR]
  have b2:R.sg=sg:=by rw[hR]
  have b0:R.A=A:=by rw[hR]
  have b1:R.c=c:=by rw[hR]
  have b4:R.w0=w1:=by rw[hR]
  have bn:∀g,¬R.U g:=fun g h=>by rw[hR]at h;exact h
  have aO:=hid (bl.res_new (A:=some ⟨w1.heap.size+1,0,none⟩) (br.alloc (Nat.le_refl _) (.cells #[] 3)) (fun g hg=>by simp at hg;subst hg;simp));have an:=hid ((q5_ (w1.alloc (.cells #[.slice A n c,.int .i64 0,.bool false,.int .i64 0,.slice none 0 0] 62))).more (B':=w1.heap.size) (by simp));rw[World.size_alloc]at an;clear K hR bl;go_upto_region 7 with fail
  generalize (w1.alloc (.cells #[.slice A n c,.int .i64 0,.bool false,.int .i64 0,.slice none 0 0] 62)).alloc (.cells #[] 3)=W3 at aO an |-
  rw[<-a6]at aO an |-
  subst b3 b2 b0 b1 b4;have bh:Hid (R.Lo R.w0.heap.size):=(show R.Lo _ from⟨Nat.le_refl _,fun g h=>(bn g h).elim⟩);have bj:=hid (Qg9_ R hi aq.o (R.n+2) oo (14 * (R.n+2)));have aG:ZD_ R.sg=(KC_ (XI_ R.sg (Qd_ R.sg (R.n+2) (14 * (R.n+2))) (R.n+2) (R.n+2) [] (some ⟨0,[]⟩)).2 ⟨22,noT,(XI_ R.sg (Qd_ R.sg (R.n+2) (14 * (R.n+2))) (R.n+2) (R.n+2) [] (some ⟨0,[]⟩)).1,false⟩).2:=by
   unfold ZD_ kp_;rw[hn]
  have HO:Hid (∀(U:Nat->Prop) (t:PS) (row:ON) (w:World),RdI { R with U:=U } 0 (some t) row w->Calls prog 44 #[.pointer (some ⟨R.T,0,none⟩),.bool true] w (fun e w'=>e=.returned (.int .i64 (YU_ R.sg (Qd_ R.sg (R.n+2) (14 * (R.n+2))) (R.n+2) false (some t)).1)/\∃row',RdI { R with U:=U } 0 (YU_ R.sg (Qd_ R.sg (R.n+2) (14 * (R.n+2))) (R.n+2) false (some t)).2 row' w'/\Kr R.T row w row' w')):=(show ∀U t row w,_->_ from fun U t row w h=>jG_ { R with U:=U } hi (R.n+2) (14 * (R.n+2)) (Nat.le_refl _) (show 14 * (R.n+2)<=100000 from oo) (show R.n < R.n+2 from oo) (sc_u U bj.o) (some t) row w h);have ax:Hid (∀b st,YU_ R.sg (Qd_ R.sg (R.n+2) (14 * (R.n+2))) (R.n+2) b st=Z8_ b (YU_ R.sg (Qd_ R.sg (R.n+2) (14 * (R.n+2))) (R.n+2) false st)):=(show ∀b st,_ from fun b st=>Qdm_ b st);have a2:Hid (∀st,0<=(YU_ R.sg (Qd_ R.sg (R.n+2) (14 * (R.n+2))) (R.n+2) false st).1):=(show ∀st,_ from fun st=>Qhm_ false st);have a0:Hid (∀b st,Adv 1 1 st (YU_ R.sg (Qd_ R.sg (R.n+2) (14 * (R.n+2))) (R.n+2) b st).2):=(show ∀b st,_ from fun b st=>xR_ (fun m d st=>Qy_ _ m d st) b st);obtain⟨N,bm⟩:=ex_ (R.n+2);have hN:R.n < N:=oo;rw[bm]at aG HO ax a2 a0;generalize Qd_ R.sg N (14 * N)=E at aG HO ax a2 a0;obtain⟨Q,hQ⟩:=ex_ (XI_ R.sg E N N [] (some ⟨0,[]⟩));rw[hQ]at aG;have HQ:=hid hQ;have bi:=hid aG;have aR:=hid bv;have ch:Hid (R.A=R.A):=(show R.A=R.A from rfl);have bN:=hid a6;clear bj aG hQ bm aq bn ae a6;go_loopw [10] (fun v wr=>∃(M:Nat) (ks:LI) (st':RdSt) (row':ON) (A':OA) (c':Nat),v=.slice A' ks.length c'/\Hid (XI_ R.sg E N M ks st'=Q)/\Hid (Enough R.n M st')/\Hid (KidB ks st')/\Hid (Mine wr R.w0.heap.size 3 1 A' ks.length c' (Qa_ ks))/\Hid (RdI (R.res A') 0 st' row' wr)) (fun _ wr=>V9_ R wr)
  case atStart=>exact⟨N,[],some ⟨0,[]⟩,none,_,0,rfl,HQ,(show Enough _ _ _ from QL_ hN _),⟨by simp,fun s _=>by simp⟩,by rw[<-bN.o];exact an,aO⟩
  case round=>
   clear HQ an aO;obtain⟨M,ks,st',row',A',c',rfl,HQ,be,bg,P,HI⟩:=hrel;have bf:=HI
   cases st' with
   |none=>
    obtain⟨a,b,AN,cN,l,hc,hb,ad⟩:=HI.o;obtain⟨c1,c2,c3,cf,cz⟩:=hc.csu _ hi;obtain rfl:b=true:=hb;have G:=HQ.o;rw[kq_ (show jw_ R.sg none=false from rfl)]at G;clear hc ad c1 c3;have ar:Hid (ZD_ R.sg=(KC_ none ⟨22,noT,ks,false⟩).2):=(show _=_ by rw[bi.o,<-G]);have am:=hid HI.o.unres;go_wp2_with fail
    refine(Ym_ R.U hi 0 none _ 22 noT A' ks.length c' ks R.w0.heap.size _ am.o P.o bh.o).mono ?_;rintro e H ⟨rfl,k,h5,k5⟩;rw[<-ar.o]at h5;have f:Hid (RdI R 0 (ZD_ R.sg) k H):=h5;have F:Hid (Below w.heap.size w H):=(show Below w.heap.size w H from aN.o.trans (by have:=f.o.old;exact this.mono aR.o));have o:=hid (ak.o.next f.o.old);clear h5 k5 am ar HQ G
    cases y:ZD_ R.sg with
    |none=>
     rw[y]at f;have hr:=af.o (by trivial) y;have p:RdI R 0 none k H:=f.o;obtain⟨a5,b5,bL,bQ,l5,aA,a7,ab⟩:=id p;obtain⟨x0,x1,x2,x3,x4,xf,xz⟩:=aA.cs hi;obtain rfl:b5=true:=a7;have z:R.Ok:=p.ok;have C:=z.rd.below p.old;have a9:=z.len;subst hr;clear p aA ab x3 x4 z;rcases Nat.lt_or_ge a5 R.n with aD|bp
     ·obtain⟨x,hx⟩:∃x,R.sg[a5]? =some x:=⟨_,gE oo⟩;obtain⟨b6,off,hA,bo,e0,e1,e2,e3⟩:=XY_ C aD hx;have J:(a5:Int) < (R.n:Int):=oo;rw[hA]at x0 |-
      clear C hx e0 e1 e3 hA;go_wp2;go_quiet (fail);go_wp2;refine bodyPost_ret (by simp[results,Tryz.results18,go_sem,];try rfl) rfl ?_;exact⟨Qb_ F.o (below_drewN br _),by first|exact⟨_,_,rfl,o.o.next (below_drewN br _)⟩|exact⟨_,rfl,o.o.next (below_drewN br _)⟩|exact⟨_,⟨_,rfl⟩,o.o.next (below_drewN br _)⟩⟩
     ·have J:¬(a5:Int) < (R.n:Int):=oo;have aE:decide ((a5:Int) < (R.n:Int))=false:=decide_eq_false J;clear C;go_wp2;refine bodyPost_ret (by simp[results,Tryz.results18,go_sem,];try rfl) rfl ?_;exact⟨F.o,by first|exact⟨_,_,rfl,o.o⟩|exact⟨_,rfl,o.o⟩|exact⟨_,⟨_,rfl⟩,o.o⟩⟩
    |some s=>
     rw[y]at f;obtain⟨b9,aH⟩:=ay.o s y;have hr:=ag.o (by trivial) s y;have p:Hid (RdI R 0 (some s) k H):=f;obtain⟨A6,c6,y2,y4,yf,yz,L⟩:=RdI.snps hi p.o;have HT:=hid (Zu_ A6 s.nodes.length c6 s.nodes H oo L.nps (hid aH));clear aH L;rcases bft (KL_ s.nodes)with q|q
     ·rw[if_pos q]at hr;rw[q]at HT;subst hr;clear q;go_wp2_with fail
      refine HT.o.mono ?_;rintro e w6 ⟨rfl,D⟩;obtain⟨A7,c7,z2,z4,zf,zz,aF⟩:=RdI.snps hi (p.o.next D);have S:=hid (Qb_ F.o D);have av:=hid (aF.more aR.o);clear y2 y4 yf yz D aF HT;go_wp2;refine bodyPost_ret (by simp[results,Tryz.results18,go_sem,];try rfl) rfl ?_;exact⟨S.o,A7,c7,rfl,av.o⟩
     ·rw[if_neg (by rw[q];decide)]at hr;rw[q]at HT;subst hr;clear q;go_wp2_with fail
      refine HT.o.mono ?_;rintro e w6 ⟨rfl,D⟩;have S:=hid (Qb_ F.o D);have V:=hid (o.o.next D);clear y2 y4 yf yz D HT;go_wp2;refine bodyPost_ret (by simp[results,Tryz.results18,go_sem,];try rfl) rfl ?_;exact⟨S.o,by first|exact⟨_,_,rfl,V.o⟩|exact⟨_,rfl,V.o⟩|exact⟨_,⟨_,rfl⟩,V.o⟩⟩
   |some t=>
    obtain⟨a,b,AN,cN,l,hc,hb,ad⟩:=HI.o;obtain⟨c1,c2,c3,cf,cz⟩:=hc.csu _ hi;obtain⟨rfl,co,_⟩:=hb;have cj:a<=R.n:=hc.2.2.2.2.1;rcases Nat.lt_or_ge a R.n with cm|ck
    ·obtain⟨M,rfl⟩:∃M',M=M'+1:=⟨M - 1,by
      have h1:=be.o t rfl;omega⟩
     have aC:(a:Int) < (R.n:Int):=oo;have aE:decide ((a:Int) < (R.n:Int))=true:=decide_eq_true aC;have G:=HQ.o;unfold XI_ at G;rw[if_pos (show jw_ R.sg (some t)=true from decide_eq_true oo)]at G;clear hc ad c3 HQ;have HX:=hid (fun(row:ON) (W:World) h=>VA_ (R.res A') hi 0 t row W h);have aS:XE_ R.sg (some t) ks=((Qu_ R.sg (some t) 0).2.2.2&&decide (0 < ks.length)):=rfl;rw[aS]at G;have bs:(R.res A').sg=R.sg:=rfl;rw[bs]at HX;generalize Qu_ R.sg (some t) 0=x at HX G aS;obtain⟨xk,xt,xp,xz⟩:=x;dsimp only at HX G aS;clear aS bs;have cg:=bg.o.2 t rfl;have cn:=(HI.o.le rfl).2;have cl:=bg.o.1;have j:=a0.o (xz&&decide (0 < ks.length)) (some t);rw[ax.o]at G j;have aU:=a2.o (some t);have HC:=hid (fun(row:ON) (W:World) h=>HO.o (fun x=>R.U x\/A'.map (·.block)=some x) t row W h);generalize YU_ R.sg E N false (some t)=r at G j aU HC;obtain⟨kc,aY⟩:=r;unfold Z8_ at G j;dsimp only at G j aU HC;have aL:Hid (KidB (ks++[kc]) (Zl_ kc (xz&&decide (0 < ks.length)) aY)):=(show KidB _ _ from⟨by rw[lA];simp;omega,fun t2 e=>by
      obtain⟨cp,e2,_,h3⟩:=j t2 e;obtain rfl:=Option.some.inj e2;rw[lA];simp;omega⟩)
     have aM:Hid (Enough R.n M (Zl_ kc (xz&&decide (0 < ks.length)) aY)):=be.o.adv (i:=0) j;have aT:(ks++[kc]).length=ks.length+1:=(by simp);have aQ:=hid G;have ac:=hid j;clear G j
     cases xz with
     |false=>
      rw[Bool.false_and]at aL aM aQ ac;go_wp2_with fail
      refine(HX.o _ _ HI.o).mono ?_;rintro e w3 ⟨rfl,g3⟩;have X:=hid (HI.o.next g3);have ao:=hid (P.o.next g3);clear c1 c2 cf cz g3 HX P;go_wp2_with fail
      refine(HC.o _ _ X.o).mono ?_;rintro e w4 ⟨rfl,aI,h4,k4⟩;have ap:=hid (X.o.keepI k4 ao.o);have Y:=hid h4;clear h4 k4 X ao;have T:=hid (K4_ (R.res A') hi 0 aY aI kc aU false w4 Y.o);unfold Does at T;go_wp2_with fail
      refine T.o.mono ?_;rintro e H ⟨rfl,k,h5,k5⟩;have P:=hid (Y.o.keepI k5 ap.o);have f:=hid h5;clear h5 k5 Y ap T;have ca:R.w0.heap.size<=H.heap.size:=f.o.old.size;have a1:Hid (R.w0.heap.size<=R.w0.heap.size):=(show R.w0.heap.size<=R.w0.heap.size from Nat.le_refl _);go_wp2_with (at_builtin;(refine Qf_ _ rfl (.tmp 55) (.tmp 57) _ rfl R.w0.heap.size 3 i0 (.int .i64 0) 1 8 underlying34 I.o.1 I.o.2.1 I.o.2.2.1 I.o.2.2.2 rfl (by decide) (.slice A' ks.length c') ks.length (Qa_ ks) rfl (Mine.alloc P.o _) ⟨H.heap.size,0,none⟩ 1 1 [.int .i64 kc] rfl rfl (Kq_ _ kc _) (Kr_ _) (by unfold maxLen;omega) oo (by simp;omega) ?_);intro v' w6 B aB O;obtain⟨A6,c6,rfl,D,m6⟩:=RdI.appended f.o P.o a1.o bra B aB O)
      rw[<-QO_]at m6;have al:=hid D;replace P:=hid m6;clear B aB O D m6;go_wp2;go_roundw
      case rel=>exact⟨M,ks++[kc],_,k,A6,c6,by rw[aT],aQ,aM,aL,by rw[aT];exact P,al⟩
      case measure=>exact ZA_ hi bf.o al.o (ac.o.weak (i':=1) (j':=0) oo oo)
     |true=>
      rw[Bool.true_and]at aL aM aQ ac;go_wp2_with fail
      refine(HX.o _ _ HI.o).mono ?_;rintro e w3 ⟨rfl,g3⟩;have X:=hid (HI.o.next g3);have ao:=hid (P.o.next g3);clear c1 c2 cf cz g3 HX P;go_wp2_with fail
      refine(HC.o _ _ X.o).mono ?_;rintro e w4 ⟨rfl,aI,h4,k4⟩;have ap:=hid (X.o.keepI k4 ao.o);have Y:=hid h4;clear h4 k4 X ao;have T:=hid (K4_ (R.res A') hi 0 aY aI kc aU (decide (0 < ks.length)) w4 Y.o);unfold Does at T;go_wp2_with fail
      refine T.o.mono ?_;rintro e H ⟨rfl,k,h5,k5⟩;have P:=hid (Y.o.keepI k5 ap.o);have f:=hid h5;clear h5 k5 Y ap T;have ca:R.w0.heap.size<=H.heap.size:=f.o.old.size;have a1:Hid (R.w0.heap.size<=R.w0.heap.size):=(show R.w0.heap.size<=R.w0.heap.size from Nat.le_refl _);go_wp2_with (at_builtin;(refine Qf_ _ rfl (.tmp 55) (.tmp 57) _ rfl R.w0.heap.size 3 i0 (.int .i64 0) 1 8 underlying34 I.o.1 I.o.2.1 I.o.2.2.1 I.o.2.2.2 rfl (by decide) (.slice A' ks.length c') ks.length (Qa_ ks) rfl (Mine.alloc P.o _) ⟨H.heap.size,0,none⟩ 1 1 [.int .i64 kc] rfl rfl (Kq_ _ kc _) (Kr_ _) (by unfold maxLen;omega) oo (by simp;omega) ?_);intro v' w6 B aB O;obtain⟨A6,c6,rfl,D,m6⟩:=RdI.appended f.o P.o a1.o bra B aB O)
      rw[<-QO_]at m6;have al:=hid D;replace P:=hid m6;clear B aB O D m6;go_wp2;go_roundw
      case rel=>exact⟨M,ks++[kc],_,k,A6,c6,by rw[aT],aQ,aM,aL,by rw[aT];exact P,al⟩
      case measure=>exact ZA_ hi bf.o al.o (ac.o.weak (i':=1) (j':=0) oo oo)
    ·have aC:¬(a:Int) < (R.n:Int):=oo;have aE:decide ((a:Int) < (R.n:Int))=false:=decide_eq_false aC;have G:=HQ.o;rw[kq_ (show jw_ R.sg (some t)=false from decide_eq_false oo)]at G;clear hc ad c3;have ar:Hid (ZD_ R.sg=(KC_ (some t) ⟨22,noT,ks,false⟩).2):=(show _=_ by rw[bi.o,<-G]);have am:=hid HI.o.unres;go_wp2_with fail
     refine(Ym_ R.U hi 0 (some t) _ 22 noT A' ks.length c' ks R.w0.heap.size _ am.o P.o bh.o).mono ?_;rintro e H ⟨rfl,k,h5,k5⟩;rw[<-ar.o]at h5;have f:Hid (RdI R 0 (ZD_ R.sg) k H):=h5;have F:Hid (Below w.heap.size w H):=(show Below w.heap.size w H from aN.o.trans (by have:=f.o.old;exact this.mono aR.o));have o:=hid (ak.o.next f.o.old);clear h5 k5 am ar HQ G
     cases y:ZD_ R.sg with
     |none=>
      rw[y]at f;have hr:=af.o (by trivial) y;have p:RdI R 0 none k H:=f.o;obtain⟨a5,b5,bL,bQ,l5,aA,a7,ab⟩:=id p;obtain⟨x0,x1,x2,x3,x4,xf,xz⟩:=aA.cs hi;obtain rfl:b5=true:=a7;have z:R.Ok:=p.ok;have C:=z.rd.below p.old;have a9:=z.len;subst hr;clear p aA ab x3 x4 z;rcases Nat.lt_or_ge a5 R.n with aD|bp
      ·obtain⟨x,hx⟩:∃x,R.sg[a5]? =some x:=⟨_,gE oo⟩;obtain⟨b6,off,hA,bo,e0,e1,e2,e3⟩:=XY_ C aD hx;have J:(a5:Int) < (R.n:Int):=oo;rw[hA]at x0 |-
       clear C hx e0 e1 e3 hA;go_wp2;go_quiet (fail);go_wp2;refine bodyPost_ret (by simp[results,Tryz.results18,go_sem,];try rfl) rfl ?_;exact⟨Qb_ F.o (below_drewN br _),by first|exact⟨_,_,rfl,o.o.next (below_drewN br _)⟩|exact⟨_,rfl,o.o.next (below_drewN br _)⟩|exact⟨_,⟨_,rfl⟩,o.o.next (below_drewN br _)⟩⟩
      ·have J:¬(a5:Int) < (R.n:Int):=oo;have aE:decide ((a5:Int) < (R.n:Int))=false:=decide_eq_false J;clear C;go_wp2;refine bodyPost_ret (by simp[results,Tryz.results18,go_sem,];try rfl) rfl ?_;exact⟨F.o,by first|exact⟨_,_,rfl,o.o⟩|exact⟨_,rfl,o.o⟩|exact⟨_,⟨_,rfl⟩,o.o⟩⟩
     |some s=>
      rw[y]at f;obtain⟨b9,aH⟩:=ay.o s y;have hr:=ag.o (by trivial) s y;have p:Hid (RdI R 0 (some s) k H):=f;obtain⟨A6,c6,y2,y4,yf,yz,L⟩:=RdI.snps hi p.o;have HT:=hid (Zu_ A6 s.nodes.length c6 s.nodes H oo L.nps (hid aH));clear aH L;rcases bft (KL_ s.nodes)with q|q
      ·rw[if_pos q]at hr;rw[q]at HT;subst hr;clear q;go_wp2_with fail
       refine HT.o.mono ?_;rintro e w6 ⟨rfl,D⟩;obtain⟨A7,c7,z2,z4,zf,zz,aF⟩:=RdI.snps hi (p.o.next D);have S:=hid (Qb_ F.o D);have av:=hid (aF.more aR.o);clear y2 y4 yf yz D aF HT;go_wp2;refine bodyPost_ret (by simp[results,Tryz.results18,go_sem,];try rfl) rfl ?_;exact⟨S.o,A7,c7,rfl,av.o⟩
      ·rw[if_neg (by rw[q];decide)]at hr;rw[q]at HT;subst hr;clear q;go_wp2_with fail
       refine HT.o.mono ?_;rintro e w6 ⟨rfl,D⟩;have S:=hid (Qb_ F.o D);have V:=hid (o.o.next D);clear y2 y4 yf yz D HT;go_wp2;refine bodyPost_ret (by simp[results,Tryz.results18,go_sem,];try rfl) rfl ?_;exact⟨S.o,by first|exact⟨_,_,rfl,V.o⟩|exact⟨_,rfl,V.o⟩|exact⟨_,⟨_,rfl⟩,V.o⟩⟩
abbrev FindingD:=Int × Int × BA
def Qc_ (d:FindingD):List Value:=[.int .i64 (d.1),.int .i64 (d.2.1),.string (d.2.2)]
theorem Xi_ (d:FindingD):(Qc_ d).length=3:=rfl
theorem Kt_ {w:World} {A:OA} {n k:Nat} {l:List FindingD} {x0:Int} {x1:Int} {x2:BA} (h:Rd w 3 A n (l.flatMap Qc_)) (hk:k < n) (hd:l[k]? =some (x0,x1,x2)):
  ∃b off,A=some ⟨b,off,none⟩/\b < w.heap.size/\w.cell? ⟨b,off+k * 3,none⟩=some (.int .i64 x0)/\w.cell? ⟨b,off+k * 3+1,none⟩=some (.int .i64 x1)/\w.cell? ⟨b,off+k * 3+2,none⟩=some (.string x2):=by
 obtain⟨b,off,e,hb,a⟩:=h.at_ oo;exact⟨b,off,e,hb,a _ _ (ZJ_ Qc_ Xi_ hd (j:=0) rfl),a _ _ (ZJ_ Qc_ Xi_ hd (j:=1) rfl),a _ _ (ZJ_ Qc_ Xi_ hd (j:=2) rfl)⟩
theorem W2_ (x0:Int) (x1:Int) (x2:BA) (w:World):
  Calls prog 24 #[.agg #[.int .i64 x0,.int .i64 x1,.string x2],.agg #[.int .i64 x0,.int .i64 x1,.string x2]] w fun e w'=>e=.returned (.bool true)/\Below w.heap.size w w':=by
 go_enter func24,ntmps24;go_wp2;go_ret;exact⟨rfl,grow_⟩
theorem YZ_ (A B:OA) (n c c':Nat) (l:List FindingD) (w:World) (hn:n<=4194304) (hl:l.length=n) (ha:Rd w 3 A n (l.flatMap Qc_)) (hb:Rd w 3 B n (l.flatMap Qc_)):
  Calls prog 9 #[.slice A n c,.slice B n c'] w fun e w'=>e=.returned (.bool true)/\Below w.heap.size w w':=by
 have HL:=hid hl;clear hl;go_enter func9,ntmps9;go_wp2;go_loopw [5] (fun i wr=>∃k:Nat,k<=n/\i=.int .i64 k/\Below w.heap.size w wr) (fun i _=>n - (intOf i).toNat)
 case atStart=>exact⟨0,Nat.zero_le _,rfl,br⟩
 case round=>
  obtain⟨k,hk,rfl,a⟩:=hrel;by_cases h:k < n
  ·obtain⟨⟨x0,x1,x2⟩,hd⟩:∃d,l[k]? =some d:=⟨_,gE (by have:=HL.o;omega)⟩;obtain⟨b,off,rfl,g,c0,c1,c2⟩:=Kt_ (ha.below a) h hd;obtain⟨b',p,rfl,f,j,m,o⟩:=Kt_ (hb.below a) h hd;clear ha hb hd;go_upto_region 6 with fail
   go_still_tail 8,(by kernel_rfl);change wpList _ _ _ _ _ wr.drew;go_wp2_with fail
   refine(W2_ _ _ _ _).mono ?_;rintro e w2 ⟨rfl,h2⟩;have q:Below w.heap.size w w2:=a.drew.trans (h2.mono a.size);clear g f c0 c1 c2 j m o;go_wp2;go_roundw
   case rel=>exact⟨k+1,oo,by go_num,grow_⟩
   case measure=>simp[intOf];omega
  ·obtain rfl:k=n:=oo;go_wp2;go_ret;exact⟨rfl,a⟩
def mkGo:Nat->Nat->BA->BA
 |0,_,out=>out
 |f+1,k,out=>if k=0 then out else mkGo f (k / 10) ((⟨#[48+UInt8.ofNat (k % 10)]⟩:BA)++out)
def mkT (k:Int):BA:=(⟨#[109]⟩:BA)++mkGo k.toNat k.toNat ⟨#[]⟩
def MkAt (k f q:Nat) (a:BA):Prop:=mkGo k k ⟨#[]⟩=mkGo f q a/\q<=f/\a.size+f<=k
theorem QcF_ {k f q:Nat} {a:BA} (h:MkAt k f q a) (hq:0 < q):MkAt k (f - 1) (q / 10) ((⟨#[48+UInt8.ofNat (q % 10)]⟩:BA)++a):=by
 obtain⟨h1,h2,h3⟩:=h;obtain⟨f,rfl⟩:∃g,f=g+1:=⟨f - 1,oo⟩;refine⟨?_,oo,?_⟩
 ·rw[h1,mkGo,if_neg oo];rfl
 ·rw[ByteArray.size_append,show(⟨#[48+UInt8.ofNat (q % 10)]⟩:BA).size=1 from rfl];omega
theorem Qel_ {k f q:Nat} {a:BA} (h:MkAt k f q a) (hq:q=0):mkGo k k ⟨#[]⟩=a:=by
 obtain⟨h1,h2,h3⟩:=h;subst hq;rw[h1]
 cases f with
 |zero=>rfl
 |succ f=>rw[mkGo,if_pos rfl]
theorem vi_ (W:World) (q:Nat):(convert 80 9 (.slice (some ⟨W.heap.size,0,none⟩) 1 1)).run prog (W.alloc (.cells #[.int .u8 (48+(q:Int) % 10)] 5))=.ok (.string ⟨#[48+UInt8.ofNat (q % 10)]⟩) (W.alloc (.cells #[.int .u8 (48+(q:Int) % 10)] 5)):=by
 have h:=run_convert_bytes_back (P:=prog) (W.alloc (.cells #[.int .u8 (48+(q:Int) % 10)] 5)) 80 9 5 ⟨W.heap.size,0,none⟩ 1 [48+UInt8.ofNat (q % 10)] underlying80 underlying5 underlying9 (fun j hj=>by
  simp at hj;subst hj;have h2:=(Blk.new W 5 #[.int .u8 (48+(q:Int) % 10)]).cell 0;rw[show(⟨W.heap.size,0,none⟩:Addr).add 0=⟨W.heap.size,0,none⟩from rfl,h2];simp;omega)
 simpa using h
theorem xk_ (k:Nat) (w:World) (h0:1<=k) (h1:k<=1099511627776):
  Calls prog 25 #[.int .i64 (k:Int)] w fun e w'=>e=.returned (.string (mkT k))/\Below w.heap.size w w':=by
 have i:¬(k:Int)<=0:=oo;have HC:=hid (show mkT k=(⟨#[109]⟩:BA)++mkGo k k ⟨#[]⟩from rfl);go_enter func25,ntmps25;go_wp2;go_loopw [0,3] (fun a o wr=>∃(f q:Nat) (b:BA),q<=k/\MkAt k f q b/\a=.int .i64 q/\o=.string b/\Below w.heap.size w wr) (fun a _ _=>(intOf a).toNat)
 case atStart=>exact⟨k,k,⟨#[]⟩,Nat.le_refl _,⟨rfl,Nat.le_refl _,by simp[ByteArray.size]⟩,rfl,rfl,br⟩
 case round=>
  obtain⟨f,q,b,m,c,rfl,rfl,hb⟩:=hrel;have g:b.size<=1099511627776:=by have:=c.2.2;omega
  by_cases hq:0 < q
  ·have d:=QcF_ c hq;have hz:=hb.size;have j:(0:Int)<=(q:Int) % 10:=oo;have l:(q:Int) % 10<=9:=oo;have h:=fun W=>vi_ W q
   go_wp2;go_roundw
   case rel=>exact⟨f - 1,q / 10,_,oo,d,by go_num,rfl,grow_⟩
   case measure=>simp[intOf];omega
  ·have d:=hid (Qel_ c oo);go_wp2;go_ret;exact⟨XP_ (by rw[HC.o,d.o]),hb⟩
theorem G3_ (k:Int) (w:World) (h0:1<=k) (h1:k<=1099511627776):
  Calls prog 25 #[.int .i64 k] w fun e w'=>e=.returned (.string (mkT k))/\Below w.heap.size w w':=by
 obtain⟨n,rfl⟩:=Int.eq_ofNat_of_zero_le (show 0<=k from oo);exact xk_ n w oo oo
def WA_ (xs:List Value) (i:Nat):List Value->List Value
 |[]=>xs
 |v::r=>WA_ (xs.set i v) (i+1) r
theorem Qa9_ (r:List Value):∀(xs:List Value) (i:Nat),(WA_ xs i r).length=xs.length:=by
 induction r with
 |nil=>intro xs i;rfl
 |cons v r ih=>intro xs i;rw[WA_,ih,List.length_set]
theorem Qa8_ (r:List Value):∀(xs:List Value) (i x:Nat),i+r.length<=xs.length->(WA_ xs i r)[x]? =if i<=x/\x < i+r.length then r[x - i]? else xs[x]? :=by
 induction r with
 |nil=>intro xs i x h;rw[WA_,if_neg (by simp)]
 |cons v r ih=>
  intro xs i x h;simp only[List.length_cons]at h;rw[WA_,ih _ _ _ (by rw[List.length_set];omega)];by_cases h1:i+1<=x/\x < i+1+r.length
  ·rw[if_pos h1,if_pos ⟨oo,by simp only[List.length_cons];omega⟩,show x - i=(x - (i+1))+1 from oo,List.getElem?_cons_succ]
  ·rw[if_neg h1,List.getElem?_set];by_cases h2:i=x
   ·subst h2;rw[if_pos rfl,if_pos oo,if_pos ⟨oo,by simp only[List.length_cons];omega⟩];simp
   ·rw[if_neg h2,if_neg];intro h3;simp only[List.length_cons]at h3;omega
def Jj_ (xs M:List Value) (size j:Nat):Prop:=xs.length=M.length/\∀x,x < j * size->xs[x]? =M[x]?
theorem jo_ {xs M:List Value} {size:Nat} (h:xs.length=M.length):Jj_ xs M size 0:=⟨h,fun x hx=>absurd hx oo⟩
theorem jn_ {xs M row:List Value} {size j:Nat} (h:Jj_ xs M size j) (hr:row.length=size) (hl:(j+1) * size<=M.length) (hM:∀y,y < size->M[j * size+y]? =row[y]?):
  Jj_ (WA_ xs (j * size) row) M size (j+1):=by
 obtain⟨h1,h2⟩:=h;have e:(j+1) * size=j * size+size:=by rw[Nat.add_mul];omega
 refine⟨by rw[Qa9_,h1],fun x hx=>?_⟩;rw[Qa8_ _ _ _ _ oo];by_cases h3:j * size<=x/\x < j * size+row.length
 ·rw[if_pos h3];have h4:=hM (x - j * size) oo;rw[show j * size+(x - j * size)=x from oo]at h4;exact h4.symm
 ·rw[if_neg h3];exact h2 x oo
theorem QaJ_ {xs M:List Value} {size n:Nat} (h:Jj_ xs M size n) (hl:M.length=n * size):xs=M:=by
 obtain⟨h1,h2⟩:=h;apply List.ext_getElem?;intro x;by_cases hx:x < n * size
 ·exact h2 x hx
 ·rw[List.getElem?_eq_none oo,List.getElem?_eq_none oo]
def X5_ (row:Int->List Value) (size:Nat) (k:Int) (n:Nat):List Value:=(List.range n).flatMap (fun i=>row (k+(size * i:Nat)))
theorem Vb_ {row:Int->List Value} {size:Nat} (h:∀k,(row k).length=size) (k:Int) (n:Nat):(X5_ row size k n).length=n * size:=by
 unfold X5_;rw[Jz_ _ (fun _=>h _),List.length_range]
theorem xm_ {row:Int->List Value} {size:Nat} (h:∀k,(row k).length=size) (k:Int) (n j:Nat) (hj:j < n):∀y,y < size->(X5_ row size k n)[j * size+y]? =(row (k+(size * j:Nat)))[y]? :=by
 intro y hy;unfold X5_;have h1:(row (k+(size * j:Nat)))[y]? =some ((row (k+(size * j:Nat)))[y]'(by rw[h];exact hy)):=List.getElem?_eq_getElem _;rw[h1];exact ZJ_ (fun i:Nat=>row (k+(size * i:Nat))) (fun _=>h _) (l:=List.range n) (i:=j) (d:=j) (by simp[hj]) h1
theorem Wg_ {row:Int->List Value} {size:Nat} (h:∀k,(row k).length=size) {k q:Int} {n j:Nat} (hj:j < n) (hq:q=k+(size * j:Nat)) {y:Nat} {v:Value} (hv:(row q)[y]? =some v):(X5_ row size k n)[j * size+y]? =some v:=by
 subst hq;have hy:y < size:=by have:=(List.getElem?_eq_some_iff.1 hv).1;rw[h]at this;exact this
 rw[xm_ h k n j hj y hy,hv]
theorem grow_set {a w:World} {g:Nat} (h:a.grownBy w (some g)) (o:Nat) (u:Value):a.grownBy (w.setCell ⟨g,o,none⟩ u) (some g):=
 ⟨h.os,h.tape,h.output,by simpa[World.setCell]using h.size,fun i hi b=>(Below.heap_setCell w ⟨g,o,none⟩ u i (fun e=>b (by rw[e]))).trans (h.block i hi b)⟩
theorem grow_below {a w w2:World} {row:ON} (h:a.grownBy w row) (b:Below w.heap.size w w2):a.grownBy w2 row:=
 ⟨b.os.trans h.os,b.tape.trans h.tape,b.output.trans h.output,Nat.le_trans h.size b.size,fun i hi c=>(b.block i (Nat.lt_of_lt_of_le hi h.size)).trans (h.block i hi c)⟩
section
variable {w w':World} {g:Nat} {t:TypeId} {cap:Nat} {xs:List Value}
theorem Own.fits (h:Own w g t cap xs):xs.length<=cap:=by obtain⟨rest,hb,hs⟩:=h;rw[lA]at hs;omega
theorem Own.set (h:Own w g t cap xs) {i:Nat} (hi:i < xs.length) (u:Value):Own (w.setCell ⟨g,i,none⟩ u) g t cap (xs.set i u):=by
 obtain⟨rest,hb,hs⟩:=h;refine⟨rest,?_,by simpa using hs⟩;have h2:=hb.set_ i u;have e:((xs++rest).toArray).setIfInBounds i u=((xs.set i u)++rest).toArray:=by
  simp[List.set_append_left _ _ hi]
 rwa[e]at h2
end
def Yh_ (k:Int):List Value:=[.int .i64 (k),.int .i64 (k+1),.string (mkT (k+1+1))]
theorem Kk_ (k:Int):(Yh_ k).length=3:=rfl
theorem Un_ (g n c cap:Nat) (k:Int) (xs:List Value) (w:World) (h:Own w g 41 cap xs) (f:xs.length=n * 3) (h0:1<=k) (h1:k+(3 * n:Nat)<=1073741824):
  Calls prog 10 #[.slice (some ⟨g,0,none⟩) n c,.int .i64 k] w fun e w'=>e=.returned (.int .i64 (k+(3 * n:Nat)))/\Own w' g 41 cap (X5_ Yh_ 3 k n)/\w.grownBy w' (some g):=by
 have HX:=hid f;have HK:=hid h1;have hn:n<=1073741824:=oo;clear f h1;go_enter func10,ntmps10;go_wp2;go_loopw [1,5] (fun s i wr=>∃(j:Nat) (q:Int) (ys:List Value),j<=n/\Hid (q=k+(3 * j:Nat))/\i=.int .i64 j/\s=.int .i64 q/\Own wr g 41 cap ys/\Jj_ ys (X5_ Yh_ 3 k n) 3 j/\w.grownBy wr (some g)) (fun _ i _=>n - (intOf i).toNat)
 case atStart=>exact⟨0,k,xs,Nat.zero_le _,(show k=k+((3 * 0:Nat):Int)by simp),rfl,rfl,h,jo_ (by rw[Vb_ Kk_];exact HX.o),⟨rfl,rfl,rfl,Nat.le_refl _,fun _ _ _=>rfl⟩⟩
 case round=>
  obtain⟨j,q,ys,hj,l,rfl,rfl,a,d,o⟩:=hrel;by_cases r:j < n
  ·have v:1<=q:=(by have:=l.o;omega);have x:q+3<=1073741824:=(by have:=l.o;have:=HK.o;omega);have b:=hid (show ys.length=n * 3 by rw[d.1,Vb_ Kk_]);have HM:=hid d;clear d h;have hz:=a.lt;have fz:=a.frozen;obtain⟨o0,e0⟩:=a.there (i:=j * 3) (by have:=a.fits;have:=b.o;omega);obtain⟨o1,e1⟩:=a.there (i:=j * 3+1) (by have:=a.fits;have:=b.o;omega);obtain⟨o2,e2⟩:=a.there (i:=j * 3+2) (by have:=a.fits;have:=b.o;omega);go_wp2_with fail
   refine(G3_ _ _ oo oo).mono ?_;rintro e w2 ⟨rfl,p⟩;have m:=grow_below (grow_set (grow_set o _ _) _ _) p;replace a:=Own.next ((a.set (i:=j * 3) (by (try simp only[List.length_set]);have:=b.o;omega) _).set (i:=j * 3+1) (by (try simp only[List.length_set]);have:=b.o;omega) _) p;replace o:=m;clear m p hz fz e0 e1 e2;have hz:=a.lt;have fz:=a.frozen;obtain⟨o0,e0⟩:=a.there (i:=j * 3) (by have:=a.fits;(try simp only[List.length_set]at this);have:=b.o;omega);obtain⟨o1,e1⟩:=a.there (i:=j * 3+1) (by have:=a.fits;(try simp only[List.length_set]at this);have:=b.o;omega);obtain⟨o2,e2⟩:=a.there (i:=j * 3+2) (by have:=a.fits;(try simp only[List.length_set]at this);have:=b.o;omega);go_wp2;go_roundw
   case rel=>
    refine⟨j+1,_,_,oo,?_,by go_num,rfl,(a.set (i:=j * 3+2) (by (try simp only[List.length_set]);have:=b.o;omega) _),?_,(grow_set o _ _)⟩
    ·show _=_;have:=l.o;omega
    ·have t:=jn_ (row:=Yh_ q) (size:=3) (j:=j) HM.o rfl (by rw[Vb_ Kk_];omega) (fun y hy=>by rw[xm_ Kk_ k n j r y hy,l.o]);exact t
   case measure=>simp[intOf];omega
  ·obtain rfl:j=n:=oo;obtain rfl:=QaJ_ d (Vb_ Kk_ k j);go_wp2;go_ret;exact⟨Vg_ l.o,a,o⟩
theorem Uo_ (A:OA) (c:Nat) (k:Int) (w:World):
  Calls prog 10 #[.slice A 0 c,.int .i64 k] w fun e w'=>e=.returned (.int .i64 k)/\w=w':=by
 go_enter func10,ntmps10;go_wp2;refine wp_loop_rounds 1 ?_;rw[rounds_succ];go_wp2;go_ret;exact⟨rfl,rfl⟩
theorem YO_ (A:OA) (n c:Nat) (k:Int) (w:World) (hr:Rd w 3 A n (X5_ Yh_ 3 k n)) (h0:1<=k) (h1:k+(3 * n:Nat)<=1073741824):
  Calls prog 11 #[.slice A n c,.int .i64 k] w fun e w'=>e=.returned (.int .i64 (k+(3 * n:Nat)))/\Below w.heap.size w w':=by
 have HK:=hid h1;have hn:n<=1073741824:=oo;clear h1;go_enter func11,ntmps11;go_wp2;go_loopw [1,5] (fun s i wr=>∃(j:Nat) (q:Int),j<=n/\Hid (q=k+(3 * j:Nat))/\i=.int .i64 j/\s=.int .i64 q/\Below w.heap.size w wr) (fun _ i _=>n - (intOf i).toNat)
 case atStart=>exact⟨0,k,Nat.zero_le _,(show k=k+((3 * 0:Nat):Int)by simp),rfl,rfl,br⟩
 case round=>
  obtain⟨j,q,hj,g,rfl,rfl,l⟩:=hrel;by_cases h:j < n
  ·have o:1<=q:=(by have:=g.o;omega);have p:q+3<=1073741824:=(by have:=g.o;have:=HK.o;omega);obtain⟨b,off,rfl,a,d⟩:=(hr.below l).at_ oo;have c0:wr.cell? ⟨b,off+j * 3,none⟩=some (.int .i64 (q)):=d _ _ (Wg_ Kk_ h g.o (y:=0) rfl);have c1:wr.cell? ⟨b,off+j * 3+1,none⟩=some (.int .i64 (q+1)):=d _ _ (Wg_ Kk_ h g.o (y:=1) rfl);have c2:wr.cell? ⟨b,off+j * 3+2,none⟩=some (.string (mkT (q+1+1))):=d _ _ (Wg_ Kk_ h g.o (y:=2) rfl);clear d hr;go_upto_region 10 with fail
   go_cut [37] (fun s wx=>s=.bool false/\Below wr.heap.size wr wx)
   case first=>
    go_region_with (go_at_call 25;refine(G3_ _ _ oo oo).mono ?_;rintro e w2 ⟨rfl,f⟩;have m:=((QE_ f).1 _ _ a).trans c2;have h3:Below wr.heap.size wr w2:=(Below.refl _ wr).drew.trans f)
    all_goals (go_wp2_with fail;go_meet;exact⟨rfl,grow_⟩)
   case rest=>
   obtain⟨rfl,f⟩:=hcut;replace l:=l.trans (f.mono l.size);replace c0:=((QE_ f).1 _ _ a).trans c0;replace c1:=((QE_ f).1 _ _ a).trans c1;replace c2:=((QE_ f).1 _ _ a).trans c2;replace a:=Nat.lt_of_lt_of_le a f.size;clear f;obtain⟨wr,rfl⟩:∃wo:World,wo=wc:=⟨_,rfl⟩;go_wp2;go_roundw
   case rel=>
    refine⟨j+1,_,oo,?_,by go_num,rfl,l⟩;show _=_;have:=g.o;omega
   case measure=>simp[intOf];omega
  ·obtain rfl:j=n:=oo;go_wp2;go_ret;exact⟨Vg_ g.o,l⟩
theorem X1_ (w:World) (u v x:Value) (t:TypeId):∀j y,[u,v,x][j]? =some y->(w.alloc (.cells #[u,v,x] t)).cell? ((⟨w.heap.size,0,none⟩:Addr).add j)=some y:=by
 intro j y a
 match j,a with
 |0,a=>obtain rfl:=Option.some.inj a;exact(Blk.new w t #[u,v,x]).cell 0
 |1,a=>obtain rfl:=Option.some.inj a;exact(Blk.new w t #[u,v,x]).cell 1
 |2,a=>obtain rfl:=Option.some.inj a;exact(Blk.new w t #[u,v,x]).cell 2
 |j+3,a=>simp at a
theorem Yo_ (acc:List FindingD) (a b:Int) (s:BA):(acc++[(a,b,s)]).flatMap Qc_=acc.flatMap Qc_++[.int .i64 a,.int .i64 b,.string s]:=by
 simp[Qc_]
theorem Kl_:(prog.info? 41).map (fun i=>(i.zero,i.size,i.bytes))=some (some (.agg #[.int .i64 0,.int .i64 0,.string ⟨#[]⟩]),3,32):=by kernel_rfl
def Kj_ (w:World) (ss:List FindingD) (e:Ending) (w':World):Prop:=
 ∃(A:OA) (c:Nat),e=.returned (.slice A ss.length c)/\Mine w' w.heap.size 41 3 A ss.length c (ss.flatMap Qc_)/\Below w.heap.size w w'
theorem Gz_ (A:OA) (n c B:Nat) (k:Int) (xs:List Value) (w:World) (hm:Mine w B 41 3 A n c xs) (h0:1<=k) (h1:k+(3 * n:Nat)<=1073741824):
  Calls prog 10 #[.slice A n c,.int .i64 k] w fun e w'=>e=.returned (.int .i64 (k+(3 * n:Nat)))/\Mine w' B 41 3 A n c (X5_ Yh_ 3 k n)/\w.grownBy w' (A.map (·.block)):=by
 have hl:=hm.len;rcases hm.own with⟨rfl,rfl,rfl⟩|⟨g,rfl,hB,hn,hc,ho⟩
 ·refine(Uo_ none 0 k w).mono ?_;rintro e w' ⟨rfl,rfl⟩;exact⟨by simp,by simpa[X5_]using Mine.mk_nil _ _ _ _,World.grownBy.refl _ _⟩
 ·refine(Un_ g n c (c * 3) k xs w ho hl h0 h1).mono ?_;rintro e w' ⟨rfl,a,hg⟩;exact⟨rfl,Mine.mk_own a (by rw[Vb_ Kk_]) hB hn hc,hg⟩
end Go.Proofs.YtgbikafalcbibaaGreatDoor

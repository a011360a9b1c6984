/-
  Put together by program.
-/
import Derived.Test.YtbiijipkgfpgoaaGreatDoorMfI
import Derived.Test.YtbiijipkgfpgoaaGreatDoorMfE
import Derived.Test.YtbiijipkgfpgoaaGreatDoorMfL
set_option maxRecDepth 100000
set_option linter.all false
set_option maxHeartbeats 25600000
open Go.Proofs.Tryz
open Go.Value renaming int→I_,slice→S_,string→T_,bool→B_,pointer→P_,tuple→U_
open Go.IntKind renaming i64→j_
open Go.Obj renaming cells→C_
open Go.Ending renaming returned→R_
namespace Go.Proofs.YtbiijipkgfpgoaaGreatDoor
open Go.RowKit
def Y5_ (t:BA):Option (List PN):=
 if (KV_ t).2.2=true then
  match Xg_ (KV_ t).1 with
  |none=>none
  |some s=>if Yb_ s.nodes=true then some s.nodes else none
 else none
def PreC (c:UInt8) (n:Nat) (x:BA):Prop:=x.size<=n/\∀y l,x.data.toList=y::l->y=c
theorem Qgt_ {c:UInt8} {l y:List UInt8} (h:y <+: (c::l)):PreC c (l.length+1) ⟨y.toArray⟩:=by
 obtain⟨z,d⟩:=h;refine⟨?_,fun a b e=>?_⟩
 ·have:=congrArg List.length d;simp at this;show y.toArray.size<=_;simp;omega
 ·have e':y=a::b:=by simpa using e
  subst e';simp at d;exact d.1
theorem qN_ (c:UInt8) (l:List UInt8) (k:Nat):PreC c (l.length+1) ⟨((c::l).take k).toArray⟩:=Qgt_ (List.take_prefix _ _)
theorem Qgc_ (l:List UInt8) (c:UInt8):Lib.trimRightB l c <+: l:=by
 unfold Lib.trimRightB;have h:l.reverse.dropWhile (·==c) <:+ l.reverse:=List.dropWhile_suffix _;have:=List.reverse_prefix.2 h;rwa[List.reverse_reverse]at this
theorem QfO_ (c:UInt8) (l:List UInt8) (k:Nat):PreC c (l.length+1) (VX_ ⟨((c::l).take k).toArray⟩):=by
 unfold VX_;refine Qgt_ (List.IsPrefix.trans (Qgc_ _ _) ?_);simpa using List.take_prefix k (c::l)
def zj_ (n:Nat) (d:SgP):Prop:=d.2.1.size<=n/\(((d.2.1.toList==[41])=true\/(d.2.1.toList==[61,62])=true\/(d.2.1.toList==[44])=true)->d.1=4)
theorem UD_ {c:UInt8} {n:Nat} {x:BA} (h:PreC c n x) (h1:c≠41) (h2:c≠61) (h3:c≠44) (k q:Int) (b:Bool):zj_ n (k,x,q,b):=by
 refine⟨h.1,fun e=>?_⟩;exfalso;rw[ByteArray.toList_eq]at e;rcases e with e|e|e
 ·exact h1 (h.2 41 [] (eq_of_beq e)).symm
 ·exact h2 (h.2 61 [62] (eq_of_beq e)).symm
 ·exact h3 (h.2 44 [] (eq_of_beq e)).symm
theorem Qia_ {c:UInt8} (h:Kz_ c=true):c≠41/\c≠61/\c≠44:=by
 unfold Kz_ at h;have:=od_ h;refine⟨?_,?_,?_⟩<;>(rintro rfl;simp at this)
theorem Qfj_ {c:UInt8} (h:QN_ c=true):c≠41/\c≠61/\c≠44:=by
 unfold QN_ at h;have:=od_ h;refine⟨?_,?_,?_⟩<;>(rintro rfl;simp at this)
theorem Qht_ {c:UInt8} {l:List UInt8} (h:0 < KD_ (c::l)):c=47:=by
 rcases Classical.em (c=47)with e|e
 ·exact e
 ·rw[VH_ e]at h;omega
theorem QbS_ (c:UInt8) (l:List UInt8) (q:Nat) (b:Bool):zj_ (l.length+1) ((Kq_ (c::l) q).1,(Kq_ (c::l) q).2.1,(Kq_ (c::l) q).2.2.1,b):=by
 have hz:∀k p,zj_ (l.length+1) (k,⟨#[]⟩,p,b):=fun k p=>⟨lz_ _,fun e=>by
  exfalso;rw[ByteArray.toList_eq]at e;rcases e with e|e|e<;>cases e⟩
 unfold Kq_;by_cases i:0 < KD_ (c::l)
 ·rw[ip_ i];have:=Qht_ i;exact UD_ (QfO_ c l _) (by rw[this];decide) (by rw[this];decide) (by rw[this];decide) _ _ _
 ·rw[in_ i];by_cases h1:QN_ c=true
  ·simp only;rw[ip_ h1];obtain⟨d,f,g⟩:=Qfj_ h1;split
   ·exact hz _ _
   ·exact UD_ (qN_ c l _) d f g _ _ _
  ·simp only;rw[in_ h1];by_cases h:Kz_ c=true
   ·rw[ip_ h];obtain⟨d,f,g⟩:=Qia_ h;split
    ·exact hz _ _
    ·exact UD_ (qN_ c l _) d f g _ _ _
   ·rw[in_ h];by_cases a:c=39
    ·rw[ip_ a];exact UD_ (qN_ c l _) (by rw[a];decide) (by rw[a];decide) (by rw[a];decide) _ _ _
    ·rw[in_ a];refine⟨?_,fun _=>rfl⟩;have:=vZ_ (c::l) marks04;show(XU_ (c::l)).toArray.size<=_;unfold XU_;simpa using this
theorem jX_ (l:List UInt8) (n:Nat) (hn:l.length<=n):∀(f at_ br:Nat) (acc:List SgP),(∀d∈acc,zj_ n d)->∀d∈(XR_ l f at_ br acc).1,zj_ n d:=by
 intro f
 induction f with
 |zero=>intro at_ br acc h;exact h
 |succ f b=>
  intro at_ br acc h;unfold XR_;split
  ·exact h
  ·rename_i c l' hd;split
   ·exact b _ _ _ h
   ·split
    ·exact b _ _ _ h
    ·split
     ·intro d hd;cases hd
     ·refine b _ _ _ (fun d a=>?_);rcases List.mem_append.1 a with a|a
      ·exact h d a
      ·obtain rfl:=ms1_.1 a;have hl:l'.length+1<=n:=by
        have:=congrArg List.length hd;simp at this;omega
       have:=QbS_ c l' at_ (decide (1 < br));exact⟨lt_ this.1 hl,this.2⟩
theorem WH_ (t:BA):∀d∈(KV_ t).1,zj_ 3000 d:=by
 unfold KV_;split
 ·intro d hd;cases hd
 ·exact jX_ _ 3000 (by rw[QF_];omega) _ _ _ _ (fun d hd=>by cases hd)
theorem QbX_ (t:BA):Yd_ (KV_ t).1:=fun d hd=>(WH_ t d hd).1
theorem jY_ (t:BA):XC_ (KV_ t).1:=fun d hd=>(WH_ t d hd).2
theorem VK_ {t:BA} {s:PS} (h:Xg_ (KV_ t).1=some s):s.nodes.length<=300/\PNs s.nodes:=by
 obtain⟨h1,h2⟩:=QaV_ (QbX_ t) s h;exact⟨h1,fun p hp=>by have:=h2 p hp;exact⟨by have:=this.1;omega,by have:=this.2;omega⟩⟩
theorem zO_ {t:BA} {ps:List PN} (h:Y5_ t=some ps):Yb_ ps=true/\ps.length<=300/\PNs ps:=by
 unfold Y5_ at h;split at h
 ·cases a:Xg_ (KV_ t).1 with
  |none=>rw[a]at h;cases h
  |some s=>
   rw[a]at h;simp only at h;split at h
   ·rename_i ht;obtain rfl:=oi_ h;exact⟨ht,(VK_ a).1,(VK_ a).2⟩
   ·cases h
 ·cases h
theorem RdI.nps {R:RC} {d:Nat} {s:PS} {row:ON} {w:World} (hi:R.imp=true) (h:RdI R d (some s) row w):
  ∃A c,w.cell? ⟨R.T,4,none⟩=some (B_ false)/\w.cell? ⟨R.T,5,none⟩=some (S_ A s.nodes.length c)/\(∀i,w.frozen? ⟨R.T,i,none⟩=false)/\R.T < w.heap.size/\Nps w A s.nodes.length s.nodes:=by
 obtain⟨a,b,AN,cN,l,f,⟨rfl,_,e⟩,_⟩:=h;obtain⟨c0,c2,c3,c4,c5,cf,cz⟩:=f.ci hi;have hl:s.nodes.length=l.length:=by rw[e,List.length_map]
 refine⟨AN,cN,c4,by rw[hl];exact c5,cf,cz,l,⟨hl.symm,?_,fun x g=>(f.2.2.1.1 x g).2.rd⟩,fun x g=>(f.2.2.1.1 x g).1.1,e.symm⟩;rw[hl];exact f.2.1.rd
theorem RdI.set4 {R:RC} {d:Nat} {s:PS} {row:ON} {w:World} (hi:R.imp=true) (h:RdI R d (some s) row w):RdI R d (some s) row (w.setCell ⟨R.T,4,none⟩ (B_ false)):=by
 obtain⟨a,b,AN,cN,l,hc,⟨rfl,h1,h2⟩,c⟩:=h;have:=hc.set (i:=4) (u:=B_ false) (a':=a) (d':=d) (b':=false) (by unfold RC.cells;rw[ip_ hi];simp) hc.2.2.2.2.1;exact⟨a,false,AN,cN,l,this.1,⟨rfl,h1,h2⟩,c⟩
theorem RdI.set4b {R:RC} {d:Nat} {st:RdSt} {row:ON} {w:World} (hi:R.imp=true) (h:RdI R d st row w):(w.setCell ⟨R.T,4,none⟩ (B_ true)).cell? ⟨R.T,4,none⟩=some (B_ true)/\R.T < (w.setCell ⟨R.T,4,none⟩ (B_ true)).heap.size:=by
 obtain⟨a,b,AN,cN,l,hc,j,c⟩:=h;obtain⟨a',b',g,i,l',f,e,_⟩:=(RdI.bad1 hi hc c).1;obtain⟨c0,c2,c3,c4,c5,cf,cz⟩:=f.ci hi;obtain rfl:b'=true:=e;exact⟨c4,cz⟩
def RdR (t:BA) (w:World) (e:Ending) (w':World):Prop:=
 ∃(T:Nat) (p:Int),e=R_ (U_ #[P_ (some ⟨T,0,none⟩),I_ j_ p])/\w'.cell? ⟨T,4,none⟩=some (B_ (Y5_ t).isNone)/\T < w'.heap.size/\Below w.heap.size w w'/\∀ps,Y5_ t=some ps->p=0/\∃A c,w'.cell? ⟨T,5,none⟩=some (S_ A ps.length c)/\Nps w' A ps.length ps
theorem Qag_ {t:BA} (h:(KV_ t).2.2=false):Y5_ t=none:=by unfold Y5_;rw[h];rfl
theorem zN_ {t:BA} (h:(KV_ t).2.2=true) (hn:Xg_ (KV_ t).1=none):Y5_ t=none:=by unfold Y5_;rw[h,ip_ rfl,hn]
theorem Qah_ {t:BA} (h:(KV_ t).2.2=true) {s:PS} (hn:Xg_ (KV_ t).1=some s):Y5_ t=if Yb_ s.nodes=true then some s.nodes else none:=by unfold Y5_;rw[h,ip_ rfl,hn]
theorem V7_ (t:BA) (w:World) (ht:t.size<=1048576):Calls prog 79 #[T_ t] w (RdR t w):=by
 have HS:=h_ (U4_ t w ht);have M:=zW_ t;have o:=h_ (fun h=>Qag_ (t:=t) h);have p:=h_ (fun h1 h2=>zN_ (t:=t) h1 h2);have q:=h_ (fun h1 (s:PS) h2=>Qah_ (t:=t) h1 (s:=s) h2);have B:=h_ (fun(s:PS) h=>VK_ (t:=t) (s:=s) h);unfold RdR;unfold vm_ at HS;generalize Y5_ t=RP at o p q |-
 generalize KV_ t=Z at HS M o p q B;obtain⟨sg,pl,ok⟩:=Z;dsimp only at HS M o p q B;obtain⟨n,hn⟩:=ex_ sg.length;rw[hn]at HS M;go_enter func79,ntmps79;go_wp2_with fail
 refine HS.o.mono ?_;rintro e w1 ⟨A,c,rfl,m1,h1⟩;have k:=h1.size;have ap:=h_ m1;have H:=h_ h1;clear m1 h1 HS
 cases ok with
 |false=>
  have Q:=o.o (by trivial);subst Q;have K:=Blk.new w1 117 #[S_ A n c,I_ j_ t.size,I_ j_ 0,I_ j_ 0,B_ true,S_ none 0 0,S_ none 0 0];have k4:=K.q4;have kz:=K.lt;have ao:=h_ (H.o.alloc k (C_ #[S_ A n c,I_ j_ t.size,I_ j_ 0,I_ j_ 0,B_ true,S_ none 0 0,S_ none 0 0] 117));clear K o p q B;go_wp2;go_ret2;exact⟨w1.heap.size,pl,rfl,k4,kz,ao.o,fun ps h=>by cases h⟩
 |true=>
  obtain⟨R,O⟩:∃R:RC,R=⟨true,w1.heap.size,A,n,c,t.size,S_ none 0 0,sg,w1,fun _=>False⟩:=⟨_,rfl⟩;have K:=Blk.new w1 117 #[S_ A n c,I_ j_ t.size,I_ j_ 0,I_ j_ 0,B_ false,S_ none 0 0,S_ none 0 0];have ae:RdI R 0 (some ⟨0,[]⟩) none (w1.alloc (C_ #[S_ A n c,I_ j_ t.size,I_ j_ 0,I_ j_ 0,B_ false,S_ none 0 0,S_ none 0 0] 117)):=by
   subst O;exact⟨0,false,none,0,[],⟨K,Mine.mk_nil _ _ _ _,⟨fun x hx=>absurd hx sm_,fun g hg=>False.elim hg⟩,by simp,lz_ _,br.alloc (lr_ _) _,⟨hn,M,ap.o.rd,lr_ _⟩⟩,⟨rfl,rfl,rfl⟩,rfl⟩
  have r:R.imp=true:=by rw[O]
  have C:R.T=w1.heap.size:=by rw[O]
  have j:R.n=n:=by rw[O]
  have X:R.M=S_ none 0 0:=by rw[O]
  have J:R.sg=sg:=by rw[O]
  have G:R.A=A/\R.c=c:=by rw[O];exact⟨rfl,rfl⟩
  have hF:=QcN_ R r (n+2) (14 * (n+2)) (by rw[j];omega) oo (by rw[j];omega) (GQ_ R r (n+2) (by rw[j];omega) _) (some ⟨0,[]⟩) none _ ae X;have ai:ji_ R.sg (Qd_ R.sg (n+2) (14 * (n+2))) (n+2) (some ⟨0,[]⟩)=Xg_ sg:=by rw[J];unfold Xg_;rw[hn]
  rw[ai,C]at hF;have HF:=h_ hF;have aE:=h_ (H.o.alloc k (C_ #[S_ A n c,I_ j_ t.size,I_ j_ 0,I_ j_ 0,B_ false,S_ none 0 0,S_ none 0 0] 117));have Y:R.w0=w1:=by rw[O]
  clear hF ai K ae;go_wp2_with fail
  refine HF.o.mono ?_;rintro e w2 ⟨rfl,v,row',f,aG⟩;have I:Hid (Below w.heap.size w w2):=(show Below w.heap.size w w2 from H.o.trans (by have:=f.old;rw[show(R.mem v).w0=w1 from Y]at this;exact this.mono k));have aI:=f.old.size
  cases D:Xg_ sg with
  |none=>
   have Q:=p.o (by trivial) D;subst Q;rw[D]at f;obtain⟨a,b,AN,cN,l,hc,hb,aj⟩:=f;obtain⟨c0,c2,c3,F,V,N,m⟩:=RdC.ci (R:=R.mem v) r hc;obtain rfl:b=true:=hb;have af:=hc.2.2.2.2.1;have d:=hc.2.2.2.2.2.2.rd.below hc.2.2.2.2.2.1;change w2.cell? ⟨R.T,0,none⟩=some (S_ R.A R.n R.c)at c0;change w2.cell? ⟨R.T,2,none⟩=_ at c2;change w2.cell? ⟨R.T,4,none⟩=_ at F;change R.T < _ at m;change a<=R.n at af;change Rd w2 4 R.A R.n (R.sg.flatMap ZP_)at d;rw[C]at c0 c2 F m;rw[G.1,j,G.2]at c0;rw[j]at af;rw[G.1,j,J]at d;clear hc c3 V N aj HF o p q B X J G C j r Y;by_cases aB:a < n
   ·obtain⟨x,hx⟩:∃x,sg[a]? =some x:=⟨_,gE oo⟩;obtain⟨b1,off,hA,aD,e0,e1,e2,e3⟩:=Yv_ d aB hx;subst hA;have ah:(a:Int) < n:=oo;clear d hx e0 e1 e3;go_wp2;go_quiet (fail);go_wp2;go_ret2;exact⟨w1.heap.size,_,rfl,F,m,Qb_ I.o (below_drewN br _),fun ps h=>by cases h⟩
   ·have ah:¬(a:Int) < n:=oo;clear d;go_wp2;go_ret2;exact⟨w1.heap.size,_,rfl,F,m,I.o,fun ps h=>by cases h⟩
  |some s=>
   have Q:=q.o (by trivial) s D;obtain⟨aH,ak⟩:=B.o s D;rw[D]at f;obtain⟨A2,aq,F,V,N,m,P⟩:=RdI.nps (R:=R.mem v) r f;change w2.cell? ⟨R.T,4,none⟩=_ at F;change w2.cell? ⟨R.T,5,none⟩=_ at V;change ∀i,w2.frozen? ⟨R.T,i,none⟩=false at N;change R.T < _ at m;rw[C]at F V N m;have ac:=h_ f;have U:=h_ r;have HT:=h_ (V4_ A2 s.nodes.length aq s.nodes w2 oo P (h_ ak));have hz:=H.o.size;have ad:=h_ C;clear P ak f HF o p q B X J G C j r Y D
   cases E:Yb_ s.nodes with
   |true=>
    rw[E,ip_ rfl]at Q;rw[E]at HT;subst Q;clear E;go_wp2_with fail
    refine HT.o.mono ?_;rintro e w3 ⟨rfl,y⟩;have ar:=((QW_ y).1 _ 4 m).trans F;have aF:=((QW_ y).1 _ 5 m).trans V;have ax:∀i,w3.frozen? ⟨w1.heap.size,i,none⟩=false:=fun i=>((QW_ y).2 _ i m).trans (N i)
    have ay:=ll_ m y.size;obtain⟨A4,av,q4,q5,_,qz,z⟩:=RdI.nps (R:=R.mem v) U.o (RdI.set4 (R:=R.mem v) U.o (ac.o.next y));change (w3.setCell ⟨R.T,4,none⟩ (B_ false)).cell? ⟨R.T,4,none⟩=_ at q4;change (w3.setCell ⟨R.T,4,none⟩ (B_ false)).cell? ⟨R.T,5,none⟩=_ at q5;change R.T < (w3.setCell ⟨R.T,4,none⟩ (B_ false)).heap.size at qz;change Nps (w3.setCell ⟨R.T,4,none⟩ (B_ false)) _ _ _ at z;rw[ad.o]at q4 q5 qz z;have S:=h_ (ai_ q4 (ai_ q5 (ai_ qz z)));clear q4 q5 qz z;have T:=h_ ((Qb_ I.o y).setCell (show w.heap.size<=(⟨w1.heap.size,4,none⟩:Addr).block from k) (B_ false));clear y F V N m HT;go_wp2;go_ret2;exact⟨w1.heap.size,_,rfl,S.o.1,S.o.2.2.1,T.o,fun ps h=>by obtain rfl:=oi_ h;exact⟨rfl,A4,av,S.o.2.1,S.o.2.2.2⟩⟩
   |false=>
    rw[E,in_ dc_]at Q;rw[E]at HT;subst Q;clear E;go_wp2_with fail
    refine HT.o.mono ?_;rintro e w3 ⟨rfl,y⟩;have L:=RdI.set4b (R:=R.mem v) U.o (ac.o.next y);change (w3.setCell ⟨R.T,4,none⟩ (B_ true)).cell? ⟨R.T,4,none⟩=_/\R.T < _ at L;rw[ad.o]at L;have S:=h_ L;clear L;have ar:=((QW_ y).1 _ 4 m).trans F;have ax:∀i,w3.frozen? ⟨w1.heap.size,i,none⟩=false:=fun i=>((QW_ y).2 _ i m).trans (N i)
    have ay:=ll_ m y.size;have T:=h_ ((Qb_ I.o y).setCell (show w.heap.size<=(⟨w1.heap.size,4,none⟩:Addr).block from k) (B_ true));clear y F V N m HT;go_wp2;go_ret2;exact⟨w1.heap.size,_,rfl,S.o.1,S.o.2,T.o,fun ps h=>by cases h⟩
theorem qt_ (t:BA) (w:World) (ht:t.size<=1048576) (h:Y5_ t=none):Calls prog 58 #[T_ t] w fun e w'=>∃p:Int,e=R_ (U_ #[S_ none 0 0,I_ j_ p,B_ false])/\Below w.heap.size w w':=by
 have a:=V7_ t w ht;unfold RdR at a;rw[h]at a;have a:=h_ a;clear h;go_enter func58,ntmps58;go_wp2_with fail
 refine a.o.mono ?_;rintro e w1 ⟨T,p,rfl,c4,cz,hb,_⟩;have HB:=h_ hb;change w1.cell? ⟨T,4,none⟩=some (B_ true)at c4;clear hb;go_wp2;refine bodyPost_ret (by simp[results,Tryz.results58,go_sem,];try rfl) rfl ?_;exact⟨p,rfl,HB.o⟩
theorem qu_ (t:BA) (w:World) (ht:t.size<=1048576) (ps:List PN) (h:Y5_ t=some ps):Calls prog 58 #[T_ t] w fun e w'=>∃A c,e=R_ (U_ #[S_ A ps.length c,I_ j_ 0,B_ true])/\Nps w' A ps.length ps/\Below w.heap.size w w':=by
 have a:=V7_ t w ht;unfold RdR at a;rw[h]at a;have a:=h_ a;clear h;go_enter func58,ntmps58;go_wp2_with fail
 refine a.o.mono ?_;rintro e w1 ⟨T,p,rfl,c4,cz,hb,h5⟩;obtain⟨rfl,A,c,c5,hn⟩:=h5 ps rfl;have HB:=h_ hb;have HN:=h_ hn;change w1.cell? ⟨T,4,none⟩=some (B_ false)at c4;clear hb hn h5;go_wp2;refine bodyPost_ret (by simp[results,Tryz.results58,go_sem,];try rfl) rfl ?_;exact⟨A,c,rfl,HN.o,HB.o⟩
def NpsM (w:World) (B:Nat) (A:OA) (n c:Nat) (ps:List PN):Prop:=
 ∃l:List Nd,Mine w B 96 4 A n c (l.flatMap Qv_)/\l.length=n/\(∀x∈l,KidsIn w B (fun _=>False) x)/\l.map Nd.pn=ps
section
variable {w w':World} {B n c:Nat} {A:OA} {ps:List PN}
theorem NpsM.nps (h:NpsM w B A n c ps):Nps w A n ps:=by
 obtain⟨l,hm,hl,hk,rfl⟩:=h;exact⟨l,⟨hl,hm.rd,fun x a=>(hk x a).2.rd⟩,fun x a=>(hk x a).1.1,rfl⟩
theorem NpsM.next (h:NpsM w B A n c ps) (hb:Below w.heap.size w w'):NpsM w' B A n c ps:=by
 obtain⟨l,hm,hl,hk,e⟩:=h;exact⟨l,hm.next hb,hl,fun x hx=>(hk x hx).next hb,e⟩
theorem NpsM.more {B':Nat} (h:NpsM w B A n c ps) (hb:B'<=B):NpsM w B' A n c ps:=by
 obtain⟨l,hm,hl,hk,e⟩:=h;exact⟨l,hm.more hb,hl,fun x hx=>⟨(hk x hx).1,(hk x hx).2.more hb⟩,e⟩
theorem NpsM.none_ (h:Mine w B 96 4 A 0 c []):NpsM w B A 0 c []:=⟨[],h,rfl,(fun x hx=>by cases hx),rfl⟩
end
theorem RdI.snps {R:RC} {d:Nat} {s:PS} {row:ON} {w:World} (hi:R.imp=false) (h:RdI R d (some s) row w):
  ∃A c,w.cell? ⟨R.T,2,none⟩=some (B_ false)/\w.cell? ⟨R.T,4,none⟩=some (S_ A s.nodes.length c)/\(∀i,w.frozen? ⟨R.T,i,none⟩=false)/\R.T < w.heap.size/\NpsM w R.w0.heap.size A s.nodes.length c s.nodes:=by
 obtain⟨a,b,AN,cN,l,f,⟨rfl,_,e⟩,_⟩:=h;obtain⟨c0,c1,c2,c3,c4,cf,cz⟩:=f.cs hi;have hl:s.nodes.length=l.length:=by rw[e,List.length_map]
 refine⟨AN,cN,c2,by rw[hl];exact c4,cf,cz,l,?_,hl.symm,fun x hx=>⟨⟨(f.2.2.1.1 x hx).1.1,fun _ _ h=>h⟩,(f.2.2.1.1 x hx).2⟩,e.symm⟩;rw[hl];exact f.2.1
def SRd (t:BA) (w:World) (e:Ending) (w':World):Prop:=
 Below w.heap.size w w'/\match Y5_ t with
  |none=>∃(g:Nat) (p:Int),e=R_ (U_ #[S_ (some ⟨g,0,none⟩) 0 0,I_ j_ p,B_ false])/\NpsM w' w.heap.size (some ⟨g,0,none⟩) 0 0 []
  |some ps=>∃A c,e=R_ (U_ #[S_ A ps.length c,I_ j_ 0,B_ true])/\NpsM w' w.heap.size A ps.length c ps
theorem kt_ {sg:List SgP} {E:Md->Nat->RdSt->PR} {N M:Nat} {ks:LI} {st:RdSt} (h:jN_ sg st=false):XL_ sg E N M ks st=(ks,st):=by
 cases M with
 |zero=>rfl
 |succ M=>unfold XL_;rw[h,in_ dc_]
theorem Ub_ (t:BA) (w:World) (ht:t.size<=1048576):Calls prog 35 #[T_ t] w (SRd t w):=by
 obtain⟨i0,bq,bx,bz,bA⟩:=info_parts QY_;have I:=h_ (ai_ bq (ai_ bx (ai_ bz bA)));clear bq bx bz bA;have HS:=h_ (fun W=>WM_ t W ht);have aV:=zW_ t;have ae:=h_ (fun h=>Qag_ (t:=t) h);have af:=h_ (fun h1 h2=>zN_ (t:=t) h1 h2);have ag:=h_ (fun h1 (s:PS) h2=>Qah_ (t:=t) h1 (s:=s) h2);have ay:=h_ (fun(s:PS) h=>VK_ (t:=t) (s:=s) h);have aq:=h_ (jY_ t);unfold SRd;unfold vm_ at HS;generalize Y5_ t=RP at ae af ag |-
 generalize KV_ t=Z at HS aV ae af ag ay aq;obtain⟨sg,pl,ok⟩:=Z;dsimp only at HS aV ae af ag ay aq;obtain⟨n,hn⟩:=ex_ sg.length;rw[hn]at HS aV;go_enter func35,ntmps35;go_wp2_with fail
 refine(HS.o _).mono ?_;rintro e w1 ⟨A,c,rfl,m1,h1⟩;have aN:=h_ (((Below.refl w.heap.size w).alloc (lr_ _) (C_ #[] 96)).trans (h1.mono sm_));have bv:=aN.o.size;have bL:=h_ (m1.rd);have ak:=h_ (NpsM.none_ (Mine.next (ZA_ w 96 4) h1));clear m1 h1 HS
 cases ok with
 |false=>
  have hr:=ae.o (by trivial);subst hr;clear ae af ag ay aq;go_wp2;refine bodyPost_ret (by simp[results,Tryz.results35,go_sem,];try rfl) rfl ?_;refine⟨aN.o,?_⟩
  first
   |exact⟨_,_,rfl,ak.o⟩
   |exact⟨_,rfl,ak.o⟩
   |exact⟨_,⟨_,rfl⟩,ak.o⟩
 |true=>
  obtain⟨R,hR⟩:∃R:RC,R=⟨false,w1.heap.size,A,n,c,0,S_ none 0 0,sg,w1,fun _=>False⟩:=⟨_,rfl⟩;have K:=Blk.new w1 82 #[S_ A n c,I_ j_ 0,B_ false,I_ j_ 0,S_ none 0 0];have bl:RdI R 0 (some ⟨0,[]⟩) none (w1.alloc (C_ #[S_ A n c,I_ j_ 0,B_ false,I_ j_ 0,S_ none 0 0] 82)):=by
   subst hR;exact⟨0,false,none,0,[],⟨K,Mine.mk_nil _ _ _ _,⟨fun x hx=>absurd hx sm_,fun g hg=>False.elim hg⟩,by simp,lz_ _,br.alloc (lr_ _) _,⟨hn,aV,bL.o,lr_ _⟩⟩,⟨rfl,rfl,rfl⟩,rfl⟩
  have hi:R.imp=false:=by rw[hR]
  have a6:R.T=w1.heap.size:=by rw[hR]
  have b2:R.n=n:=by rw[hR]
  have b1:R.sg=sg:=by rw[hR]
  have bZ:R.A=A:=by rw[hR]
  have b0:R.c=c:=by rw[hR]
  have b3:R.w0=w1:=by rw[hR]
  have bn:∀g,¬R.U g:=fun g h=>by rw[hR]at h;exact h
  have aO:=h_ (bl.res_new (A:=some ⟨w1.heap.size+1,0,none⟩) (br.alloc (lr_ _) (C_ #[] 3)) (fun g hg=>by simp at hg;subst hg;simp));have an:=h_ ((Y3_ (w1.alloc (C_ #[S_ A n c,I_ j_ 0,B_ false,I_ j_ 0,S_ none 0 0] 82))).more (B':=w1.heap.size) sm_);rw[ws_]at an;clear K hR bl;go_upto_region 7 with fail
  generalize (w1.alloc (C_ #[S_ A n c,I_ j_ 0,B_ false,I_ j_ 0,S_ none 0 0] 82)).alloc (C_ #[] 3)=W3 at aO an |-
  rw[<-a6]at aO an |-
  subst b2 b1 bZ b0 b3;have bh:Hid (R.Lo R.w0.heap.size):=(show R.Lo _ from⟨lr_ _,fun g h=>(bn g h).elim⟩);have bj:=h_ (Qiz_ R hi aq.o (R.n+2) oo (14 * (R.n+2)));have aG:Xg_ R.sg=(KP_ (XL_ R.sg (Qd_ R.sg (R.n+2) (14 * (R.n+2))) (R.n+2) (R.n+2) [] (some ⟨0,[]⟩)).2 ⟨22,noT,(XL_ R.sg (Qd_ R.sg (R.n+2) (14 * (R.n+2))) (R.n+2) (R.n+2) [] (some ⟨0,[]⟩)).1,false⟩).2:=by
   unfold Xg_ ji_;rw[hn]
  have HO:Hid (∀(U:Nat->Prop) (t:PS) (row:ON) (w:World),RdI { R with U:=U } 0 (some t) row w->Calls prog 52 #[P_ (some ⟨R.T,0,none⟩),B_ true] w (fun e w'=>e=R_ (I_ j_ (Y9_ R.sg (Qd_ R.sg (R.n+2) (14 * (R.n+2))) (R.n+2) false (some t)).1)/\∃row',RdI { R with U:=U } 0 (Y9_ R.sg (Qd_ R.sg (R.n+2) (14 * (R.n+2))) (R.n+2) false (some t)).2 row' w'/\Kr R.T row w row' w')):=(show ∀U t row w,_->_ from fun U t row w h=>jZ_ { R with U:=U } hi (R.n+2) (14 * (R.n+2)) (lr_ _) (show 14 * (R.n+2)<=100000 from oo) (show R.n < R.n+2 from oo) (sc_u U bj.o) (some t) row w h);have ax:Hid (∀b st,Y9_ R.sg (Qd_ R.sg (R.n+2) (14 * (R.n+2))) (R.n+2) b st=Xa_ b (Y9_ R.sg (Qd_ R.sg (R.n+2) (14 * (R.n+2))) (R.n+2) false st)):=(show ∀b st,_ from fun b st=>QeI_ b st);have a2:Hid (∀st,0<=(Y9_ R.sg (Qd_ R.sg (R.n+2) (14 * (R.n+2))) (R.n+2) false st).1):=(show ∀st,_ from fun st=>QiJ_ false st);have a0:Hid (∀b st,Adv 1 1 st (Y9_ R.sg (Qd_ R.sg (R.n+2) (14 * (R.n+2))) (R.n+2) b st).2):=(show ∀b st,_ from fun b st=>x2_ (fun m d st=>QB_ _ m d st) b st);obtain⟨N,bm⟩:=ex_ (R.n+2);have hN:R.n < N:=oo;rw[bm]at aG HO ax a2 a0;generalize Qd_ R.sg N (14 * N)=E at aG HO ax a2 a0;obtain⟨Q,hQ⟩:=ex_ (XL_ R.sg E N N [] (some ⟨0,[]⟩));rw[hQ]at aG;have HQ:=h_ hQ;have bi:=h_ aG;have aR:=h_ bv;have ce:Hid (R.A=R.A):=(show R.A=R.A from rfl);have bM:=h_ a6;clear bj aG hQ bm aq bn ae a6;go_loopw [10] (fun v wr=>∃(M:Nat) (ks:LI) (st':RdSt) (row':ON) (A':OA) (c':Nat),v=S_ A' ks.length c'/\Hid (XL_ R.sg E N M ks st'=Q)/\Hid (Enough R.n M st')/\Hid (KidB ks st')/\Hid (Mine wr R.w0.heap.size 3 1 A' ks.length c' (Qa_ ks))/\Hid (RdI (R.res A') 0 st' row' wr)) (fun _ wr=>Jn_ R wr)
  case atStart=>exact⟨N,[],some ⟨0,[]⟩,none,_,0,rfl,HQ,(show Enough _ _ _ from QP_ hN _),⟨by simp,fun s _=>by simp⟩,by rw[<-bM.o];exact an,aO⟩
  case round=>
   clear HQ an aO;obtain⟨M,ks,st',row',A',c',rfl,HQ,be,bg,P,HI⟩:=hrel;have bf:=HI
   cases st' with
   |none=>
    obtain⟨a,b,AN,cN,l,hc,hb,ad⟩:=HI.o;obtain⟨c1,c2,c3,cf,cz⟩:=hc.csu _ hi;obtain rfl:b=true:=hb;have G:=HQ.o;rw[kt_ (show jN_ R.sg none=false from rfl)]at G;clear hc ad c1 c3;have ar:Hid (Xg_ R.sg=(KP_ none ⟨22,noT,ks,false⟩).2):=(show _=_ by rw[bi.o,<-G]);have am:=h_ HI.o.unres;go_wp2_with fail
    refine(Yu_ R.U hi 0 none _ 22 noT A' ks.length c' ks R.w0.heap.size _ am.o P.o bh.o).mono ?_;rintro e H ⟨rfl,k,h5,k5⟩;rw[<-ar.o]at h5;have f:Hid (RdI R 0 (Xg_ R.sg) k H):=h5;have F:Hid (Below w.heap.size w H):=(show Below w.heap.size w H from aN.o.trans (by have:=f.o.old;exact this.mono aR.o));have o:=h_ (ak.o.next f.o.old);clear h5 k5 am ar HQ G
    cases y:Xg_ R.sg with
    |none=>
     rw[y]at f;have hr:=af.o (by trivial) y;have p:RdI R 0 none k H:=f.o;obtain⟨a5,b5,bK,bP,l5,aA,a7,ab⟩:=id p;obtain⟨x0,x1,x2,x3,x4,xf,xz⟩:=aA.cs hi;obtain rfl:b5=true:=a7;have z:R.Ok:=p.ok;have C:=z.rd.below p.old;have a9:=z.len;subst hr;clear p aA ab x3 x4 z;rcases Nat.lt_or_ge a5 R.n with aD|bp
     ·obtain⟨x,hx⟩:∃x,R.sg[a5]? =some x:=⟨_,gE oo⟩;obtain⟨b6,off,hA,bo,e0,e1,e2,e3⟩:=Yv_ C aD hx;have J:(a5:Int) < (R.n:Int):=oo;rw[hA]at x0 |-
      clear C hx e0 e1 e3 hA;go_wp2;go_quiet (fail);go_wp2;refine bodyPost_ret (by simp[results,Tryz.results35,go_sem,];try rfl) rfl ?_;exact⟨Qb_ F.o (below_drewN br _),by first|exact⟨_,_,rfl,o.o.next (below_drewN br _)⟩|exact⟨_,rfl,o.o.next (below_drewN br _)⟩|exact⟨_,⟨_,rfl⟩,o.o.next (below_drewN br _)⟩⟩
     ·have J:¬(a5:Int) < (R.n:Int):=oo;have aE:decide ((a5:Int) < (R.n:Int))=false:=df_ J;clear C;go_wp2;refine bodyPost_ret (by simp[results,Tryz.results35,go_sem,];try rfl) rfl ?_;exact⟨F.o,by first|exact⟨_,_,rfl,o.o⟩|exact⟨_,rfl,o.o⟩|exact⟨_,⟨_,rfl⟩,o.o⟩⟩
    |some s=>
     rw[y]at f;obtain⟨b8,aH⟩:=ay.o s y;have hr:=ag.o (by trivial) s y;have p:Hid (RdI R 0 (some s) k H):=f;obtain⟨A6,c6,y2,y4,yf,yz,L⟩:=RdI.snps hi p.o;have HT:=h_ (X9_ A6 s.nodes.length c6 s.nodes H oo L.nps (h_ aH));clear aH L;rcases bft (Yb_ s.nodes)with q|q
     ·rw[ip_ q]at hr;rw[q]at HT;subst hr;clear q;go_wp2_with fail
      refine HT.o.mono ?_;rintro e w6 ⟨rfl,D⟩;obtain⟨A7,c7,z2,z4,zf,zz,aF⟩:=RdI.snps hi (p.o.next D);have S:=h_ (Qb_ F.o D);have av:=h_ (aF.more aR.o);clear y2 y4 yf yz D aF HT;go_wp2;refine bodyPost_ret (by simp[results,Tryz.results35,go_sem,];try rfl) rfl ?_;exact⟨S.o,A7,c7,rfl,av.o⟩
     ·rw[in_ (by rw[q];decide)]at hr;rw[q]at HT;subst hr;clear q;go_wp2_with fail
      refine HT.o.mono ?_;rintro e w6 ⟨rfl,D⟩;have S:=h_ (Qb_ F.o D);have V:=h_ (o.o.next D);clear y2 y4 yf yz D HT;go_wp2;refine bodyPost_ret (by simp[results,Tryz.results35,go_sem,];try rfl) rfl ?_;exact⟨S.o,by first|exact⟨_,_,rfl,V.o⟩|exact⟨_,rfl,V.o⟩|exact⟨_,⟨_,rfl⟩,V.o⟩⟩
   |some t=>
    obtain⟨a,b,AN,cN,l,hc,hb,ad⟩:=HI.o;obtain⟨c1,c2,c3,cf,cz⟩:=hc.csu _ hi;obtain⟨rfl,cm,_⟩:=hb;have cg:a<=R.n:=hc.2.2.2.2.1;rcases Nat.lt_or_ge a R.n with ck|ch
    ·obtain⟨M,rfl⟩:∃M',M=M'+1:=⟨M - 1,by
      have h1:=be.o t rfl;omega⟩
     have aC:(a:Int) < (R.n:Int):=oo;have aE:decide ((a:Int) < (R.n:Int))=true:=dt_ aC;have G:=HQ.o;unfold XL_ at G;rw[ip_ (show jN_ R.sg (some t)=true from dt_ oo)]at G;clear hc ad c3 HQ;have HX:=h_ (fun(row:ON) (W:World) h=>VO_ (R.res A') hi 0 t row W h);have aS:XI_ R.sg (some t) ks=((Qx_ R.sg (some t) 0).2.2.2&&decide (0 < ks.length)):=rfl;rw[aS]at G;have bs:(R.res A').sg=R.sg:=rfl;rw[bs]at HX;generalize Qx_ R.sg (some t) 0=x at HX G aS;obtain⟨xk,xt,xp,xz⟩:=x;dsimp only at HX G aS;clear aS bs;have cd:=bg.o.2 t rfl;have cl:=(HI.o.le rfl).2;have cj:=bg.o.1;have j:=a0.o (xz&&decide (0 < ks.length)) (some t);rw[ax.o]at G j;have aU:=a2.o (some t);have HC:=h_ (fun(row:ON) (W:World) h=>HO.o (fun x=>R.U x\/A'.map (·.block)=some x) t row W h);generalize Y9_ R.sg E N false (some t)=r at G j aU HC;obtain⟨kc,aY⟩:=r;unfold Xa_ at G j;dsimp only at G j aU HC;have aL:Hid (KidB (ks++[kc]) (Zs_ kc (xz&&decide (0 < ks.length)) aY)):=(show KidB _ _ from⟨by rw[lA];simp;omega,fun t2 e=>by
      obtain⟨cn,e2,_,h3⟩:=j t2 e;obtain rfl:=oi_ e2;rw[lA];simp;omega⟩)
     have aM:Hid (Enough R.n M (Zs_ kc (xz&&decide (0 < ks.length)) aY)):=be.o.adv (i:=0) j;have aT:(ks++[kc]).length=ks.length+1:=sm_;have aQ:=h_ G;have ac:=h_ j;clear G j
     cases xz with
     |false=>
      rw[Bool.false_and]at aL aM aQ ac;go_wp2_with fail
      refine(HX.o _ _ HI.o).mono ?_;rintro e w3 ⟨rfl,g3⟩;have X:=h_ (HI.o.next g3);have ao:=h_ (P.o.next g3);clear c1 c2 cf cz g3 HX P;go_wp2_with fail
      refine(HC.o _ _ X.o).mono ?_;rintro e w4 ⟨rfl,aI,h4,k4⟩;have ap:=h_ (X.o.keepI k4 ao.o);have Y:=h_ h4;clear h4 k4 X ao;have T:=h_ (Ze_ (R.res A') hi 0 aY aI kc aU false w4 Y.o);unfold QA_ at T;go_wp2_with fail
      refine T.o.mono ?_;rintro e H ⟨rfl,k,h5,k5⟩;have P:=h_ (Y.o.keepI k5 ap.o);have f:=h_ h5;clear h5 k5 Y ap T;have b9:R.w0.heap.size<=H.heap.size:=f.o.old.size;have a1:Hid (R.w0.heap.size<=R.w0.heap.size):=(show R.w0.heap.size<=R.w0.heap.size from lr_ _);go_wp2_with (at_builtin;(refine Qi_ _ rfl (.tmp 55) (.tmp 57) _ rfl R.w0.heap.size 3 i0 (I_ j_ 0) 1 8 underlying83 I.o.1 I.o.2.1 I.o.2.2.1 I.o.2.2.2 rfl dc_ (S_ A' ks.length c') ks.length (Qa_ ks) rfl (Mine.alloc P.o _) ⟨H.heap.size,0,none⟩ 1 1 [I_ j_ kc] rfl rfl (K8_ _ kc _) (K9_ _) mx_ oo so_ ?_);intro v' w6 B aB O;obtain⟨A6,c6,rfl,D,m6⟩:=RdI.appended f.o P.o a1.o bra B aB O)
      rw[<-Ke_]at m6;have al:=h_ D;replace P:=h_ m6;clear B aB O D m6;go_wp2;go_roundw
      case rel=>exact⟨M,ks++[kc],_,k,A6,c6,by rw[aT],aQ,aM,aL,by rw[aT];exact P,al⟩
      case measure=>exact ZG_ hi bf.o al.o (ac.o.weak (i':=1) (j':=0) oo oo)
     |true=>
      rw[Bool.true_and]at aL aM aQ ac;go_wp2_with fail
      refine(HX.o _ _ HI.o).mono ?_;rintro e w3 ⟨rfl,g3⟩;have X:=h_ (HI.o.next g3);have ao:=h_ (P.o.next g3);clear c1 c2 cf cz g3 HX P;go_wp2_with fail
      refine(HC.o _ _ X.o).mono ?_;rintro e w4 ⟨rfl,aI,h4,k4⟩;have ap:=h_ (X.o.keepI k4 ao.o);have Y:=h_ h4;clear h4 k4 X ao;have T:=h_ (Ze_ (R.res A') hi 0 aY aI kc aU (decide (0 < ks.length)) w4 Y.o);unfold QA_ at T;go_wp2_with fail
      refine T.o.mono ?_;rintro e H ⟨rfl,k,h5,k5⟩;have P:=h_ (Y.o.keepI k5 ap.o);have f:=h_ h5;clear h5 k5 Y ap T;have b9:R.w0.heap.size<=H.heap.size:=f.o.old.size;have a1:Hid (R.w0.heap.size<=R.w0.heap.size):=(show R.w0.heap.size<=R.w0.heap.size from lr_ _);go_wp2_with (at_builtin;(refine Qi_ _ rfl (.tmp 55) (.tmp 57) _ rfl R.w0.heap.size 3 i0 (I_ j_ 0) 1 8 underlying83 I.o.1 I.o.2.1 I.o.2.2.1 I.o.2.2.2 rfl dc_ (S_ A' ks.length c') ks.length (Qa_ ks) rfl (Mine.alloc P.o _) ⟨H.heap.size,0,none⟩ 1 1 [I_ j_ kc] rfl rfl (K8_ _ kc _) (K9_ _) mx_ oo so_ ?_);intro v' w6 B aB O;obtain⟨A6,c6,rfl,D,m6⟩:=RdI.appended f.o P.o a1.o bra B aB O)
      rw[<-Ke_]at m6;have al:=h_ D;replace P:=h_ m6;clear B aB O D m6;go_wp2;go_roundw
      case rel=>exact⟨M,ks++[kc],_,k,A6,c6,by rw[aT],aQ,aM,aL,by rw[aT];exact P,al⟩
      case measure=>exact ZG_ hi bf.o al.o (ac.o.weak (i':=1) (j':=0) oo oo)
    ·have aC:¬(a:Int) < (R.n:Int):=oo;have aE:decide ((a:Int) < (R.n:Int))=false:=df_ aC;have G:=HQ.o;rw[kt_ (show jN_ R.sg (some t)=false from df_ oo)]at G;clear hc ad c3;have ar:Hid (Xg_ R.sg=(KP_ (some t) ⟨22,noT,ks,false⟩).2):=(show _=_ by rw[bi.o,<-G]);have am:=h_ HI.o.unres;go_wp2_with fail
     refine(Yu_ R.U hi 0 (some t) _ 22 noT A' ks.length c' ks R.w0.heap.size _ am.o P.o bh.o).mono ?_;rintro e H ⟨rfl,k,h5,k5⟩;rw[<-ar.o]at h5;have f:Hid (RdI R 0 (Xg_ R.sg) k H):=h5;have F:Hid (Below w.heap.size w H):=(show Below w.heap.size w H from aN.o.trans (by have:=f.o.old;exact this.mono aR.o));have o:=h_ (ak.o.next f.o.old);clear h5 k5 am ar HQ G
     cases y:Xg_ R.sg with
     |none=>
      rw[y]at f;have hr:=af.o (by trivial) y;have p:RdI R 0 none k H:=f.o;obtain⟨a5,b5,bK,bP,l5,aA,a7,ab⟩:=id p;obtain⟨x0,x1,x2,x3,x4,xf,xz⟩:=aA.cs hi;obtain rfl:b5=true:=a7;have z:R.Ok:=p.ok;have C:=z.rd.below p.old;have a9:=z.len;subst hr;clear p aA ab x3 x4 z;rcases Nat.lt_or_ge a5 R.n with aD|bp
      ·obtain⟨x,hx⟩:∃x,R.sg[a5]? =some x:=⟨_,gE oo⟩;obtain⟨b6,off,hA,bo,e0,e1,e2,e3⟩:=Yv_ C aD hx;have J:(a5:Int) < (R.n:Int):=oo;rw[hA]at x0 |-
       clear C hx e0 e1 e3 hA;go_wp2;go_quiet (fail);go_wp2;refine bodyPost_ret (by simp[results,Tryz.results35,go_sem,];try rfl) rfl ?_;exact⟨Qb_ F.o (below_drewN br _),by first|exact⟨_,_,rfl,o.o.next (below_drewN br _)⟩|exact⟨_,rfl,o.o.next (below_drewN br _)⟩|exact⟨_,⟨_,rfl⟩,o.o.next (below_drewN br _)⟩⟩
      ·have J:¬(a5:Int) < (R.n:Int):=oo;have aE:decide ((a5:Int) < (R.n:Int))=false:=df_ J;clear C;go_wp2;refine bodyPost_ret (by simp[results,Tryz.results35,go_sem,];try rfl) rfl ?_;exact⟨F.o,by first|exact⟨_,_,rfl,o.o⟩|exact⟨_,rfl,o.o⟩|exact⟨_,⟨_,rfl⟩,o.o⟩⟩
     |some s=>
      rw[y]at f;obtain⟨b8,aH⟩:=ay.o s y;have hr:=ag.o (by trivial) s y;have p:Hid (RdI R 0 (some s) k H):=f;obtain⟨A6,c6,y2,y4,yf,yz,L⟩:=RdI.snps hi p.o;have HT:=h_ (X9_ A6 s.nodes.length c6 s.nodes H oo L.nps (h_ aH));clear aH L;rcases bft (Yb_ s.nodes)with q|q
      ·rw[ip_ q]at hr;rw[q]at HT;subst hr;clear q;go_wp2_with fail
       refine HT.o.mono ?_;rintro e w6 ⟨rfl,D⟩;obtain⟨A7,c7,z2,z4,zf,zz,aF⟩:=RdI.snps hi (p.o.next D);have S:=h_ (Qb_ F.o D);have av:=h_ (aF.more aR.o);clear y2 y4 yf yz D aF HT;go_wp2;refine bodyPost_ret (by simp[results,Tryz.results35,go_sem,];try rfl) rfl ?_;exact⟨S.o,A7,c7,rfl,av.o⟩
      ·rw[in_ (by rw[q];decide)]at hr;rw[q]at HT;subst hr;clear q;go_wp2_with fail
       refine HT.o.mono ?_;rintro e w6 ⟨rfl,D⟩;have S:=h_ (Qb_ F.o D);have V:=h_ (o.o.next D);clear y2 y4 yf yz D HT;go_wp2;refine bodyPost_ret (by simp[results,Tryz.results35,go_sem,];try rfl) rfl ?_;exact⟨S.o,by first|exact⟨_,_,rfl,V.o⟩|exact⟨_,rfl,V.o⟩|exact⟨_,⟨_,rfl⟩,V.o⟩⟩
end Go.Proofs.YtbiijipkgfpgoaaGreatDoor

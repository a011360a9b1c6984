/-
  Put together by program.
-/
import Derived.Test.YtbiijipkgfpgoaaGreatDoorMfG
import Derived.Laws.AppendOwnNone
set_option maxRecDepth 100000
set_option linter.all false
set_option maxHeartbeats 25600000
open Go.Proofs.Tryz
open Go.Value renaming int→I_,slice→S_,string→T_,bool→B_,pointer→P_,agg→A_,tuple→U_
open Go.IntKind renaming i64→j_
open Go.Obj renaming cells→C_
open Go.Ending renaming returned→R_
namespace Go.Proofs.YtbiijipkgfpgoaaGreatDoor
open Go.RowKit
theorem VE_ {R:RC} {d:Nat} {st:RdSt} {row row':ON} {w w1 w2:World} {B:Nat} {A:OA} {n c:Nat} {xs:List Value} (h:Hid (RdI R d st row w)) (k:Kr R.T row w1 row' w2) (m:Hid (Mine w B 3 1 A n c xs))
  (hb:Below w.heap.size w w1:=by repeat' (first|(with_reducible exact br)|(with_reducible refine Below.alloc ?_ ?_ _)|go_size)):Hid (Mine w2 B 3 1 A n c xs):=
 (show Mine w2 B 3 1 A n c xs from(h.o.next hb).keepI k (m.o.next hb))
theorem QS_ {T:Nat} {row0 row row':ON} {w0 w w1 w2:World} (h:Hid (Kr T row0 w0 row w)) (k:Kr T row w1 row' w2)
  (hb:Below w.heap.size w w1:=by repeat' (first|(with_reducible exact br)|(with_reducible refine Below.alloc ?_ ?_ _)|go_size)):Hid (Kr T row0 w0 row' w2):=
 (show Kr T row0 w0 row' w2 from(h.o.below hb).trans k)
theorem pst {F:FuncId} {a:Array Value} {W w w0:World} {I:ON->World->Prop} {T:Nat} {row0 row:ON} {v:Value} {G:Ending->World->Prop} (hc:Calls prog F a W (fun e w'=>e=R_ v/\∃row',I row' w'/\Kr T row W row' w')) (HK:Hid (Kr T row0 w0 row w)) (k:∀w' row',Hid (I row' w')->Hid (Kr T row0 w0 row' w')->G (R_ v) w')
  (hb:Below w.heap.size w W:=by repeat' (first|(with_reducible exact br)|(with_reducible refine Below.alloc ?_ ?_ _)|go_size)):Calls prog F a W G:=
 hc.mono (by rintro e w' ⟨rfl,row',h,hk⟩;exact k w' row' h (QS_ HK hk hb))
theorem rst {F:FuncId} {a:Array Value} {w w0:World} {R:RC} {d:Nat} {st:RdSt} {T:Nat} {row0 row:ON} {v:Value} {G:Ending->World->Prop} (hc:Calls prog F a w (RB_ v w)) (HI:Hid (RdI R d st row w)) (HK:Hid (Kr T row0 w0 row w)) (k:∀w',Hid (RdI R d st row w')->Hid (Kr T row0 w0 row w')->G (R_ v) w'):Calls prog F a w G:=
 hc.mono (by rintro e w' ⟨rfl,h⟩;exact k w' (HI.o.next h) (HK.o.below h))
theorem KA_ {i:Array Oper} {rest:List Oper} {o:Oper} {a:Act} {Q:Exit->Act->World->Prop} (s x:Operand) {R:RC} {d:Nat} {st:RdSt} {T:Nat} {row0 row:ON} {w w1:World} {A:OA} {b c:Nat} {ks:LI} {k:Int}
  (HI:Hid (RdI (R.res A) d st row w1)) (HK:Hid (Kr T row0 w row w1)) (l:Hid (Mine w1 w.heap.size 3 1 A b c (Qa_ ks))) (HB:Hid (R.w0.heap.size<=w.heap.size)) (m:o.guard=none) (ho:o.op=.call { callee:=.builtin .append,args:=#[s,x],argTypes:=#[83,83] }) (hs:a.eval s=S_ A b c) (hx:a.eval x=S_ (some ⟨w1.heap.size,0,none⟩) 1 1) (t:b<=100000)
  (h:∀A' c' w',Hid (RdI (R.res A') d st row w')->Hid (Kr T row0 w row w')->Hid (Mine w' w.heap.size 3 1 A' (b+1) c' (Qa_ (ks++[k])))->wpList prog i Q rest (a.put o.dst (S_ A' (b+1) c')) w'):wpList prog i Q (o::rest) a (w1.alloc (C_ #[I_ j_ k] 3)):=by
 obtain⟨i0,hi,p,q,r⟩:=info_parts QY_;have hz:=HK.o.size;refine Qi_ _ m s x _ ho w.heap.size 3 i0 (I_ j_ 0) 1 8 underlying83 hi p q r rfl dc_ (S_ A b c) b (Qa_ ks) hs (Mine.alloc l.o _) ⟨w1.heap.size,0,none⟩ 1 1 [I_ j_ k] hx rfl (K8_ _ k _) (K9_ _) mx_ oo so_ ?_;intro v' w5 f e n;obtain⟨A5,c5,rfl,h5,m5⟩:=RdI.appended HI.o l.o HB.o bra f e n;have j:=h_ ((HK.o.below bra).grown e (fun g e=>by rw[Q3_]at e;exact(Mine.blk l.o e).1));rw[<-Ke_]at m5;exact h A5 c5 w5 h5 j m5
theorem jO_ (w:World) (ks:LI) (h:ks.length<=100000):Mine (w.alloc (C_ (Qa_ ks).toArray 3)) w.heap.size 3 1 (some ⟨w.heap.size,0,none⟩) ks.length ks.length (Qa_ ks):=
 Mine.mk_own ⟨[],by simpa using Blk.new w 3 (Qa_ ks).toArray,by simp[Qa_]⟩ (by simp[Qa_]) (lr_ _) (lr_ _) mx_
theorem GW_ (w:World) (k:Int):Mine (w.alloc (C_ #[I_ j_ k] 3)) w.heap.size 3 1 (some ⟨w.heap.size,0,none⟩) 1 1 (Qa_ [k]):=jO_ w [k] sm_
theorem kid3 (w:World) (k l m:Int):Mine (w.alloc (C_ #[I_ j_ k,I_ j_ l,I_ j_ m] 3)) w.heap.size 3 1 (some ⟨w.heap.size,0,none⟩) 3 3 (Qa_ [k,l,m]):=jO_ w [k,l,m] sm_
theorem QP_ {n N:Nat} (h:n < N) (st:RdSt):Enough n N st:=fun s _=>oo
section
variable {R:RC} (U:Nat->Prop) (hi:R.imp=true) (d:Nat) (st:RdSt) (row:ON)
include hi
theorem Qdr_ (lo:Nat) (one:RdSt->PR) (HO:Hid (OneC R 202 d lo one)) (h1:∀st,Adv 1 1 st (one st).2) (m:BA) (N:Nat) (w:World) (hI:RdI { R with U:=U } d st row w) (a:LoB lo st) (hN:Enough R.n N st):
  Calls prog 165 #[P_ (some ⟨R.T,0,none⟩),T_ m,.func (.func 202) #[P_ (some ⟨R.T,0,none⟩)] #[]] w fun e w'=>∃(A:OA) (c:Nat),e=R_ (S_ A (QG_ R.sg one m N [] st).1.length c)/\Mine w' w.heap.size 3 1 A (QG_ R.sg one m N [] st).1.length c (Qa_ (QG_ R.sg one m N [] st).1)/\(QG_ R.sg one m N [] st).1.length<=301/\∃row',RdI (({ R with U:=U }:RC).res A) d (QG_ R.sg one m N [] st).2 row' w'/\Kr R.T row w row' w':=
 GZ_ { R with U:=U } hi d lo one HO h1 m N st row w hI a hN
end
theorem vC_ (R:RC) (hi:R.imp=true) (d lo:Nat) (one:RdSt->PR) (HO:Hid (OneC R 202 d lo one)) (h1:∀st,Adv 1 1 st (one st).2) (N:Nat) (k:Int) (st:RdSt) (row:ON) (w:World) (E:RdI R d st row w) (G:LoB lo st) (hN:R.n < N):
  Calls prog 237 #[P_ (some ⟨R.T,0,none⟩),I_ j_ k] w (QA_ R d row w (I_ j_ (Yg_ R.sg one N k st).1) (Yg_ R.sg one N k st).2):=by
 obtain⟨i0,F,I,J,f⟩:=info_parts QY_;have i:=h_ (ai_ F (ai_ I (ai_ J f)));clear F I J f;have P:=h_ E;have S:=h_ (Kr.refl R.T row w);have X:=h_ G;have HA:=h_ h1;have ah:=h_ E.lo;unfold QA_ Yg_;clear E G h1;go_enter func237,ntmps237;go_wp2_with fail
 refine pst (ZQ_ R hi d st row ⟨#[40]⟩ w P.o) S ?_;intro w1 K t y;have V:Hid (LoB lo (Qn_ R.sg st ⟨#[40]⟩)):=X.o.adv (Qq_ _ _);have h:=h_ (t.o.res_new (A:=some ⟨w1.heap.size,0,none⟩) (br.alloc (lr_ _) (C_ #[I_ j_ k] 3)) (fun g hg=>by simp at hg;subst hg;simp));have D:=h_ (GW_ w1 k);have b:=h_ t.o.lo;go_wp2_with fail
 refine(Qdr_ _ hi d _ K lo one HO HA.o ⟨#[41]⟩ N _ h.o V.o (QP_ hN _)).mono ?_;rintro e w2 ⟨A,c,rfl,m2,am,row2,h2,O⟩;have l:=VE_ h O D;have z:=QS_ y O;have v:=h_ h2.unres;have Y:=h_ m2;have f:=O.size;clear h2 O m2 h D;have aj:w1.heap.size<=w2.heap.size:=by simp at f;omega
 have ag:R.w0.heap.size<=w1.heap.size:=b.o.1;have U:Hid (Qa_ [k]++Qa_ (QG_ R.sg one ⟨#[41]⟩ N [] (Qn_ R.sg st ⟨#[40]⟩)).1=Qa_ (k::(QG_ R.sg one ⟨#[41]⟩ N [] (Qn_ R.sg st ⟨#[40]⟩)).1)):=(show _=_ by simp[Qa_]);rcases Y.o.own with⟨eA,h0,ad⟩|⟨g,eA,ai,al,ak,o⟩
 ·have H:Hid ((QG_ R.sg one ⟨#[41]⟩ N [] (Qn_ R.sg st ⟨#[40]⟩)).1=[]):=ln_ h0;have a:=h_ (fun(w':World) (E:RdI (R.res (some ⟨w1.heap.size,0,none⟩)) d (QG_ R.sg one ⟨#[41]⟩ N [] (Qn_ R.sg st ⟨#[40]⟩)).2 row2 w') (hm:Mine w' w1.heap.size 3 1 (some ⟨w1.heap.size,0,none⟩) 1 1 (Qa_ [k]))=>KK_ R hi d _ row2 ⟨#[41]⟩ 5 noT (some ⟨w1.heap.size,0,none⟩) 1 1 (k::(QG_ R.sg one ⟨#[41]⟩ N [] (Qn_ R.sg st ⟨#[40]⟩)).1) false w1.heap.size w' E.unres (by rw[H.o];exact hm) b.o);unfold QA_ at a;subst eA;subst ad;rw[h0];clear h0 f;go_wp2_with (at_builtin;(refine wpList_append_own_none rfl (.tmp 9) (.tmp 13) _ rfl w1.heap.size 3 i0 1 underlying83 i.o.1 (S_ (some ⟨w1.heap.size,0,none⟩) 1 1) 1 (Qa_ [k]) rfl l.o rfl ?_))
  go_wp2_with fail
  refine(a.o w2 v.o l.o).mono ?_;rintro e w3 ⟨rfl,L,h3,k3⟩;go_wp2;go_ret;exact⟨rfl,L,h3,z.o.trans k3⟩
 ·subst eA;have n:∀j u,(Qa_ (QG_ R.sg one ⟨#[41]⟩ N [] (Qn_ R.sg st ⟨#[40]⟩)).1)[j]? =some u->w2.cell? ((⟨g,0,none⟩:Addr).add j)=some u:=fun j u hj=>by
   obtain⟨rest,hb,_⟩:=o;rw[Addr.add_lit,hb.cell,Nat.zero_add];have ae:j < (Qa_ (QG_ R.sg one ⟨#[41]⟩ N [] (Qn_ R.sg st ⟨#[40]⟩)).1).length:=(gs_.1 hj).1;simpa[List.getElem?_append_left ae]using hj
  have s:=h_ n;have C:Hid (∀u∈Qa_ (QG_ R.sg one ⟨#[41]⟩ N [] (Qn_ R.sg st ⟨#[40]⟩)).1,u.oneCell'=true):=(show ∀u∈_,_ from fun u hu=>by
   simp only[Qa_,List.mem_map]at hu;obtain⟨x,_,rfl⟩:=hu
   rfl)
  have B:Hid ((Qa_ (QG_ R.sg one ⟨#[41]⟩ N [] (Qn_ R.sg st ⟨#[40]⟩)).1).length=(QG_ R.sg one ⟨#[41]⟩ N [] (Qn_ R.sg st ⟨#[40]⟩)).1.length * 1):=(show _=_ by simp[Qa_]);clear o n f;go_wp2_with (at_builtin;(refine Qi_ _ rfl (.tmp 9) (.tmp 13) _ rfl w1.heap.size 3 i0 (I_ j_ 0) 1 8 underlying83 i.o.1 i.o.2.1 i.o.2.2.1 i.o.2.2.2 rfl dc_ (S_ (some ⟨w1.heap.size,0,none⟩) 1 1) 1 (Qa_ [k]) rfl l.o ⟨g,0,none⟩ _ c _ rfl B.o s.o C.o mx_ oo oo ?_);intro v' w4 m r p;obtain⟨A4,aa,rfl,h4,m4⟩:=RdI.appended v.o l.o b.o.1 br m r p)
  have T:=h_ (z.o.grown r (fun q hq=>by rw[Q3_]at hq;have:=(Mine.blk l.o hq).1;have:=y.o.size;omega));rw[U.o]at m4;have Q:=h_ h4.unres;have Z:=h_ m4;clear m r p h4 m4;have a:=h_ (KK_ R hi d _ row2 ⟨#[41]⟩ 5 noT A4 _ aa (k::(QG_ R.sg one ⟨#[41]⟩ N [] (Qn_ R.sg st ⟨#[40]⟩)).1) false w1.heap.size w4 Q.o Z.o b.o);unfold QA_ at a;go_wp2_with fail
  refine a.o.mono ?_;rintro e w5 ⟨rfl,M,h5,k5⟩;go_wp2;go_ret;exact⟨rfl,M,h5,T.o.trans k5⟩
theorem k9_ (w:World):∃W,W=(((((((w.alloc (C_ #[T_ ⟨#[124,124]⟩] 9)).alloc (C_ #[T_ ⟨#[38,38]⟩] 9)).alloc (C_ #[T_ ⟨#[61,61]⟩] 9)).alloc (C_ #[T_ ⟨#[60]⟩] 9)).alloc (C_ #[T_ ⟨#[43]⟩,T_ ⟨#[45]⟩] 9)).alloc (C_ #[T_ ⟨#[42]⟩] 9)).alloc (C_ #[S_ (some ⟨w.heap.size,0,none⟩) 1 1,S_ (some ⟨w.heap.size+1,0,none⟩) 1 1,S_ (some ⟨w.heap.size+1+1,0,none⟩) 1 1,S_ (some ⟨w.heap.size+1+1+1,0,none⟩) 1 1,S_ (some ⟨w.heap.size+1+1+1+1,0,none⟩) 2 2,S_ (some ⟨w.heap.size+1+1+1+1+1,0,none⟩) 1 1] 31))/\Below w.heap.size w W/\Blk W (w.heap.size) 9 #[T_ ⟨#[124,124]⟩]/\Blk W (w.heap.size+1) 9 #[T_ ⟨#[38,38]⟩]/\Blk W (w.heap.size+1+1) 9 #[T_ ⟨#[61,61]⟩]/\Blk W (w.heap.size+1+1+1) 9 #[T_ ⟨#[60]⟩]/\Blk W (w.heap.size+1+1+1+1) 9 #[T_ ⟨#[43]⟩,T_ ⟨#[45]⟩]/\Blk W (w.heap.size+1+1+1+1+1) 9 #[T_ ⟨#[42]⟩]:=by
 refine⟨_,rfl,grow_,?_,?_,?_,?_,?_,?_⟩
 ·have h:=Blk.new w 9 #[T_ ⟨#[124,124]⟩];exact((((((h.alloc _).alloc _).alloc _).alloc _).alloc _).alloc _)
 ·have h:=Blk.new (w.alloc (C_ #[T_ ⟨#[124,124]⟩] 9)) 9 #[T_ ⟨#[38,38]⟩];simp only[ws_]at h;exact(((((h.alloc _).alloc _).alloc _).alloc _).alloc _)
 ·have h:=Blk.new ((w.alloc (C_ #[T_ ⟨#[124,124]⟩] 9)).alloc (C_ #[T_ ⟨#[38,38]⟩] 9)) 9 #[T_ ⟨#[61,61]⟩];simp only[ws_]at h;exact((((h.alloc _).alloc _).alloc _).alloc _)
 ·have h:=Blk.new (((w.alloc (C_ #[T_ ⟨#[124,124]⟩] 9)).alloc (C_ #[T_ ⟨#[38,38]⟩] 9)).alloc (C_ #[T_ ⟨#[61,61]⟩] 9)) 9 #[T_ ⟨#[60]⟩];simp only[ws_]at h;exact(((h.alloc _).alloc _).alloc _)
 ·have h:=Blk.new ((((w.alloc (C_ #[T_ ⟨#[124,124]⟩] 9)).alloc (C_ #[T_ ⟨#[38,38]⟩] 9)).alloc (C_ #[T_ ⟨#[61,61]⟩] 9)).alloc (C_ #[T_ ⟨#[60]⟩] 9)) 9 #[T_ ⟨#[43]⟩,T_ ⟨#[45]⟩];simp only[ws_]at h;exact((h.alloc _).alloc _)
 ·have h:=Blk.new (((((w.alloc (C_ #[T_ ⟨#[124,124]⟩] 9)).alloc (C_ #[T_ ⟨#[38,38]⟩] 9)).alloc (C_ #[T_ ⟨#[61,61]⟩] 9)).alloc (C_ #[T_ ⟨#[60]⟩] 9)).alloc (C_ #[T_ ⟨#[43]⟩,T_ ⟨#[45]⟩] 9)) 9 #[T_ ⟨#[42]⟩];simp only[ws_]at h;exact(h.alloc _)
def OffM (b:Bool) (j:Nat):Prop:=0 < j->b=false
theorem qf_ (R:RC) (hi:R.imp=true) (d:Nat) (st:RdSt) (row:ON) (w:World) (hI:RdI R d st row w) (l:Int) (t:BA) (hl:(l=0/\t=⟨#[124,124]⟩)\/(l=1/\t=⟨#[38,38]⟩)\/(l=2/\t=⟨#[61,61]⟩)\/(l=3/\t=⟨#[60]⟩)\/(l=5/\t=⟨#[42]⟩)):
  Calls prog 282 #[P_ (some ⟨R.T,0,none⟩),I_ j_ l] w (RB_ (T_ (if isM R.sg st t=true then t else noT)) w):=by
 have g:=h_ (fun W (c:Below w.heap.size w W)=>Vj_ R hi d st row t W (hI.next c));obtain⟨W,c,x,B0,B1,B2,B3,B4,B5⟩:=k9_ w;replace c:=h_ c;generalize isM R.sg st t=M at g |-
 generalize m:(if M=true then t else noT)=mk;have n:=h_ m.symm;clear m;clear hI;rcases hl with⟨rfl,rfl⟩|⟨rfl,rfl⟩|⟨rfl,rfl⟩|⟨rfl,rfl⟩|⟨rfl,rfl⟩
 have k:=B0
 rotate_left
 have k:=B1
 rotate_left
 have k:=B2
 rotate_left
 have k:=B3
 rotate_left
 have k:=B5
 all_goals
  clear B0 B1 B2 B3 B4 B5;go_enter func282,ntmps282;go_upto_region 3 with fail
  rw[<-c.o];clear c;go_loopw [20] (fun i wr=>∃j:Nat,j<=1/\i=I_ j_ j/\OffM M j/\Below W.heap.size W wr) (fun i _=>1 - (intOf i).toNat)
  case atStart=>exact⟨0,oo,rfl,(fun h=>oo),br⟩
  case round=>
   obtain⟨j,hj,rfl,p,s⟩:=hrel;have q:=k.next s;have kz:=q.lt;have k0:=q.q0;have b:=Qb_ x s;clear q;rcases (show j=0\/j=1 from oo)with rfl|rfl
   ·have o:=h_ (g.o _ b);rcases Bool.eq_false_or_eq_true M with a|a
    ·rw[a]at o;obtain rfl:=n.o.trans (ip_ a);clear n a;go_wp2_with fail
     refine o.o.mono ?_;rintro e w2 ⟨rfl,r⟩;go_wp2;go_ret;exact⟨rfl,Qb_ b r⟩
    ·rw[a]at o;have f:OffM M 1:=fun _=>a
     clear a;go_wp2_with fail
     refine o.o.mono ?_;rintro e w2 ⟨rfl,r⟩;have v:=Qb_ s r;clear k0;go_wp2;go_roundw
     case rel=>exact⟨1,oo,by go_num,f,v⟩
     case measure=>simp[intOf]
   ·obtain rfl:mk=noT:=(by rw[n.o,p oo,in_ dc_]);clear n;go_wp2;go_ret;exact⟨rfl,b⟩
theorem Qhl_ (sg:List SgP) (st:RdSt):KY_ sg st 4=if isM sg st ⟨#[43]⟩=true then ⟨#[43]⟩else if isM sg st ⟨#[45]⟩=true then ⟨#[45]⟩else noT:=rfl
theorem jd_ (R:RC) (hi:R.imp=true) (d:Nat) (st:RdSt) (row:ON) (w:World) (t:RdI R d st row w):
  Calls prog 282 #[P_ (some ⟨R.T,0,none⟩),I_ j_ 4] w (RB_ (T_ (KY_ R.sg st 4)) w):=by
 have r:=h_ (fun W (n:Below w.heap.size w W)=>Vj_ R hi d st row ⟨#[43]⟩ W (t.next n));have s:=h_ (fun W (n:Below w.heap.size w W)=>Vj_ R hi d st row ⟨#[45]⟩ W (t.next n));have k:=h_ (Qhl_ R.sg st);generalize KY_ R.sg st 4=x at k |-
 clear t;go_enter func282,ntmps282;go_upto_region 3 with fail
 obtain⟨W,n,v,B0,B1,B2,B3,K0,B5⟩:=k9_ w;rw[<-n];clear n B0 B1 B2 B3 B5;go_loopw [20] (fun i wr=>∃j:Nat,j<=2/\i=I_ j_ j/\Hid ((0 < j->isM R.sg st ⟨#[43]⟩=false)/\(1 < j->isM R.sg st ⟨#[45]⟩=false))/\Below W.heap.size W wr) (fun i _=>2 - (intOf i).toNat)
 case atStart=>exact⟨0,oo,rfl,(show(0 < 0->isM R.sg st ⟨#[43]⟩=false)/\(1 < 0->isM R.sg st ⟨#[45]⟩=false)from⟨fun h=>oo,fun h=>oo⟩),br⟩
 case round=>
  obtain⟨j,hj,rfl,f,q⟩:=hrel;have p:=K0.next q;have kz:=p.lt;have k0:=p.q0;have k1:=p.q1;have c:=Qb_ v q;clear p;rcases (show j=0\/j=1\/j=2 from oo)with rfl|rfl|rfl
  ·have g:=h_ (r.o _ c);rcases bft (isM R.sg st ⟨#[43]⟩)with a|a
   ·rw[a]at g;have o:x=⟨#[43]⟩:=(by rw[k.o,a,ip_ rfl]);subst o;clear k a;go_wp2_with fail
    refine g.o.mono ?_;rintro e w2 ⟨rfl,l⟩;go_wp2;go_ret;exact⟨rfl,Qb_ c l⟩
   ·rw[a]at g;have b:Hid ((0 < 1->isM R.sg st ⟨#[43]⟩=false)/\(1 < 1->isM R.sg st ⟨#[45]⟩=false)):=(show(0 < 1->isM R.sg st ⟨#[43]⟩=false)/\(1 < 1->isM R.sg st ⟨#[45]⟩=false)from⟨fun _=>a,fun h=>oo⟩);clear a;go_wp2_with fail
    refine g.o.mono ?_;rintro e w2 ⟨rfl,l⟩;have m:=Qb_ q l;clear k0 k1;go_wp2;go_roundw
    case rel=>exact⟨1,oo,by go_num,b,m⟩
    case measure=>simp[intOf]
  ·have g:=h_ (s.o _ c);rcases bft (isM R.sg st ⟨#[45]⟩)with a|a
   ·rw[a]at g;have o:x=⟨#[45]⟩:=(by rw[k.o,(f.o.1 oo),in_ dc_,a,ip_ rfl]);subst o;clear k a;go_wp2_with fail
    refine g.o.mono ?_;rintro e w2 ⟨rfl,l⟩;go_wp2;go_ret;exact⟨rfl,Qb_ c l⟩
   ·rw[a]at g;have b:Hid ((0 < 2->isM R.sg st ⟨#[43]⟩=false)/\(1 < 2->isM R.sg st ⟨#[45]⟩=false)):=(show(0 < 2->isM R.sg st ⟨#[43]⟩=false)/\(1 < 2->isM R.sg st ⟨#[45]⟩=false)from⟨fun _=>(f.o.1 oo),fun _=>a⟩);clear a;go_wp2_with fail
    refine g.o.mono ?_;rintro e w2 ⟨rfl,l⟩;have m:=Qb_ q l;clear k0 k1;go_wp2;go_roundw
    case rel=>exact⟨2,oo,by go_num,b,m⟩
    case measure=>simp[intOf]
  ·have o:x=noT:=(by rw[k.o,(f.o.1 oo),in_ dc_,(f.o.2 oo),in_ dc_]);subst o;clear k;go_wp2;go_ret;exact⟨rfl,c⟩
theorem qe_ (R:RC) (hi:R.imp=true) (d:Nat) (st:RdSt) (row:ON) (l:Nat) (hl:l < 6) (w:World) (hI:RdI R d st row w):
  Calls prog 282 #[P_ (some ⟨R.T,0,none⟩),I_ j_ l] w (RB_ (T_ (KY_ R.sg st l)) w):=by
 rcases (show l=4\/l=0\/l=1\/l=2\/l=3\/l=5 from oo)with rfl|rfl|rfl|rfl|rfl|rfl
 ·exact jd_ R hi d st row w hI
 all_goals exact qf_ R hi d st row w hI _ _ sm_
def FnAt (sg:List SgP) (st:RdSt) (i N:Nat):Prop:=∃f,sg.length<=f+i/\fnF sg st f i=N
theorem Qc1_ {sg:List SgP} {st:RdSt} {i N:Nat} (h:FnAt sg st i N) (hn:Kp_ sg st i=false):N=i:=by
 obtain⟨f,_,h⟩:=h
 cases f with
 |zero=>exact h.symm
 |succ f=>unfold fnF at h;rw[hn,in_ dc_]at h;exact h.symm
theorem Qc0_ {sg:List SgP} {st:RdSt} {i N:Nat} (h:FnAt sg st i N) (hn:Kp_ sg st i=true) (hc:((Qx_ sg st (i+1)).2.1.toList==[44])=true):FnAt sg st (i+2) N:=by
 obtain⟨f,hf,h⟩:=h;obtain⟨s,rfl,hl⟩:=Z7_ hn
 cases f with
 |zero=>omega
 |succ f=>unfold fnF at h;rw[hn,ip_ rfl,hc,ip_ rfl]at h;exact⟨f,oo,h⟩
theorem QcZ_ {sg:List SgP} {st:RdSt} {i N:Nat} (h:FnAt sg st i N) (hn:Kp_ sg st i=true) (hc:((Qx_ sg st (i+1)).2.1.toList==[44])=false):N=i+1:=by
 obtain⟨f,hf,h⟩:=h;obtain⟨s,rfl,hl⟩:=Z7_ hn
 cases f with
 |zero=>omega
 |succ f=>unfold fnF at h;rw[hn,ip_ rfl,hc,in_ dc_]at h;exact h.symm
theorem QaZ_ (R:RC) (hi:R.imp=true) (d:Nat) (st:RdSt) (row:ON) (w:World) (I:RdI R d st row w):
  Calls prog 298 #[P_ (some ⟨R.T,0,none⟩)] w (RB_ (B_ (fnB R.sg st)) w):=by
 obtain⟨N,P⟩:=ex_ (fnF R.sg st (R.sg.length+1) 1);have j:Hid (fnB R.sg st=(((Qx_ R.sg st N).2.1.toList==[41])&&((Qx_ R.sg st (N+1)).2.1.toList==[61,62]))):=(show _=_ by unfold fnB;rw[P]);have C:Hid (FnAt R.sg st 1 N):=⟨R.sg.length+1,oo,P⟩;have O:=h_ (show R.sg.length<=3000 by rw[I.ok.len];exact I.ok.most);have q:=h_ (fun(i:Nat) (hi2:i<=100000) W (Q:Below w.heap.size w W)=>YH_ R hi d st row i W (I.next Q) hi2);have K:=h_ (fun(i:Nat) (hi2:i<=100000) W (Q:Below w.heap.size w W)=>KM_ R hi d st row i W (I.next Q) hi2);generalize fnB R.sg st=B at j |-
 have X:=ky_;clear I P;go_enter func298,ntmps298;go_wp2;go_loopw [3] (fun n wr=>∃i:Nat,n=I_ j_ i/\i<=3002/\Hid (FnAt R.sg st i N)/\Below w.heap.size w wr) (fun n _=>4000 - (intOf n).toNat)
 case atStart=>exact⟨1,rfl,oo,C,br⟩
 case round=>
  clear C;obtain⟨i,rfl,Y,k,A⟩:=hrel;rcases bft (Kp_ R.sg st i)with o|o
  ·have Z:i < 3000:=(by obtain⟨s,_,hl⟩:=Z7_ o;have:=O.o;omega);have c:=h_ (K.o i oo _ A);rw[o]at c;have E:=h_ (fun h=>Qc0_ k.o o h);have D:=h_ (fun h=>QcZ_ k.o o h);clear o k;go_wp2_with fail
   refine c.o.mono ?_;rintro e w2 ⟨rfl,F⟩;have g:=Qb_ A F;clear F A c;have l:=q.o (i+1) oo _ g;rw[show((i+1:Nat):Int)=(i:Int)+1 from oo]at l;have m:=h_ l;clear l;generalize T:Qx_ R.sg st (i+1)=x at m E D;obtain⟨xk,L,xp,xz⟩:=x;dsimp only at m E D;go_wp2_with fail
   refine m.o.mono ?_;rintro e w3 ⟨rfl,g3⟩;have v:=Qb_ g g3;clear g3 g m;rcases bft (L.toList==[44])with J|J
   ·have S:(L.toList != [44])=false:=(by rw[bne,J];rfl);have M:=h_ (E.o J);clear E D T;go_wp2;refine⟨⟨i+2,by go_num,oo,M,v⟩,?_⟩;simp[intOf];omega
   ·have S:(L.toList != [44])=true:=(by rw[bne,J];rfl);obtain rfl:N=i+1:=D.o J;rw[T]at j;clear E D;have l:=q.o (i+1+1) oo;rw[show((i+1+1:Nat):Int)=(i:Int)+1+1 from oo]at l;have p:=q.o (i+1) oo _ v;rw[show((i+1:Nat):Int)=(i:Int)+1 from oo]at p;rw[T]at p;have a:=h_ l;have b:=h_ p;clear l p K q;generalize z:Qx_ R.sg st (i+1+1)=V at a j;obtain⟨bk,r,bp,bz⟩:=V;dsimp only at b a j;clear z;go_wp2_with fail
    refine b.o.mono ?_;rintro e wa ⟨rfl,G⟩;have f:=Qb_ v G;clear G b;rcases bft (L.toList==[41])with h1|h1
    ·have t:B=(r.toList==[61,62]):=(by rw[j.o,h1,Bool.true_and]);subst t;go_wp2_with fail
     refine(a.o _ f).mono ?_;rintro e wb ⟨rfl,H⟩;have y:=Qb_ f H;clear H a;go_wp2;go_ret;exact⟨rfl,y⟩
    ·have t:B=false:=(by rw[j.o,h1,Bool.false_and]);subst t;go_wp2;go_ret;exact⟨rfl,f⟩
  ·obtain rfl:N=i:=Qc1_ k.o o;have c:=h_ (K.o N oo _ A);rw[o]at c;clear o k;go_wp2_with fail
   refine c.o.mono ?_;rintro e w2 ⟨rfl,F⟩;have g:=Qb_ A F;clear F A c;have l:=q.o (N+1) oo;rw[show((N+1:Nat):Int)=(N:Int)+1 from oo]at l;have a:=h_ l;have b:=h_ (q.o N oo _ g);clear l K q;generalize U:Qx_ R.sg st (N)=xa at b j;generalize z:Qx_ R.sg st (N+1)=V at a j;obtain⟨ak,at_,ap,az⟩:=xa;obtain⟨bk,r,bp,bz⟩:=V;dsimp only at b a j;clear U z;go_wp2_with fail
   refine b.o.mono ?_;rintro e wa ⟨rfl,G⟩;have f:=Qb_ g G;clear G b;rcases bft (at_.toList==[41])with h1|h1
   ·have t:B=(r.toList==[61,62]):=(by rw[j.o,h1,Bool.true_and]);subst t;go_wp2_with fail
    refine(a.o _ f).mono ?_;rintro e wb ⟨rfl,H⟩;have y:=Qb_ f H;clear H a;go_wp2;go_ret;exact⟨rfl,y⟩
   ·have t:B=false:=(by rw[j.o,h1,Bool.false_and]);subst t;go_wp2;go_ret;exact⟨rfl,f⟩
def Need (n:Nat) (st:RdSt) (r f:Nat):Prop:=r<=f/\∀s,st=some s->(n - s.at_) * 14+r<=f
theorem Need.same {n r r' f i j:Nat} {st st':RdSt} (h:Need n st r (f+1)) (hr:r'+1<=r) (k:Adv i j st st'):Need n st' r' f:=
 ⟨by have:=h.1;omega,fun t e=>by
  obtain⟨s,e2,h1,_⟩:=k t e;have:=h.2 s e2;have:n - t.at_<=n - s.at_:=oo;omega⟩
theorem Need.next {n r r' f i j:Nat} {s:PS} {st':RdSt} (h:Need n (some s) r (f+1)) (a:s.at_ < n) (k:Adv (i+1) j (some s) st') (hr:r'<=13):Need n st' r' f:=by
 have h2:=h.2 s rfl;have hD:(n - s.at_)=(n - s.at_ - 1)+1:=oo;refine⟨oo,fun t e=>?_⟩;obtain⟨s',e2,h1,_⟩:=k t e;obtain rfl:=oi_ e2;have:n - t.at_<=n - s.at_ - 1:=oo;omega
structure EC (R:RC) (N f:Nat):Prop where
 value:∀(U:Nat->Prop) (d:Nat) (st:RdSt) (row:ON) (w:World),RdI { R with U:=U } d st row w->Need R.n st 11 f->d+f<=100000->Calls prog 202 #[P_ (some ⟨R.T,0,none⟩)] w (QA_ { R with U:=U } d row w (I_ j_ (Qd_ R.sg N f .value d st).1) (Qd_ R.sg N f .value d st).2)
 pick:∀(U:Nat->Prop) (d:Nat) (st:RdSt) (row:ON) (w:World),RdI { R with U:=U } d st row w->Need R.n st 10 f->d+f<=100000->Calls prog 236 #[P_ (some ⟨R.T,0,none⟩)] w (QA_ { R with U:=U } d row w (I_ j_ (Qd_ R.sg N f .pick d st).1) (Qd_ R.sg N f .pick d st).2)
 chain:∀(U:Nat->Prop) (l d:Nat) (st:RdSt) (row:ON) (w:World),RdI { R with U:=U } d st row w->l<=6->Need R.n st (9 - l) f->d+f<=100000->Calls prog 261 #[P_ (some ⟨R.T,0,none⟩),I_ j_ l] w (QA_ { R with U:=U } d row w (I_ j_ (Qd_ R.sg N f (.chain l) d st).1) (Qd_ R.sg N f (.chain l) d st).2)
 end_:∀(U:Nat->Prop) (d:Nat) (st:RdSt) (row:ON) (w:World),RdI { R with U:=U } d st row w->Need R.n st 2 f->d+f<=100000->Calls prog 281 #[P_ (some ⟨R.T,0,none⟩)] w (QA_ { R with U:=U } d row w (I_ j_ (Qd_ R.sg N f .end_ d st).1) (Qd_ R.sg N f .end_ d st).2)
 base:∀(U:Nat->Prop) (d:Nat) (st:RdSt) (row:ON) (w:World),RdI { R with U:=U } d st row w->Need R.n st 1 f->d+f<=100000->Calls prog 294 #[P_ (some ⟨R.T,0,none⟩)] w (QA_ { R with U:=U } d row w (I_ j_ (Qd_ R.sg N f .base d st).1) (Qd_ R.sg N f .base d st).2)
 stmt:∀(U:Nat->Prop) (b:Bool) (d:Nat) (st:RdSt) (row:ON) (w:World),RdI { R with U:=U } d st row w->Need R.n st 12 f->d+f<=100000->Calls prog 208 #[P_ (some ⟨R.T,0,none⟩),B_ b] w (QA_ { R with U:=U } d row w (I_ j_ (Qd_ R.sg N f (.stmt b) d st).1) (Qd_ R.sg N f (.stmt b) d st).2)
 block:∀(U:Nat->Prop) (d:Nat) (st:RdSt) (row:ON) (w:World),RdI { R with U:=U } d st row w->Need R.n st 13 f->d+f<=100000->Calls prog 167 #[P_ (some ⟨R.T,0,none⟩)] w (QA_ { R with U:=U } d row w (I_ j_ (Qd_ R.sg N f .block d st).1) (Qd_ R.sg N f .block d st).2)
theorem EC.one {R:RC} {N f:Nat} (h:EC R N f) {d r:Nat} (hd:d+f<=100000) {s:PS} (hn:Need R.n (some s) r (f+1)) (b:s.at_ < R.n):OneC R 202 d (s.at_+1) (Qd_ R.sg N f .value d):=
 fun U st row w hI a=>h.value U d st row w hI (by
  have h2:=hn.2 s rfl;refine⟨oo,fun t e=>?_⟩;have:=a t e;have:R.n - t.at_<=R.n - s.at_ - 1:=oo;omega) hd
theorem qH_ {R:RC} {d:Nat} {st:RdSt} {row:ON} {w:World} (hi:R.imp=true) (h:RdI R (d+1) st row w):
  w.cell? ⟨R.T,3,none⟩=some (I_ j_ ((d:Int)+1))/\(∀i,w.frozen? ⟨R.T,i,none⟩=false)/\R.T < w.heap.size/\RdI R d st row (w.setCell ⟨R.T,3,none⟩ (I_ j_ d))/\Kr R.T row w row (w.setCell ⟨R.T,3,none⟩ (I_ j_ d)):=by
 obtain⟨a,b,AN,cN,l,hc,e,c⟩:=h;obtain⟨c0,c2,c3,c4,c5,cf,cz⟩:=hc.ci hi;have hF:=RdI.nest1 hi hc e c (u:=(d:Int)) (d':=d) rfl;exact⟨by rw[c3];simp,cf,cz,hF.1,hF.2⟩
theorem QdQ_ (R:RC) (hi:R.imp=true) (N f:Nat) (U:EC R N f) (d:Nat) (st:RdSt) (row:ON) (w:World) (T:RdI R d st row w) (J:Need R.n st 10 (f+1)) (hd:d+(f+1)<=100000):
  Calls prog 236 #[P_ (some ⟨R.T,0,none⟩)] w (QA_ R d row w (I_ j_ (Vq_ R.sg (Qd_ R.sg N f) d st).1) (Vq_ R.sg (Qd_ R.sg N f) d st).2):=by
 have D:=h_ T;have F:=h_ (Kr.refl R.T row w);have A:=J.same (r':=9) oo (Xq_ d st);have B:=h_ (fun(row:ON) (W:World) (h:RdI R (d+1) (KI_ d st) row W)=>U.chain R.U 0 (d+1) (KI_ d st) row W h oo A oo);have a:=(Xq_ d st).trans (QB_ (sg:=R.sg) (N:=N) f (.chain 0) (d+1) (KI_ d st));have I:∀(d':Nat) (row:ON) (W:World) (t:PS),RdI R d' (some t) row W->t.at_<=R.n:=fun d' row W t h=>(h.le rfl).1
 have m:=T.ok.len;unfold QA_ at B |-
 unfold Vq_;dsimp only;generalize Qd_ R.sg N f (.chain 0) (d+1) (KI_ d st)=r at B a |-
 obtain⟨k0,c⟩:=r;dsimp only at B a |-
 rcases bft (isM R.sg c ⟨#[63]⟩)with j|j
 ·rw[ip_ j];have K:=Qy_ j;obtain⟨t,et,ae⟩:=Xe_ j;obtain⟨s,es,ha,_⟩:=a t et;subst es;have L:s.at_ < R.n:=oo;have k:=h_ (fun(row:ON) (W:World) (h:RdI R (d+1) (Qf_ c) row W)=>U.pick R.U (d+1) (Qf_ c) row W h (J.next L (a.trans (Qh_ _)) oo) oo);have b:=(a.trans (Qh_ c)).trans (QB_ (sg:=R.sg) (N:=N) f .pick (d+1) (Qf_ c));unfold QA_ at k;generalize Qd_ R.sg N f .pick (d+1) (Qf_ c)=r2 at k b |-
  obtain⟨k1,st2⟩:=r2;dsimp only at k b |-
  have l:=h_ (fun(row:ON) (W:World) (h:RdI R (d+1) (Qn_ R.sg st2 ⟨#[58]⟩) row W)=>U.pick R.U (d+1) (Qn_ R.sg st2 ⟨#[58]⟩) row W h (J.next L (b.trans (Qq_ _ _)) oo) oo);unfold QA_ at l;generalize Qd_ R.sg N f .pick (d+1) (Qn_ R.sg st2 ⟨#[58]⟩)=r3 at l |-
  obtain⟨k2,af⟩:=r3;dsimp only at l |-
  have z:=h_ K;have y:=h_ j;clear T J a b I m j K et ha ae A;go_enter func236,ntmps236;go_wp2_with fail
  refine pst (UT_ R hi d (some s) row w D.o oo) F ?_;intro w1 O o q;go_wp2_with fail
  refine pst (B.o _ _ o.o) q ?_;intro w2 row2 p v;go_wp2_with fail
  refine(YP_ R hi (d+1) c row2 ⟨#[63]⟩ w2 p.o).mono ?_;rw[y.o,z.o];rintro e w3 ⟨rfl,n,H,M⟩;have x:=QS_ v M;have V:=h_ H;clear H M;go_wp2_with fail
  refine pst (k.o _ _ V.o) x ?_;intro w4 P X aa;go_wp2_with fail
  refine pst (ZQ_ R hi (d+1) st2 P ⟨#[58]⟩ w4 X.o) aa ?_;intro w5 ah Y ab;go_wp2_with fail
  refine pst (l.o _ _ Y.o) ab ?_;intro w6 Q E ac;have G:=h_ E.o.lo;go_wp2_with fail
  refine pst (addK R hi (d+1) af Q 8 noT (some ⟨w6.heap.size,0,none⟩) 3 3 [k0,k1,k2] false w6.heap.size _ (E.o.alloc _) (kid3 w6 k0 k1 k2) G.o) ac ?_;intro w7 S Z ad;obtain⟨c3,cf,cz,g,i⟩:=qH_ hi Z.o;have C:=h_ (ai_ g (ad.o.trans i));clear g i;go_wp2;go_ret;exact⟨rfl,S,C.o.1,C.o.2⟩
 ·rw[in_ (by rw[j];decide)];have z:=h_ (QD_ j);have y:=h_ j;clear T J a I m j A;go_enter func236,ntmps236;go_wp2_with fail
  refine pst (UT_ R hi d st row w D.o oo) F ?_;intro w1 O o q;go_wp2_with fail
  refine pst (B.o _ _ o.o) q ?_;intro w2 row2 p v;go_wp2_with fail
  refine(YP_ R hi (d+1) c row2 ⟨#[63]⟩ w2 p.o).mono ?_;rw[y.o,z.o];rintro e w3 ⟨rfl,n,H,M⟩;have x:=QS_ v M;obtain⟨c3,cf,cz,g,i⟩:=qH_ hi H;have C:=h_ (ai_ g (x.o.trans i));clear H M g i;go_wp2;go_ret;exact⟨rfl,n,C.o.1,C.o.2⟩
theorem QfC_ {sg:List SgP} {st:RdSt}:∀{l:List BA},(∀m∈l,(m.toList==[])=false)->((Zz_ sg st l).toList==[])=false->isM sg st (Zz_ sg st l)=true:=by
 intro l
 induction l with
 |nil=>intro _ h;exact absurd X8_ (by rw[show(noT.toList==[])=false from h];decide)
 |cons m l ih=>
  intro hm h;unfold Zz_ at h |-
  rcases bft (isM sg st m)with e|e
  ·rw[ip_ e];exact e
  ·rw[in_ (by rw[e];decide)]at h |-
   exact ih (fun x hx=>hm x (by simp[hx])) h
theorem Wf_ {l:List UInt8} (h:(l==[])=false):((⟨l.toArray⟩:BA).toList==[])=false:=by rw[ByteArray.toList_eq];simpa using h
theorem qD_ (l:Nat):∀m∈Zg_ l,(m.toList==[])=false:=by
 unfold Zg_;intro m a;split at a
 ·simp at a;subst a;exact Wf_ (l:=[124,124]) rfl
 ·split at a
  ·simp at a;subst a;exact Wf_ (l:=[38,38]) rfl
  ·split at a
   ·simp at a;subst a;exact Wf_ (l:=[61,61]) rfl
   ·split at a
    ·simp at a;subst a;exact Wf_ (l:=[60]) rfl
    ·split at a
     ·simp at a;rcases a with rfl|rfl
      ·exact Wf_ (l:=[43]) rfl
      ·exact Wf_ (l:=[45]) rfl
     ·simp at a;subst a;exact Wf_ (l:=[42]) rfl
theorem qC_ {sg:List SgP} {st:RdSt} {l:Nat} (h:((KY_ sg st l).toList==[])=false):isM sg st (KY_ sg st l)=true:=QfC_ (qD_ l) h
theorem QaL_ (R:RC) (hi:R.imp=true) (N f:Nat) (hN:R.n < N) (HE:EC R N f) (l d:Nat) (hl:l<=6) (st:RdSt) (row:ON) (w:World) (hI:RdI R d st row w) (hn:Need R.n st (9 - l) (f+1)) (hd:d+(f+1)<=100000):
  Calls prog 261 #[P_ (some ⟨R.T,0,none⟩),I_ j_ l] w (QA_ R d row w (I_ j_ (Xc_ R.sg (Qd_ R.sg N f) N l d st).1) (Xc_ R.sg (Qd_ R.sg N f) N l d st).2):=by
 have bd:=h_ hI;have ak:=h_ (Kr.refl R.T row w);have aM:=h_ hI.lo;unfold QA_;unfold Xc_;by_cases h6:l=6
 ·rw[ip_ h6];have B:=h_ (HE.end_ R.U d st row w hI (hn.same (r':=2) oo (Adv.refl st)) oo);unfold QA_ at B;clear hI hn;subst h6;go_enter func261,ntmps261;go_wp2_with fail
  refine pst (B.o) ak ?_;intro w1 K P T;go_wp2;go_ret;exact⟨rfl,K,P.o,T.o⟩
 ·rw[in_ h6];have bq:l < 6:=oo;have B:=HE.chain R.U (l+1) d st row w hI oo (hn.same (r':=9 - (l+1)) oo (Adv.refl st)) oo;rw[show((l+1:Nat):Int)=(l:Int)+1 from oo]at B;have n:=QB_ (sg:=R.sg) (N:=N) f (.chain (l+1)) d st;have HA:=h_ (fun st=>QB_ (sg:=R.sg) (N:=N) f (.chain (l+1)) d st);have bE:=hI.ok.len;unfold QA_ at B;have B:=h_ B;have HO:Hid (∀(U:Nat->Prop) (st':RdSt) (row:ON) (w:World),RdI { R with U:=U } d st' row w->Adv 1 0 st st'->(∀s,st=some s->s.at_ < R.n)->(st=none->st'=none)->Calls prog 261 #[P_ (some ⟨R.T,0,none⟩),I_ j_ ((l:Int)+1)] w (QA_ { R with U:=U } d row w (I_ j_ (Qd_ R.sg N f (.chain (l+1)) d st').1) (Qd_ R.sg N f (.chain (l+1)) d st').2)):=(show ∀U st' row w,_->_->_->_->_ from fun U st' row w h ha bs bx=>by
   have:=HE.chain U (l+1) d st' row w h oo (by
    cases st with
    |none=>rw[bx rfl];exact hn.same oo (Adv.refl none)
    |some s=>exact hn.next (bs s rfl) (ha.weak (i':=0+1) (j':=0) oo oo) oo) oo
   rwa[show((l+1:Nat):Int)=(l:Int)+1 from oo]at this)
  have bH:((l:Int)==6)=false:=by rw[bn_];omega
  generalize Qd_ R.sg N f (.chain (l+1)) d=one at B n HA HO |-
  generalize hr:one st=r at B n |-
  obtain⟨k0,a3⟩:=r;dsimp only at B n |-
  have ab:=h_ n;obtain⟨Q,hQ⟩:=ex_ (Zw_ R.sg one l N N k0 a3);rw[hQ];have HQ:=h_ hQ;obtain⟨i0,aR,aX,aY,av⟩:=info_parts QY_;have S:=h_ (ai_ aR (ai_ aX (ai_ aY av)));clear aR aX aY av hI hn n hQ hr;go_enter func261,ntmps261;go_wp2_with fail
  refine pst (B.o) ak ?_;intro w1 K P T;go_upto_region 4 with fail
  go_loopw [5] (fun v wr=>∃(M:Nat) (k:Int) (st':RdSt) (row':ON),v=I_ j_ k/\Hid (Zw_ R.sg one l N M k st'=Q)/\Hid (Adv 1 1 st st')/\Hid (Enough R.n M st')/\Hid (RdI R d st' row' wr)/\Hid (Kr R.T row w row' wr)) (fun _ wr=>Z1_ R wr)
  case atStart=>exact⟨N,k0,a3,K,rfl,HQ,ab,(show Enough _ _ _ from QP_ hN _),P,T⟩
  case round=>
   clear HQ ab bd P ak T B;obtain⟨M,k,st',row',rfl,HQ,ag,aG,HI,HK⟩:=hrel;have G:=h_ (qe_ R hi d st' row' l bq wr HI.o);rcases bft ((KY_ R.sg st' l).toList==[])with hM|hM
   ·have b:Q=(k,st'):=by
     have b:=HQ.o
     cases M with
     |zero=>exact b.symm
     |succ M=>unfold Zw_ at b;rw[ip_ hM]at b;exact b.symm
    subst b;generalize KY_ R.sg st' l=C at G hM;clear HQ;go_wp2_with fail
    refine G.o.mono ?_;rintro e w2 ⟨rfl,g2⟩;go_wp2;go_ret;exact⟨rfl,row',HI.o.next g2,HK.o.below g2⟩
   ·have Z:=qC_ hM;obtain⟨s',y,aU⟩:=Xe_ Z;obtain⟨s,es,ha,bv⟩:=ag.o s' y;obtain⟨M,rfl⟩:∃M',M=M'+1:=⟨M - 1,by
     have h1:=aG.o s' y;have h2:=(HI.o.le y).1;omega⟩
    have b:=HQ.o;unfold Zw_ at b;rw[in_ (by rw[hM];decide)]at b;have bz:s.at_ < R.n:=oo;generalize KY_ R.sg st' l=C at G hM b Z;have H:=x1_ (sg:=R.sg) HA.o C N [k] st';obtain⟨q2,J⟩:=ex_ (GD_ R.sg one C N [k] st');rw[J]at b H;have bj:=h_ b;have p:=h_ J;have aK:=h_ Z;have aS:=(HI.o.le y).2;have ad:Hid (KidB [k] st'):=(show KidB _ _ from⟨by simp,fun t' e=>by rw[y]at e;obtain rfl:=oi_ e;simp;omega⟩);have bi:Hid (∀(U:Nat->Prop) (st2:RdSt) (row:ON) (w:World),RdI { R with U:=U } d st2 row w->Adv 0 0 st' st2->Calls prog 261 #[P_ (some ⟨R.T,0,none⟩),I_ j_ ((l:Int)+1)] w (QA_ { R with U:=U } d row w (I_ j_ (one st2).1) (one st2).2)):=(show ∀U st2 row w,_->_->_ from fun U st2 row w h ha=>HO.o U st2 row w h ((ag.o.trans ha).weak oo oo) (fun s2 e2=>by rw[es]at e2;obtain rfl:=oi_ e2;exact bz) (fun e=>by rw[es]at e;cases e));have bF:((C.toList != [])=true):=(by rw[bne,hM];rfl);clear b J H Z HQ es y ha bv aU aS;go_wp2_with fail
    refine G.o.mono ?_;rintro e w2 ⟨rfl,g2⟩;have m:=h_ (HI.o.next g2);have o:=h_ (HK.o.below g2);clear g2 G;go_upto_region 8 with fail
    have av:=o.o.size;have an:=h_ ((GW_ w2 k).more (B':=w.heap.size) oo);have aj:=h_ (m.o.res_new (A:=some ⟨w2.heap.size,0,none⟩) (br.alloc (lr_ _) (C_ #[I_ j_ k] 3)) (fun g hg=>by simp at hg;subst hg;simp));have al:=h_ (o.o.below (br.alloc (lr_ _) (C_ #[I_ j_ k] 3)));generalize w2.alloc (C_ #[I_ j_ k] 3)=w3 at an aj al |-
    go_loopw [7] (fun v wi=>∃(O:Nat) (ks:LI) (st2:RdSt) (row2:ON) (A:OA) (c:Nat),v=S_ A ks.length c/\Hid (GD_ R.sg one C O ks st2=q2)/\Hid (Adv 0 0 st' st2)/\Hid (st2=st'\/Adv 1 0 st' st2)/\Hid (Enough R.n O st2)/\Hid (KidB ks st2)/\Hid (Mine wi w.heap.size 3 1 A ks.length c (Qa_ ks))/\Hid (RdI (R.res A) d st2 row2 wi)/\Hid (Kr R.T row w row2 wi)) (fun _ wi=>Z1_ R wi)
    case atStart=>exact⟨N,[k],st',row',_,1,rfl,p,(show Adv 0 0 st' st' from Adv.refl _),(show st'=st'\/_ from .inl rfl),(show Enough _ _ _ from QP_ hN _),ad,an,aj,al⟩
    case round=>
     clear p ad an m aj o al;obtain⟨O,ks,st2,row2,A,c,rfl,p,E,HSt,ac,aL,HM,m,o⟩:=hrel;have HS:=h_ (Qao_ _ hi d st2 row2 C wr m.o);rcases bft (isM R.sg st2 C)with j|j
     ·obtain⟨s2,bn,aV⟩:=Xe_ j;subst bn;obtain⟨O,rfl⟩:∃M',O=M'+1:=⟨O - 1,by
       have h1:=ac.o s2 rfl;have h2:=(m.o.le rfl).1;have:(R.res A).n=R.n:=rfl;omega⟩
      rw[j,Qy_ j]at HS;have b:=p.o;unfold GD_ at b;rw[ip_ j]at b;have a:=(Qh_ (some s2)).trans (HA.o (Qf_ (some s2)));have HC:=h_ (fun(row:ON) (W:World) h=>bi.o (fun x=>R.U x\/A.map (·.block)=some x) (Qf_ (some s2)) row W h ((E.o.trans (Qh_ _)).weak oo oo));unfold QA_ at HC;generalize one (Qf_ (some s2))=r3 at b a HC;obtain⟨kc,z⟩:=r3;dsimp only at b a HC;have bk:=h_ b;have aE:=h_ a;have bI:=(m.o.le rfl).2;have bD:=aL.o.2 s2 rfl;have bG:=aL.o.1;have a9:Hid (KidB (ks++[kc]) z):=(show KidB _ _ from⟨by rw[lA];simp;omega,fun t e=>by
       obtain⟨L,e2,_,h3⟩:=a t e;obtain rfl:=oi_ e2;rw[lA];simp;omega⟩)
      have ba:Hid (Enough R.n O z):=ac.o.adv (i:=1) a;have a7:Hid (Adv 0 0 st' z):=(E.o.trans a).weak oo oo;have a8:Hid (z=st'\/Adv 1 0 st' z):=(show _\/_ from .inr ((E.o.trans a).weak oo oo));have aT:(ks++[kc]).length=ks.length+1:=sm_;clear b j p a aV;go_wp2_with fail
      refine HS.o.mono ?_;rintro e w4 ⟨rfl,af,h4,k4⟩;have X:=h_ (m.o.keepI k4 HM.o);have F:=h_ h4;have V:=h_ (o.o.trans k4);clear h4 k4 HS;go_wp2_with fail
      refine(HC.o _ _ F.o).mono ?_;rintro e w6 ⟨rfl,a2,h6,k6⟩;have Y:=h_ (F.o.keepI k6 X.o);have aI:=h_ h6;have am:=h_ (V.o.trans k6);clear h6 k6 HC X F V;have bJ:=am.o.size;have bb:=h_ aM.o.1;go_wp2_with (at_builtin;(refine Qi_ _ rfl (.tmp 32) (.tmp 34) _ rfl w.heap.size 3 i0 (I_ j_ 0) 1 8 underlying83 S.o.1 S.o.2.1 S.o.2.2.1 S.o.2.2.2 rfl dc_ (S_ A ks.length c) ks.length (Qa_ ks) rfl (Mine.alloc Y.o _) ⟨w6.heap.size,0,none⟩ 1 1 [I_ j_ kc] rfl rfl (K8_ _ kc _) (K9_ _) mx_ oo so_ ?_);intro v' w7 I ar ae;obtain⟨A7,c7,rfl,h7,m7⟩:=RdI.appended aI.o Y.o bb.o bra I ar ae)
      have bf:=h_ ((am.o.below bra).grown ar (fun g hg=>by rw[Q3_]at hg;exact(Mine.blk Y.o hg).1));rw[<-Ke_]at m7;have aJ:=h_ h7;have bh:=h_ m7;clear I ar ae h7 m7 aI Y am;go_wp2;go_roundw
      case rel=>exact⟨O,ks++[kc],z,a2,A7,c7,by rw[aT],bk,a7,a8,ba,a9,by rw[aT];exact bh,aJ,bf⟩
      case measure=>exact G2_ hi m.o aJ.o (aE.o.weak (i':=1) (j':=0) oo oo)
     ·rw[j,QD_ j]at HS;have b:=p.o;have J:q2=(ks,st2):=by
       cases O with
       |zero=>exact b.symm
       |succ O=>unfold GD_ at b;rw[j,in_ dc_]at b;exact b.symm
      subst J;have aO:Adv 1 0 st' st2:=by
       rcases HSt.o with e|e
       ·rw[e]at j;exact absurd (aK.o.symm.trans j) dc_
       ·exact e
      have D:=h_ (aO.trans (Kg_ st2 ⟨7,C,ks,false⟩));clear p b j aO;go_wp2_with fail
      refine HS.o.mono ?_;rintro e w4 ⟨rfl,af,h4,k4⟩;have X:=h_ (m.o.keepI k4 HM.o);have F:=h_ h4.unres;have V:=h_ (o.o.trans k4);clear h4 k4 HS HM m o;have aa:=bj.o;have ai:Hid (Enough R.n M (KP_ st2 ⟨7,C,ks,false⟩).2):=aG.o.adv (i:=0) D.o;have ah:Hid (Adv 1 1 st (KP_ st2 ⟨7,C,ks,false⟩).2):=(ag.o.trans D.o).weak oo oo;have q:=addK R hi d st2 af 7 C A ks.length c ks false w.heap.size w4 F.o X.o aM.o;unfold QA_ at q;have q:=h_ q;generalize KP_ st2 ⟨7,C,ks,false⟩=r5 at aa ai ah q D;obtain⟨k5,bC⟩:=r5;dsimp only at aa ai ah q D;have bl:=h_ aa;clear aa;go_wp2_with fail
      refine q.o.mono ?_;rintro e w5 ⟨rfl,a1,h5,aZ⟩;have aH:=h_ h5;have be:=h_ (V.o.trans aZ);clear h5 aZ;go_wp2;go_roundw
      case rel=>exact⟨M,k5,bC,a1,rfl,bl,ah,ai,aH,be⟩
      case measure=>
       have bp:∃L,st'=some L:=by
        cases st' with
        |none=>exact absurd aK.o (by rw[ZM_];decide)
        |some L=>exact⟨L,rfl⟩
       obtain⟨L,rfl⟩:=bp;exact Wi_ hi HI.o aH.o (D.o.weak (i':=1) (j':=0) oo oo)
theorem Qh6_ {R:RC} (U:Nat->Prop) (hi:R.imp=true) (d lo:Nat) (one:RdSt->PR) (HO:Hid (OneC R 202 d lo one)) (h1:∀st,Adv 1 1 st (one st).2) (N:Nat) (k:Int) (st:RdSt) (row:ON) (w:World) (hI:RdI { R with U:=U } d st row w) (a:LoB lo st) (hN:R.n < N):
  Calls prog 237 #[P_ (some ⟨R.T,0,none⟩),I_ j_ k] w fun e w'=>e=R_ (I_ j_ (Yg_ R.sg one N k st).1)/\∃row',RdI { R with U:=U } d (Yg_ R.sg one N k st).2 row' w'/\Kr R.T row w row' w':=
 vC_ { R with U:=U } hi d lo one HO h1 N k st row w hI a hN
theorem Qcc_ (R:RC) (hi:R.imp=true) (N f:Nat) (hN:R.n < N) (HE:EC R N f) (d:Nat) (st:RdSt) (row:ON) (w:World) (hI:RdI R d st row w) (hn:Need R.n st 11 (f+1)) (hd:d+(f+1)<=100000):
  Calls prog 202 #[P_ (some ⟨R.T,0,none⟩)] w (QA_ R d row w (I_ j_ (Xi_ R.sg (Qd_ R.sg N f) N d st).1) (Xi_ R.sg (Qd_ R.sg N f) N d st).2):=by
 have aQ:=h_ hI;have V:=h_ (Kr.refl R.T row w);have aq:=h_ hI.lo;have ae:=hn.same (r':=10) oo (Adv.refl st);have HP:=h_ (HE.pick R.U d st row w hI ae oo);have k:=QB_ (sg:=R.sg) (N:=N) f .pick d st;have h1:∀st,Adv 1 1 st (Qd_ R.sg N f .value d st).2:=fun st=>QB_ f .value d st
 have K:=hI.ok.len;unfold QA_ at HP |-
 unfold Xi_;generalize Qd_ R.sg N f .pick d st=r at HP k |-
 obtain⟨k0,m⟩:=r;dsimp only at HP k |-
 rcases bft (isM R.sg m ⟨#[46,46]⟩)with b|b
 ·rw[ip_ b];obtain⟨t,et,aZ⟩:=Xe_ b;obtain⟨s,es,ha,a0⟩:=k t et;subst es;have a2:s.at_ < R.n:=oo;have HO:=h_ (HE.one (d:=d) oo hn a2);have HA:=h_ h1;have ab:=h_ b;have q:Hid (LoB (s.at_+1) m):=(show LoB _ _ from fun t' e=>by rw[et]at e;obtain rfl:=oi_ e;omega);have I:Hid (KidB [k0] m):=(show KidB _ _ from⟨by simp,fun t' e=>by rw[et]at e;obtain rfl:=oi_ e;simp;omega⟩);obtain⟨Q,hQ⟩:=ex_ (Y2_ R.sg (Qd_ R.sg N f .value d) N N [k0] m);rw[hQ];have J:=h_ hQ;generalize Qd_ R.sg N f .value d=one at HO HA J;obtain⟨i0,ay,aB,aC,af⟩:=info_parts QY_;have z:=h_ (ai_ ay (ai_ aB (ai_ aC af)));clear ay aB aC af hI hn k K b et ha aZ ae hQ h1 a0;go_enter func202,ntmps202;go_wp2_with fail
  refine pst (HP.o) V ?_;intro w1 l o B;go_wp2_with fail
  refine(Vj_ R hi d m l ⟨#[46,46]⟩ w1 o.o).mono ?_;rw[ab.o];rintro e w2 ⟨rfl,h2⟩;have al:=h_ (o.o.next h2);have X:=h_ (B.o.below h2);clear h2;go_upto_region 5 with fail
  have af:=X.o.size;have aa:=h_ ((GW_ w2 k0).more (B':=w.heap.size) oo);have T:=h_ (al.o.res_new (A:=some ⟨w2.heap.size,0,none⟩) (br.alloc (lr_ _) (C_ #[I_ j_ k0] 3)) (fun g hg=>by simp at hg;subst hg;simp));have Y:=h_ (X.o.below (br.alloc (lr_ _) (C_ #[I_ j_ k0] 3)));generalize w2.alloc (C_ #[I_ j_ k0] 3)=w3 at aa T Y |-
  go_loopw [4] (fun v wr=>∃(M:Nat) (ks:LI) (st':RdSt) (row':ON) (A:OA) (c:Nat),v=S_ A ks.length c/\Hid (Y2_ R.sg one N M ks st'=Q)/\Hid (LoB (s.at_+1) st')/\Hid (Enough R.n M st')/\Hid (KidB ks st')/\Hid (Mine wr w.heap.size 3 1 A ks.length c (Qa_ ks))/\Hid (RdI (R.res A) d st' row' wr)/\Hid (Kr R.T row w row' wr)) (fun _ wr=>Z1_ R wr)
  case atStart=>exact⟨N,[k0],m,l,_,1,rfl,J,q,(show Enough _ _ _ from QP_ hN _),I,aa,T,Y⟩
  case round=>
   clear J q aQ o al T V B X Y aa I HP;obtain⟨M,ks,st',row',A,c,rfl,J,q,ak,ap,HM,S,HK⟩:=hrel;have HS:=h_ (Qao_ _ hi d st' row' ⟨#[46,46]⟩ wr S.o);rcases bft (isM R.sg st' ⟨#[46,46]⟩)with b|b
   ·obtain⟨G,aX,aA⟩:=Xe_ b;subst aX;obtain⟨M,rfl⟩:∃M',M=M'+1:=⟨M - 1,by
     have h1:=ak.o G rfl;have h2:=(S.o.le rfl).1;have:(R.res A).n=R.n:=rfl;omega⟩
    rw[b,Qy_ b]at HS;have n:=J.o;unfold Y2_ at n;rw[ip_ b]at n;have a:=((Qh_ (some G)).trans (QT_ (sg:=R.sg) _)).trans (VB_ (sg:=R.sg) HA.o N (Qj_ R.sg (Qf_ (some G))).1 (Qj_ R.sg (Qf_ (some G))).2);have j:=(Qh_ (some G)).trans (QT_ (sg:=R.sg) (Qf_ (some G)));have F:=h_ (fun(row:ON) (W:World) h=>QbC_ (fun x=>R.U x\/A.map (·.block)=some x) hi d (Qf_ (some G)) row W h);generalize Qj_ R.sg (Qf_ (some G))=r2 at n a j F;obtain⟨nm,st2⟩:=r2;dsimp only at n a j F;have HC:=h_ (fun(row:ON) (W:World) h=>Qh6_ (fun x=>R.U x\/A.map (·.block)=some x) hi d (s.at_+1) one HO HA.o N nm st2 row W h (q.o.adv j) hN);generalize Yg_ R.sg one N nm st2=r3 at n a HC;obtain⟨kc,H⟩:=r3;dsimp only at n a HC;have aV:=h_ n;have aL:=h_ a;have a7:=(S.o.le rfl).2;have a5:=ap.o.2 G rfl;have a6:=ap.o.1;have aM:Hid (KidB (ks++[kc]) H):=(show KidB _ _ from⟨by rw[lA];simp;omega,fun t e=>by
     obtain⟨a9,e2,_,h3⟩:=a t e;obtain rfl:=oi_ e2;rw[lA];simp;omega⟩)
    have aO:Hid (Enough R.n M H):=ak.o.adv (i:=2) a;have aN:Hid (LoB (s.at_+1) H):=q.o.adv a;have az:(ks++[kc]).length=ks.length+1:=sm_;clear n b J a j aA;go_wp2_with fail
    refine HS.o.mono ?_;rintro e w4 ⟨rfl,O,h4,k4⟩;have D:=h_ (S.o.keepI k4 HM.o);have p:=h_ h4;have C:=h_ (HK.o.trans k4);clear h4 k4 HS;go_wp2_with fail
    refine(F.o _ _ p.o).mono ?_;rintro e w5 ⟨rfl,P,h5,k5⟩;have ar:=h_ (p.o.keepI k5 D.o);have U:=h_ h5;have ao:=h_ (C.o.trans k5);clear h5 k5 F D p C;go_wp2_with fail
    refine(HC.o _ _ U.o).mono ?_;rintro e w6 ⟨rfl,aF,h6,k6⟩;have E:=h_ (U.o.keepI k6 ar.o);have am:=h_ h6;have Z:=h_ (ao.o.trans k6);clear h6 k6 HC ar U ao;have a8:=Z.o.size;have aP:=h_ aq.o.1;go_wp2_with (at_builtin;(refine Qi_ _ rfl (.tmp 22) (.tmp 24) _ rfl w.heap.size 3 i0 (I_ j_ 0) 1 8 underlying83 z.o.1 z.o.2.1 z.o.2.2.1 z.o.2.2.2 rfl dc_ (S_ A ks.length c) ks.length (Qa_ ks) rfl (Mine.alloc E.o _) ⟨w6.heap.size,0,none⟩ 1 1 [I_ j_ kc] rfl rfl (K8_ _ kc _) (K9_ _) mx_ oo so_ ?_);intro v' w7 y ad L;obtain⟨A7,c7,rfl,h7,m7⟩:=RdI.appended am.o E.o aP.o bra y ad L)
    have aS:=h_ ((Z.o.below bra).grown ad (fun g hg=>by rw[Q3_]at hg;exact(Mine.blk E.o hg).1));rw[<-Ke_]at m7;have an:=h_ h7;have aU:=h_ m7;clear y ad L h7 m7 am E Z;go_wp2;go_roundw
    case rel=>exact⟨M,ks++[kc],H,aF,A7,c7,by rw[az],aV,aN,aO,aM,by rw[az];exact aU,an,aS⟩
    case measure=>exact G2_ hi S.o an.o (aL.o.weak (i':=1) (j':=0) oo oo)
   ·rw[b,QD_ b]at HS;have n:=J.o;have a1:Q=(ks,st'):=by
     cases M with
     |zero=>exact n.symm
     |succ M=>unfold Y2_ at n;rw[b,in_ dc_]at n;exact n.symm
    subst a1;clear J n b;go_wp2_with fail
    refine HS.o.mono ?_;rintro e w4 ⟨rfl,O,h4,k4⟩;have D:=h_ (S.o.keepI k4 HM.o);have p:=h_ h4.unres;have C:=h_ (HK.o.trans k4);clear h4 k4 HS HM S HK;go_wp2_with fail
    refine(addK R hi d st' O 10 noT A ks.length c ks false w.heap.size w4 p.o D.o aq.o).mono ?_;rintro e w5 ⟨rfl,P,h5,k5⟩;go_wp2;go_ret;exact⟨rfl,P,h5,C.o.trans k5⟩
 ·rw[in_ (by rw[b];decide)];have ab:=h_ b;clear hI hn k K b ae h1;go_enter func202,ntmps202;go_wp2_with fail
  refine pst (HP.o) V ?_;intro w1 l o B;go_wp2_with fail
  refine(Vj_ R hi d m l ⟨#[46,46]⟩ w1 o.o).mono ?_;rw[ab.o];rintro e w2 ⟨rfl,h2⟩;go_wp2;go_ret;exact⟨rfl,l,o.o.next h2,B.o.below h2⟩
theorem Qfc_ (R:RC) (hi:R.imp=true) (N f:Nat) (hN:R.n < N) (HE:EC R N f) (d:Nat) (st:RdSt) (row:ON) (w:World) (hI:RdI R d st row w) (hn:Need R.n st 2 (f+1)) (hd:d+(f+1)<=100000):
  Calls prog 281 #[P_ (some ⟨R.T,0,none⟩)] w (QA_ R d row w (I_ j_ (endS R.sg (Qd_ R.sg N f) N d st).1) (endS R.sg (Qd_ R.sg N f) N d st).2):=by
 have aD:=h_ hI;have ak:=h_ (Kr.refl R.T row w);have ap:=hn.same (r':=1) oo (Adv.refl st);have HP:=h_ (HE.base R.U d st row w hI ap oo);have B:=QB_ (sg:=R.sg) (N:=N) f .base d st;have HA:=h_ (fun st=>QB_ (sg:=R.sg) (N:=N) f .value d st);have aU:=hI.ok.len;unfold QA_ at HP |-
 unfold endS;generalize Qd_ R.sg N f .base d st=r at HP B |-
 obtain⟨k0,ax⟩:=r;dsimp only at HP B |-
 have HO:Hid (∀s,st=some s->s.at_ < R.n->OneC R 202 d (s.at_+1) (Qd_ R.sg N f .value d)):=(show ∀s,_->_->_ from fun s e aO=>HE.one (d:=d) oo (by rw[<-e];exact hn) aO);have L:=h_ B;obtain⟨Q,hQ⟩:=ex_ (W0_ R.sg (Qd_ R.sg N f .value d) N N k0 ax);rw[hQ];have O:=h_ hQ;generalize Qd_ R.sg N f .value d=one at HO HA O;have aV:=ky_;clear hI hn B ap hQ;go_enter func281,ntmps281;go_wp2_with fail
 refine pst (HP.o) ak ?_;intro w1 aq af al;go_upto_region 2 with fail
 go_loopw [3] (fun v wr=>∃(M:Nat) (k:Int) (st':RdSt) (row':ON),v=I_ j_ k/\Hid (W0_ R.sg one N M k st'=Q)/\Hid (Adv 1 1 st st')/\Hid (Enough R.n M st')/\Hid (RdI R d st' row' wr)/\Hid (Kr R.T row w row' wr)) (fun _ wr=>Z1_ R wr)
 case atStart=>exact⟨N,k0,ax,aq,rfl,O,L,(show Enough _ _ _ from QP_ hN _),af,al⟩
 case round=>
  clear O L aD af ak al HP;obtain⟨M,k,st',row',rfl,O,T,X,C,HK⟩:=hrel
  cases st' with
  |none=>
   obtain⟨a,b,AN,cN,l,K,hb,o⟩:=C.o;obtain⟨c0,c2,c3,c4,c5,cf,cz⟩:=K.ci hi;obtain rfl:b=true:=hb;have n:=O.o;rw[Ve_]at n;subst n;clear K c0 c2 c3 c5 o O;go_wp2;go_ret;exact⟨rfl,row',C.o,HK.o⟩
  |some g=>
   obtain⟨s,es,ha,aQ⟩:=T.o g rfl;obtain⟨M,rfl⟩:∃M',M=M'+1:=⟨M - 1,by
    have h1:=X.o g rfl;have h2:=(C.o.le rfl).1;omega⟩
   have aT:=(C.o.le rfl).1;have aK:=h_ (HO.o s es oo);have aI:Hid (LoB (s.at_+1) (some g)):=(show LoB _ _ from fun t' e=>by obtain rfl:=oi_ e;omega);obtain⟨a,b,AN,cN,l,K,hb,o⟩:=C.o;obtain⟨c0,c2,c3,c4,c5,cf,cz⟩:=K.ci hi;obtain⟨rfl,_,_⟩:=hb;have m:=h_ (Vj_ R hi d (some g) row' ⟨#[40]⟩ wr C.o);have n:=O.o;unfold W0_ at n;rw[in_ (show ¬(some g).isNone=true by simp)]at n;clear K c0 c2 c3 c5 o O es ha aQ;rcases bft (isM R.sg (some g) ⟨#[40]⟩)with J|J
   ·rw[J]at m;rw[ip_ J]at n;have c:=VB_ (sg:=R.sg) HA.o N k (some g);have HC:=h_ (fun(row:ON) (W:World) h=>vC_ R hi d (s.at_+1) one aK HA.o N k (some g) row W h aI.o hN);unfold QA_ at HC;generalize Yg_ R.sg one N k (some g)=r3 at n c HC;obtain⟨kc,ab⟩:=r3;dsimp only at n c HC;have Z:=h_ n;have D:=h_ c;have V:Hid (Enough R.n M ab):=X.o.adv (i:=0) c;have U:Hid (Adv 1 1 st ab):=(T.o.trans c).weak oo oo;clear n J c;go_wp2_with fail
    refine m.o.mono ?_;rintro e w2 ⟨rfl,A⟩;have y:=h_ (C.o.next A);have z:=h_ (HK.o.below A);clear A m c4 cf cz;go_wp2_with fail
    refine(HC.o _ _ y.o).mono ?_;rintro e w3 ⟨rfl,j,G,I⟩;have p:=h_ G;have E:=h_ (z.o.trans I);clear G I;go_wp2;go_roundw
    case rel=>exact⟨M,kc,ab,j,rfl,Z,U,V,p,E⟩
    case measure=>exact Wi_ hi C.o p.o (D.o.weak (i':=1) (j':=0) oo oo)
   ·rw[J]at m;rw[in_ (by rw[J];decide)]at n;have P:=h_ (fun(W:World) h=>YP_ R hi d (some g) row' ⟨#[46]⟩ W h);unfold QA_ at P;rcases bft (isM R.sg (some g) ⟨#[46]⟩)with H|H
    ·rw[H,Qy_ H]at P;rw[ip_ H]at n;have F:=h_ (fun(row:ON) (W:World) h=>KM_ R hi d (Qf_ (some g)) row 0 W h oo);rcases bft (Kp_ R.sg (Qf_ (some g)) 0)with q|q
     ·rw[ip_ q]at n;rw[q]at F;have S:∀t,Qf_ (some g)=some t->t.at_ < R.n:=fun t e=>by
       obtain⟨t',e',hl⟩:=Z7_ q;rw[e]at e';obtain rfl:=oi_ e';omega
      have HX:=h_ (fun(row:ON) (W:World) h=>Kl_ R hi d (Qf_ (some g)) row W h);have c:=((Qh_ (some g)).trans (Kg_ (Qf_ (some g)) ⟨6,(Qx_ R.sg (Qf_ (some g)) 0).2.1,[k],false⟩)).trans (Qh_ _);generalize Qx_ R.sg (Qf_ (some g)) 0=x at n HX c;obtain⟨xk,xt,xp,xz⟩:=x;dsimp only at n HX c;have aJ:Hid (∀t,(KP_ (Qf_ (some g)) ⟨6,xt,[k],false⟩).2=some t->t.at_ < R.n):=(show ∀t,_->_ from fun t e=>by
       rw[zk_ (s:=⟨g.at_+1,g.nodes⟩) rfl e];exact S _ rfl)
      have Z:=h_ n;have D:=h_ c;have V:Hid (Enough R.n M (Qf_ (KP_ (Qf_ (some g)) ⟨6,xt,[k],false⟩).2)):=X.o.adv (i:=1) c;have U:Hid (Adv 1 1 st (Qf_ (KP_ (Qf_ (some g)) ⟨6,xt,[k],false⟩).2)):=(T.o.trans c).weak oo oo;clear n J H q c S;go_wp2_with fail
      refine m.o.mono ?_;rintro e w2 ⟨rfl,A⟩;have y:=h_ (C.o.next A);have z:=h_ (HK.o.below A);clear A m c4 cf cz;go_wp2_with fail
      refine(P.o _ y.o).mono ?_;rintro e w3 ⟨rfl,j,G,I⟩;have p:=h_ G;have E:=h_ (z.o.trans I);clear G I P;go_wp2_with fail
      refine(F.o _ _ p.o).mono ?_;rintro e w4 ⟨rfl,g4⟩;have ag:=h_ (p.o.next g4);have Y:=h_ (E.o.below g4);clear g4 F;go_wp2_with fail
      refine(HX.o _ _ ag.o).mono ?_;rintro e w5 ⟨rfl,g5⟩;have ah:=h_ (ag.o.next g5);have aF:=h_ (Y.o.below g5);clear g5 HX;have am:=h_ ah.o.lo;go_wp2_with fail
      refine pst (addK R hi d (Qf_ (some g)) j 6 xt (some ⟨w5.heap.size,0,none⟩) 1 1 [k] false w5.heap.size _ (ah.o.alloc _) (GW_ w5 k) am.o) aF ?_;intro w6 ar aE aG;go_wp2_with fail
      refine pst (Zo_ R hi d _ ar w6 aE.o aJ.o) aG ?_;intro w7 av ai aH;go_wp2;go_roundw
      case rel=>exact⟨M,_,_,av,rfl,Z,U,V,ai,aH⟩
      case measure=>exact Wi_ hi C.o ai.o (D.o.weak (i':=1) (j':=0) oo oo)
     ·rw[in_ (by rw[q];decide)]at n;rw[q]at F;subst n;clear J H q;go_wp2_with fail
      refine m.o.mono ?_;rintro e w2 ⟨rfl,A⟩;have y:=h_ (C.o.next A);have z:=h_ (HK.o.below A);clear A m c4 cf cz;go_wp2_with fail
      refine(P.o _ y.o).mono ?_;rintro e w3 ⟨rfl,j,G,I⟩;have p:=h_ G;have E:=h_ (z.o.trans I);clear G I P;go_wp2_with fail
      refine(F.o _ _ p.o).mono ?_;rintro e w4 ⟨rfl,g4⟩;obtain⟨a,b,AN,cN,l,K,aR,o⟩:=p.o.next g4;obtain⟨c0,c2,c3,c4,c5,cf,cz⟩:=K.ci hi;have HF:=h_ (RdI.bad1 hi K o);have Y:=h_ (E.o.below g4);clear K aR o c0 c2 c3 c5 g4;go_wp2;go_ret;exact⟨rfl,j,HF.o.1,Y.o.trans HF.o.2⟩
    ·rw[H,QD_ H]at P;rw[in_ (by rw[H];decide)]at n;subst n;clear J H;go_wp2_with fail
     refine m.o.mono ?_;rintro e w2 ⟨rfl,A⟩;have y:=h_ (C.o.next A);have z:=h_ (HK.o.below A);clear A m c4 cf cz;go_wp2_with fail
     refine(P.o _ y.o).mono ?_;rintro e w3 ⟨rfl,j,G,I⟩;go_wp2;go_ret;exact⟨rfl,j,G,z.o.trans I⟩
theorem We_ {R:RC} (U:Nat->Prop) (hi:R.imp=true) (d:Nat) (st:RdSt) (row:ON) (m:BA) (N:Nat) (w:World) (hI:RdI { R with U:=U } d st row w) (hN:R.n < N):
  Calls prog 165 #[P_ (some ⟨R.T,0,none⟩),T_ m,.func (.func 166) #[P_ (some ⟨R.T,0,none⟩)] #[]] w fun e w'=>∃(A:OA) (c:Nat),e=R_ (S_ A (QG_ R.sg (Qj_ R.sg) m N [] st).1.length c)/\Mine w' w.heap.size 3 1 A (QG_ R.sg (Qj_ R.sg) m N [] st).1.length c (Qa_ (QG_ R.sg (Qj_ R.sg) m N [] st).1)/\(QG_ R.sg (Qj_ R.sg) m N [] st).1.length<=301/\∃row',RdI (({ R with U:=U }:RC).res A) d (QG_ R.sg (Qj_ R.sg) m N [] st).2 row' w'/\Kr R.T row w row' w':=
 jF_ { R with U:=U } hi d 0 (Qj_ R.sg) (show OneC _ _ _ _ _ from fun U st row w h _=>Vo_ { R with U:=U } hi d st row w h) QT_ m N st row w hI (fun s _=>lz_ _) (QP_ hN _)
theorem QgV_ (R:RC) (hi:R.imp=true) (N f:Nat) (hN:R.n < N) (HE:EC R N f) (d:Nat) (st:RdSt) (row:ON) (w:World) (hI:RdI R d st row w) (s:PS) (hs:st=some s) (ac:s.at_ < R.n) (hn:Need R.n st 1 (f+1)) (hd:d+(f+1)<=100000):
  Calls prog 299 #[P_ (some ⟨R.T,0,none⟩)] w (QA_ R d row w (I_ j_ (fnS R.sg (Qd_ R.sg N f) N d st).1) (fnS R.sg (Qd_ R.sg N f) N d st).2):=by
 obtain⟨i0,E,F,l,G⟩:=info_parts QY_;have j:=h_ (ai_ E (ai_ F (ai_ l G)));clear E F l G;have O:=h_ hI;have T:=h_ (Kr.refl R.T row w);have z:=h_ hI.lo;subst hs;unfold QA_ fnS;dsimp only;have K:=h_ (fun(row:ON) (W:World) h=>We_ R.U hi d (Qn_ R.sg (some s) ⟨#[40]⟩) row ⟨#[41]⟩ N W h hN);have a:=((Qq_ (sg:=R.sg) (some s) ⟨#[40]⟩).trans (Yz_ (sg:=R.sg) (QT_ (sg:=R.sg)) ⟨#[41]⟩ N [] (Qn_ R.sg (some s) ⟨#[40]⟩)).2);generalize QG_ R.sg (Qj_ R.sg) ⟨#[41]⟩ N [] (Qn_ R.sg (some s) ⟨#[40]⟩)=q at K a |-
 obtain⟨ks,st2⟩:=q;dsimp only at K a |-
 have b:=(a.trans (Qq_ (sg:=R.sg) _ ⟨#[41]⟩)).trans (Qq_ (sg:=R.sg) _ ⟨#[61,62]⟩);have D:=h_ (fun(U:Nat->Prop) (row:ON) (W:World) h=>HE.pick U d (Qn_ R.sg (Qn_ R.sg st2 ⟨#[41]⟩) ⟨#[61,62]⟩) row W h (hn.next ac (b.weak (i':=1) (j':=0) oo oo) oo) oo);unfold QA_ at D;generalize Qd_ R.sg N f .pick d (Qn_ R.sg (Qn_ R.sg st2 ⟨#[41]⟩) ⟨#[61,62]⟩)=r at D |-
 obtain⟨k,ah⟩:=r;dsimp only at D |-
 clear hI hn a b;go_enter func299,ntmps299;go_wp2_with fail
 refine pst (ZQ_ R hi d (some s) row ⟨#[40]⟩ w O.o) T ?_;intro w1 ai P x;go_wp2_with fail
 refine(K.o _ _ P.o).mono ?_;rintro e w2 ⟨A,c,rfl,m2,ak,row2,h2,k2⟩;have V:=QS_ x k2;have p:=h_ h2;have l:=x.o.size;have HM:=h_ (m2.more (B':=w.heap.size) l);clear h2 k2 m2 K;go_wp2_with fail
 refine(Qat_ _ hi d st2 row2 ⟨#[41]⟩ w2 p.o).mono ?_;rintro e w3 ⟨rfl,H,h3,k3⟩;have B:=h_ (p.o.keepI k3 HM.o);have t:=h_ h3;have X:=h_ (V.o.trans k3);clear h3 k3 HM;go_wp2_with fail
 refine(Qat_ _ hi d _ H ⟨#[61,62]⟩ w3 t.o).mono ?_;rintro e w4 ⟨rfl,aj,h4,k4⟩;have C:=h_ (t.o.keepI k4 B.o);have v:=h_ h4;have Y:=h_ (X.o.trans k4);clear h4 k4 B;go_wp2_with fail
 refine(D.o _ _ _ v.o).mono ?_;rintro e w5 ⟨rfl,I,h5,k5⟩;have n:=h_ (v.o.keepI k5 C.o);have Q:=h_ h5;have y:=h_ (Y.o.trans k5);clear h5 k5 C D;have am:=y.o.size;have M:=h_ z.o.1;have al:(ks++[k]).length=ks.length+1:=by simp
 go_wp2_with (at_builtin;(refine Qi_ _ rfl (.tmp 18) (.tmp 20) _ rfl w.heap.size 3 i0 (I_ j_ 0) 1 8 underlying83 j.o.1 j.o.2.1 j.o.2.2.1 j.o.2.2.2 rfl dc_ (S_ A ks.length c) ks.length (Qa_ ks) rfl (Mine.alloc n.o _) ⟨w5.heap.size,0,none⟩ 1 1 [I_ j_ k] rfl rfl (K8_ _ k _) (K9_ _) mx_ oo so_ ?_);intro v' w7 i o m;obtain⟨A7,c7,rfl,h7,m7⟩:=RdI.appended Q.o n.o M.o bra i o m)
 have Z:=h_ ((y.o.below bra).grown o (fun g hg=>by rw[Q3_]at hg;exact(Mine.blk n.o hg).1));rw[<-Ke_]at m7;have S:=h_ h7.unres;have aa:=h_ m7;clear i o m h7 m7;have hA:=addK R hi d ah I 9 noT A7 (ks.length+1) c7 (ks++[k]) false w.heap.size w7 S.o aa.o z.o;unfold QA_ at hA;have L:=h_ hA;clear hA;go_wp2_with fail
 refine L.o.mono ?_;rintro e w8 ⟨rfl,J,h8,k8⟩;go_wp2;go_ret;exact⟨rfl,J,h8,Z.o.trans k8⟩
theorem Qct_ (R:RC) (hi:R.imp=true) (N f:Nat) (hN:R.n < N) (HE:EC R N f) (d:Nat) (st:RdSt) (row:ON) (w:World) (I:RdI R d st row w) (V:Need R.n st 1 (f+1)) (hd:d+(f+1)<=100000):
  Calls prog 294 #[P_ (some ⟨R.T,0,none⟩)] w (QA_ R d row w (I_ j_ (YB_ R.sg (Qd_ R.sg N f) N d st).1) (YB_ R.sg (Qd_ R.sg N f) N d st).2):=by
 have E:=h_ I;have F:=h_ (Kr.refl R.T row w);have Y:=h_ (Kl_ R hi d st row w I);have D:st=none->(Qx_ R.sg st 0).1=0:=fun e=>by rw[e];rfl
 have v:∀s,st=some s->(Qx_ R.sg st 0).1≠0->s.at_ < R.n:=fun s e h=>by
  rcases Nat.lt_or_ge s.at_ R.sg.length with hl|hl
  ·rw[<-I.ok.len];exact hl
  ·exact absurd (by rw[e,ZO_ (i:=0) hl]) h
 have C:∀m,isM R.sg st m=true->(Qx_ R.sg st 0).1=4:=fun m h=>by unfold isM at h;simp only[Bool.and_eq_true]at h;exact eq_of_beq h.1
 have B:=fun m=>(show isM R.sg st m=(((Qx_ R.sg st 0).1==4)&&((Qx_ R.sg st 0).2.1.toList==m.toList))from rfl)
 unfold QA_;unfold YB_;generalize hx:Qx_ R.sg st 0=x at Y D v C B |-
 obtain⟨kd,xt,xp,xz⟩:=x;dsimp only at Y D v C B |-
 have aO:∀w1,Below w.heap.size w w1->Below w.heap.size w (w1.alloc (C_ #[I_ j_ kd,T_ xt,I_ j_ xp,B_ xz] 89)):=fun w1 h=>h.alloc h.size _
 by_cases h1:kd=1
 ·rw[ip_ h1];subst h1;have p:=h_ (fun(row:ON) (W:World) h=>Vo_ R hi d st row W h);unfold QA_ at p;generalize Qj_ R.sg st=r at p |-
  obtain⟨k,st2⟩:=r;dsimp only at p |-
  clear I V D v C B hx;go_enter func294,ntmps294;go_wp2_with fail
  refine rst (Y.o) E F ?_;intro w1 n o;go_wp2_with fail
  refine pst (p.o _ _ (n.o.alloc _)) o ?_;intro w2 row2 g j;go_wp2;go_ret;exact⟨rfl,row2,g.o,j.o⟩
 ·rw[in_ h1];have an:(kd==1)=false:=by rw[bn_];exact h1
  by_cases y:kd=2
  ·rw[ip_ y];subst y;have p:=h_ (fun(row:ON) (W:World) h=>Jc_ R hi d st row 2 W h (fun s e=>v s e dc_));unfold QA_ at p;generalize YG_ R.sg 2 st=r at p |-
   obtain⟨k,st2⟩:=r;dsimp only at p |-
   clear I V D v C B hx h1 an;go_enter func294,ntmps294;go_wp2_with fail
   refine rst (Y.o) E F ?_;intro w1 n o;go_wp2_with fail
   refine pst (p.o _ _ (n.o.alloc _)) o ?_;intro w2 row2 g j;go_wp2;go_ret;exact⟨rfl,row2,g.o,j.o⟩
  ·rw[in_ y];have aF:(kd==2)=false:=(by rw[bn_];exact y);by_cases S:kd=3
   ·rw[ip_ S];subst S;have p:=h_ (fun(row:ON) (W:World) h=>Jc_ R hi d st row 3 W h (fun s e=>v s e dc_));unfold QA_ at p;generalize YG_ R.sg 3 st=r at p |-
    obtain⟨k,st2⟩:=r;dsimp only at p |-
    clear I V D v C B hx h1 an y aF;go_enter func294,ntmps294;go_wp2_with fail
    refine rst (Y.o) E F ?_;intro w1 n o;go_wp2_with fail
    refine pst (p.o _ _ (n.o.alloc _)) o ?_;intro w2 row2 g j;go_wp2;go_ret;exact⟨rfl,row2,g.o,j.o⟩
   ·rw[in_ S];have aN:(kd==3)=false:=(by rw[bn_];exact S);have HS:=h_ (fun(m:BA) (row:ON) (W:World) h=>YP_ R hi d st row m W h);unfold QA_ at HS;rcases bft (isM R.sg st ⟨#[91]⟩)with L|L
    ·rw[ip_ L];have K:=Qy_ L;obtain⟨s,es,J⟩:=Xe_ L;subst es;have Z:s.at_ < R.n:=(by rw[<-I.ok.len];exact J);unfold Qdq_;dsimp only;have HO:=h_ (HE.one (d:=d) oo V Z);have HA:=(fun st=>QB_ (sg:=R.sg) (N:=N) f .value d st);have ak:LoB (s.at_+1) (Qf_ (some s)):=fun t e=>by obtain rfl:=oi_ e;exact lr_ _
     have HL:=h_ (fun(row:ON) (W:World) h=>GZ_ R hi d (s.at_+1) (Qd_ R.sg N f .value d) HO HA ⟨#[93]⟩ N (Qf_ (some s)) row W h ak (QP_ hN _));unfold Qci_ at HL;generalize QG_ R.sg (Qd_ R.sg N f .value d) ⟨#[93]⟩ N [] (Qf_ (some s))=q at HL |-
     obtain⟨ks,aK⟩:=q;dsimp only at HL |-
     have O:=h_ L;have P:=h_ K;have aD:=h_ I.lo;clear I V D v C B hx h1 y S HA ak L K J HO;go_enter func294,ntmps294;go_wp2_with fail
     refine rst (Y.o) E F ?_;intro w1 n o;go_wp2_with fail
     refine(HS.o ⟨#[91]⟩ _ _ (n.o.alloc _)).mono ?_;rw[O.o,P.o];rintro e w2 ⟨rfl,row2,y,T⟩;have j:=QS_ o T;have g:=h_ y;clear y T;have aJ:=j.o.size;go_wp2_with fail
     refine(HL.o _ _ g.o).mono ?_;rintro e w3 ⟨A,c,rfl,m3,aP,ao,S,k3⟩;have G:=QS_ j k3;have z:=h_ S.unres;have aE:=h_ (m3.more (B':=w.heap.size) aJ);clear S k3 m3;have hA:=KK_ R hi d aK ao ⟨#[93]⟩ 4 noT A ks.length c ks false w.heap.size w3 z.o aE.o aD.o;unfold QA_ at hA;have ay:=h_ hA;clear hA;go_wp2_with fail
     refine ay.o.mono ?_;rintro e w4 ⟨rfl,U,h4,k4⟩;go_wp2;go_ret;exact⟨rfl,U,h4,G.o.trans k4⟩
    ·rw[in_ (by rw[L];decide)];have O:=h_ L;have P:=h_ (QD_ L);have HQ:=h_ (fun(row:ON) (W:World) h=>Vj_ R hi d st row ⟨#[40]⟩ W h);rcases bft (isM R.sg st ⟨#[40]⟩)with H|H
     ·rw[ip_ H];rw[H]at HQ;have K:=Qy_ H;obtain⟨s,es,J⟩:=Xe_ H;subst es;have Z:s.at_ < R.n:=(by rw[<-I.ok.len];exact J);have X:=h_ (fun(row:ON) (W:World) h=>QaZ_ R hi d (some s) row W h);rcases bft (fnB R.sg (some s))with hF|hF
      ·rw[ip_ hF];rw[hF]at X;have p:=h_ (fun(row:ON) (W:World) h=>QgV_ R hi N f hN HE d (some s) row W h s rfl Z V hd);unfold QA_ at p;generalize fnS R.sg (Qd_ R.sg N f) N d (some s)=r at p |-
       obtain⟨k,ar⟩:=r;dsimp only at p |-
       clear I V D v C B hx h1 y S L H K J hF;go_enter func294,ntmps294;go_wp2_with fail
       refine rst (Y.o) E F ?_;intro w1 n o;go_wp2_with fail
       refine(HS.o ⟨#[91]⟩ _ _ (n.o.alloc _)).mono ?_;rw[O.o,P.o];rintro e w2 ⟨rfl,row2,y,T⟩;have j:=QS_ o T;have g:=h_ y;clear y T;go_wp2_with fail
       refine rst (HQ.o _ _ g.o) g j ?_;intro w3 z G;go_wp2_with fail
       refine rst (X.o _ _ z.o) z G ?_;intro w4 ad M;go_wp2_with fail
       refine pst (p.o _ _ ad.o) M ?_;intro w5 ab ae af;go_wp2;go_ret;exact⟨rfl,ab,ae.o,af.o⟩
      ·rw[in_ (by rw[hF];decide)];rw[hF]at X;unfold parS;dsimp only;have p:=h_ (fun(row:ON) (W:World) h=>HE.value R.U d (Qf_ (some s)) row W h (V.next Z (Qh_ _) oo) oo);unfold QA_ at p;generalize Qd_ R.sg N f .value d (Qf_ (some s))=r at p |-
       obtain⟨k,ar⟩:=r;dsimp only at p |-
       have ac:=h_ H;have Q:=h_ K;clear I V D v C B hx h1 y S L H K J hF;go_enter func294,ntmps294;go_wp2_with fail
       refine rst (Y.o) E F ?_;intro w1 n o;go_wp2_with fail
       refine(HS.o ⟨#[91]⟩ _ _ (n.o.alloc _)).mono ?_;rw[O.o,P.o];rintro e w2 ⟨rfl,row2,y,T⟩;have j:=QS_ o T;have g:=h_ y;clear y T;go_wp2_with fail
       refine rst (HQ.o _ _ g.o) g j ?_;intro w3 z G;go_wp2_with fail
       refine rst (X.o _ _ z.o) z G ?_;intro w4 ad M;go_wp2_with fail
       refine(HS.o ⟨#[40]⟩ _ _ ad.o).mono ?_;rw[ac.o,Q.o];rintro e w5 ⟨rfl,ab,h5,k5⟩;have af:=QS_ M k5;have ae:=h_ h5;clear h5 k5;go_wp2_with fail
       refine pst (p.o _ _ ae.o) af ?_;intro w6 ap aj aB;have al:=h_ aj.o.lo;go_wp2_with fail
       refine pst (KK_ R hi d ar ap ⟨#[41]⟩ 11 noT (some ⟨w6.heap.size,0,none⟩) 1 1 [k] false w6.heap.size _ (aj.o.alloc _) (GW_ w6 k) al.o) aB ?_;intro w7 aq aA aC;go_wp2;go_ret;exact⟨rfl,aq,aA.o,aC.o⟩
     ·rw[in_ (by rw[H];decide)];rw[H]at HQ;have ac:=h_ H;have Q:=h_ (QD_ H);clear I V D v C B hx h1 y S L H;go_enter func294,ntmps294;go_wp2_with fail
      refine rst (Y.o) E F ?_;intro w1 n o;go_wp2_with fail
      refine(HS.o ⟨#[91]⟩ _ _ (n.o.alloc _)).mono ?_;rw[O.o,P.o];rintro e w2 ⟨rfl,row2,y,T⟩;have j:=QS_ o T;have g:=h_ y;clear y T;go_wp2_with fail
      refine rst (HQ.o _ _ g.o) g j ?_;intro w3 z G;go_wp2_with fail
      refine(HS.o ⟨#[40]⟩ _ _ z.o).mono ?_;rw[ac.o,Q.o];rintro e w4 ⟨rfl,U,h4,k4⟩;have M:=QS_ G k4;obtain⟨a,b,AN,cN,l,hc,aI,aa⟩:=h4;obtain⟨c0,c2,c3,c4,c5,cf,cz⟩:=hc.ci hi;have HF:=h_ (RdI.bad1 hi hc aa);clear hc aI aa c0 c2 c3 c5 k4;go_wp2;go_ret;exact⟨rfl,U,HF.o.1,M.o.trans HF.o.2⟩
section
variable {R:RC} {d:Nat} {st:RdSt} {row row' row0:ON} {w w' w0:World} {g:Nat} {cs:Array Value}
theorem RdI.setBox (h:RdI R d st row w) (K:Blk w g 96 cs) (h2:some g≠row) (n:R.w0.heap.size<=g) (i:Nat) (u:Value):RdI R d st row (w.setCell ⟨g,i,none⟩ u):=by
 obtain⟨a,b,AN,cN,l,⟨c1,c2,c3,c4,c5,c6,c7⟩,o,hr⟩:=h;refine⟨a,b,AN,cN,l,⟨c1.far (Kj_ c1 K R.ty_node) u,?_,⟨fun x hx=>⟨(c3.1 x hx).1,Qt_ (c3.1 x hx).2 K dc_ _ _⟩,fun g n=>by simpa[World.setCell]using c3.2 g n⟩,c4,c5,c6.setCell n _,c7⟩,o,hr⟩;have c:=c2.len;rcases c2.own with⟨f,e2,e3⟩|⟨g',f,j,hn,m,rest,k,hs⟩
 ·rw[f,e2,e3];exact⟨by rw[c,e2],.inl ⟨rfl,rfl⟩⟩
 ·rw[f];refine Mine.mk_own ⟨rest,k.far (fun e=>?_) u,hs⟩ c j hn m;have e':g'=g:=e;apply h2;rw[hr,f,e'];rfl
theorem Kr.setBox {T:Nat} (h:Kr T row0 w0 row w) (hg:w0.heap.size<=g) (i:Nat) (u:Value):Kr T row0 w0 row (w.setCell ⟨g,i,none⟩ u):=
 ⟨lt_ h.1 (by simp[World.setCell]),h.2.1,fun q hq ht hr=>(Below.heap_setCell w ⟨g,i,none⟩ u q (by show q≠g;omega)).trans (h.2.2 q hq ht hr)⟩
theorem Qan_ (w:World) (p:Addr) (u:Value):(w.setCell p u).heap.size=w.heap.size:=by simp[World.setCell]
theorem UG_ {T:Nat} {t:TypeId} (K:Blk w g t cs) (k:Kr T row w row' w') (h1:g≠T) (h2:some g≠row):Blk w' g t cs/\some g≠row':=
 ⟨K.kr k h1 h2,k.fresh h2 K.lt⟩
theorem Wx_ (h:RdI R d st row w):some w.heap.size≠row:=fun e=>by have:=h.row_lt e;omega
end
theorem Gd_ (R:RC) (hi:R.imp=true) (N f:Nat) (HE:EC R N f) (d:Nat) (b:Bool) (s:PS) (row:ON) (w:World) (V:RdI R d (some s) row w) (q:s.at_ < R.n) {r:Nat} (hn:Need R.n (some s) r (f+1)) (hd:d+f<=100000):
  Calls prog 161 #[P_ (some ⟨R.T,0,none⟩),B_ b] w (QA_ R d row w (I_ j_ (Jx_ R.sg (Qd_ R.sg N f) d b (Qf_ (some s))).1) (Jx_ R.sg (Qd_ R.sg N f) d b (Qf_ (some s))).2):=by
 have J:=h_ V;have L:=h_ (Kr.refl R.T row w);have ab:=h_ V.lo;have HL:=h_ (fun t (e:(some s)=some t)=>show t.at_ < R.n by obtain rfl:=oi_ e;exact q);have j:=h_ (fun(row:ON) (W:World) h=>JW_ R hi d (Qf_ (some s)) row W h);unfold QA_ at j |-
 unfold Jx_;dsimp only;have g:=(Qh_ (some s)).trans (Jy_ (sg:=R.sg) (Qf_ (some s)));generalize nmT R.sg (Qf_ (some s))=X at j |-
 generalize nmS R.sg (Qf_ (some s))=st2 at j g |-
 have HS:=h_ (fun(row:ON) (W:World) h=>YP_ R hi d st2 row ⟨#[61]⟩ W h);unfold QA_ at HS;rcases bft (isM R.sg st2 ⟨#[61]⟩)with p|p
 ·rw[ip_ p];have D:=h_ p;have E:=h_ (Qy_ p);have U:=h_ (fun(row:ON) (W:World) h=>HE.value R.U d (Qf_ st2) row W h (hn.next q (g.trans (Qh_ _)) oo) hd);unfold QA_ at U;generalize Qd_ R.sg N f .value d (Qf_ st2)=r4 at U |-
  obtain⟨k,ak⟩:=r4;dsimp only at U |-
  clear V hn p g q;go_enter func161,ntmps161;go_wp2_with fail
  refine pst (Zo_ R hi d (some s) row w J.o HL.o) L ?_;intro w1 S z A;go_wp2_with fail
  refine pst (j.o _ _ z.o) A ?_;intro w2 row2 a i;have G:=i.o.size;have af:=a.o.lt;have c:=Wx_ a.o;have O:=Blk.new w2 96 #[I_ j_ 12,T_ X,S_ none 0 0,B_ b];go_wp2_with fail
  refine(HS.o _ _ (a.o.alloc _)).mono ?_;rw[D.o,E.o];rintro e w3 ⟨rfl,y,Q,v⟩;have B:=QS_ i v;have o:=h_ Q;obtain⟨x,m⟩:=UG_ O v oo c;clear Q v O;go_wp2_with fail
  refine(U.o _ _ o.o).mono ?_;rintro e H ⟨rfl,T,h4,k4⟩;have Z:=QS_ B k4;have Y:=h_ h4;obtain⟨I,F⟩:=UG_ x k4 oo m;clear h4 k4 x;have K:=h_ (Y.o.setBox I F (lt_ ab.o.1 G) 2 (S_ (some ⟨H.heap.size,0,none⟩) 1 1));have aa:=h_ (Z.o.setBox G 2 (S_ (some ⟨H.heap.size,0,none⟩) 1 1));have P:=(I.set_ 2 (S_ (some ⟨H.heap.size,0,none⟩) 1 1)).alloc (C_ #[I_ j_ k] 3);have hm:=GW_ (H.setCell ⟨w2.heap.size,2,none⟩ (S_ (some ⟨H.heap.size,0,none⟩) 1 1)) k;have l:=K.o.lo;rw[Qan_]at hm l;have ac:=h_ hm;have M:=h_ l;have j2:=I.cell 2;have jf:=I.frozen;have jz:=I.lt;have k0:=P.cell 0;have k1:=P.cell 1;have k2:=P.cell 2;have v:=P.cell 3;simp only[List.setIfInBounds_toArray,List.set_cons_succ,List.set_cons_zero,List.getElem?_toArray,List.getElem?_cons_zero,List.getElem?_cons_succ]at k0 k1 k2 v j2;clear I P hm l;go_wp2_with fail
  refine(KK_ R hi d ak T ⟨#[59]⟩ 12 X (some ⟨H.heap.size,0,none⟩) 1 1 [k] b H.heap.size _ (K.o.alloc _) ac.o M.o).mono ?_;rintro e w6 ⟨rfl,n,h6,k6⟩;have C:=QS_ aa k6;go_wp2;go_ret;exact⟨rfl,n,h6,C.o⟩
 ·rw[in_ (by rw[p];decide)];have D:=h_ p;have E:=h_ (QD_ p);clear V hn p g q;go_enter func161,ntmps161;go_wp2_with fail
  refine pst (Zo_ R hi d (some s) row w J.o HL.o) L ?_;intro w1 S z A;go_wp2_with fail
  refine pst (j.o _ _ z.o) A ?_;intro w2 row2 a i;have G:=i.o.size;have af:=a.o.lt;have c:=Wx_ a.o;have O:=Blk.new w2 96 #[I_ j_ 12,T_ X,S_ none 0 0,B_ b];go_wp2_with fail
  refine(HS.o _ _ (a.o.alloc _)).mono ?_;rw[D.o,E.o];rintro e w3 ⟨rfl,y,Q,v⟩;have B:=QS_ i v;have o:=h_ Q;obtain⟨x,m⟩:=UG_ O v oo c;have k0:=x.q0;have k1:=x.q1;have k2:=x.q2;have al:=x.q3;clear Q v O x;go_wp2_with fail
  refine(KK_ R hi d st2 y ⟨#[59]⟩ 12 X none 0 0 [] b w3.heap.size _ o.o (Mine.mk_nil _ _ _ _) o.o.lo).mono ?_;rintro e w6 ⟨rfl,n,h6,k6⟩;have C:=QS_ B k6;go_wp2;go_ret;exact⟨rfl,n,h6,C.o⟩
theorem Qbl_ (R:RC) (hi:R.imp=true) (N f:Nat) (HE:EC R N f) (d:Nat) (b:Bool) (s:PS) (row:ON) (w:World) (M:RdI R d (some s) row w) (n:s.at_ < R.n) {r:Nat} (X:Need R.n (some s) r (f+1)) (hd:d+f<=100000):
  Calls prog 239 #[P_ (some ⟨R.T,0,none⟩),B_ b] w (QA_ R d row w (I_ j_ (Yp_ R.sg (Qd_ R.sg N f) d b (Qf_ (some s))).1) (Yp_ R.sg (Qd_ R.sg N f) d b (Qf_ (some s))).2):=by
 have C:=h_ M;have E:=h_ (Kr.refl R.T row w);have S:=h_ M.lo;have HL:=h_ (fun t (e:(some s)=some t)=>show t.at_ < R.n by obtain rfl:=oi_ e;exact n);unfold QA_ Yp_;dsimp only;have c:=(Qh_ (some s));have L:=h_ (fun(row:ON) (W:World) h=>Vj_ R hi d (Qf_ (some s)) row ⟨#[59]⟩ W h);rcases bft (isM R.sg (Qf_ (some s)) ⟨#[59]⟩)with x|x
 ·rw[ip_ x];rw[x]at L;clear M X x c n;go_enter func239,ntmps239;go_wp2_with fail
  refine pst (Zo_ R hi d (some s) row w C.o HL.o) E ?_;intro w1 p a l;have G:=Blk.new w1 96 #[I_ j_ 15,T_ ⟨#[]⟩,S_ none 0 0,B_ b];go_wp2_with fail
  refine(L.o _ _ (a.o.alloc _)).mono ?_;rintro e w3 ⟨rfl,m⟩;have q:=h_ ((l.o.below bra).below m);have j:=h_ ((a.o.alloc _).next m);have o:=G.next m;have k0:=o.q0;have k1:=o.q1;have k2:=o.q2;have ac:=o.q3;clear m G o;go_wp2_with fail
  refine(KK_ R hi d _ p ⟨#[59]⟩ 15 noT none 0 0 [] b w3.heap.size _ j.o (Mine.mk_nil _ _ _ _) j.o.lo).mono ?_;rintro e w6 ⟨rfl,i,U,Z⟩;have v:=QS_ q Z;go_wp2;go_ret;exact⟨rfl,i,U,v.o⟩
 ·rw[in_ (by rw[x];decide)];rw[x]at L;have K:=h_ (fun(row:ON) (W:World) h=>HE.value R.U d (Qf_ (some s)) row W h (X.next n c oo) hd);unfold QA_ at K;generalize Qd_ R.sg N f .value d (Qf_ (some s))=r4 at K |-
  obtain⟨k,aa⟩:=r4;dsimp only at K |-
  clear M X x c n;go_enter func239,ntmps239;go_wp2_with fail
  refine pst (Zo_ R hi d (some s) row w C.o HL.o) E ?_;intro w1 p a l;have I:=l.o.size;have ab:=a.o.lt;have y:=Wx_ a.o;have G:=Blk.new w1 96 #[I_ j_ 15,T_ ⟨#[]⟩,S_ none 0 0,B_ b];go_wp2_with fail
  refine(L.o _ _ (a.o.alloc _)).mono ?_;rintro e w3 ⟨rfl,m⟩;have q:=h_ ((l.o.below bra).below m);have j:=h_ ((a.o.alloc _).next m);have o:=G.next m;clear m G;go_wp2_with fail
  refine(K.o _ _ j.o).mono ?_;rintro e A ⟨rfl,J,h4,Y⟩;have P:=QS_ q Y;have O:=h_ h4;obtain⟨B,z⟩:=UG_ o Y oo y;clear h4 Y o;have D:=h_ (O.o.setBox B z (lt_ S.o.1 I) 2 (S_ (some ⟨A.heap.size,0,none⟩) 1 1));have Q:=h_ (P.o.setBox I 2 (S_ (some ⟨A.heap.size,0,none⟩) 1 1));have H:=(B.set_ 2 (S_ (some ⟨A.heap.size,0,none⟩) 1 1)).alloc (C_ #[I_ j_ k] 3);have V:=GW_ (A.setCell ⟨w1.heap.size,2,none⟩ (S_ (some ⟨A.heap.size,0,none⟩) 1 1)) k;have g:=D.o.lo;rw[Qan_]at V g;have T:=h_ V;have F:=h_ g;have j2:=B.cell 2;have jf:=B.frozen;have jz:=B.lt;have k0:=H.cell 0;have k1:=H.cell 1;have k2:=H.cell 2;have k3:=H.cell 3;simp only[List.setIfInBounds_toArray,List.set_cons_succ,List.set_cons_zero,List.getElem?_toArray,List.getElem?_cons_zero,List.getElem?_cons_succ]at k0 k1 k2 k3 j2;clear B H V g;go_wp2_with fail
  refine(KK_ R hi d aa J ⟨#[59]⟩ 15 noT (some ⟨A.heap.size,0,none⟩) 1 1 [k] b A.heap.size _ (D.o.alloc _) T.o F.o).mono ?_;rintro e w6 ⟨rfl,i,U,Z⟩;have v:=QS_ Q Z;go_wp2;go_ret;exact⟨rfl,i,U,v.o⟩
theorem VZ_ (R:RC) (hi:R.imp=true) (N f:Nat) (HE:EC R N f) (d:Nat) (st:RdSt) (row:ON) (w:World) (hI:RdI R d st row w) (hn:Need R.n (Qn_ R.sg st ⟨#[40]⟩) 11 f) (hd:d+f<=100000):
  Calls prog 241 #[P_ (some ⟨R.T,0,none⟩)] w fun e w'=>∃A,e=R_ (S_ A 1 1)/\Mine w' w.heap.size 3 1 A 1 1 (Qa_ [(JJ_ R.sg (Qd_ R.sg N f) d st).1])/\∃row',RdI (R.res A) d (JJ_ R.sg (Qd_ R.sg N f) d st).2 row' w'/\Kr R.T row w row' w':=by
 have i:=h_ hI;have o:=h_ (Kr.refl R.T row w);unfold JJ_;dsimp only;have c:=h_ (fun(row:ON) (W:World) h=>HE.value R.U d (Qn_ R.sg st ⟨#[40]⟩) row W h hn hd);unfold QA_ at c;generalize Qd_ R.sg N f .value d (Qn_ R.sg st ⟨#[40]⟩)=r4 at c |-
 obtain⟨k,s⟩:=r4;dsimp only at c |-
 clear hI hn;go_enter func241,ntmps241;go_wp2_with fail
 refine pst (ZQ_ R hi d st row ⟨#[40]⟩ w i.o) o ?_;intro w1 t j p;go_wp2_with fail
 refine pst (c.o _ _ j.o) p ?_;intro w2 row2 l q;go_wp2_with fail
 refine pst (ZQ_ R hi d s row2 ⟨#[41]⟩ w2 l.o) q ?_;intro w3 b m a;have hz:=a.o.size;have HM:=h_ ((GW_ w3 k).more (B':=w.heap.size) hz);have n:=h_ (m.o.res_new (A:=some ⟨w3.heap.size,0,none⟩) (br.alloc (lr_ _) (C_ #[I_ j_ k] 3)) (fun g hg=>by simp at hg;subst hg;simp));have r:=h_ (a.o.below (br.alloc (lr_ _) (C_ #[I_ j_ k] 3)));go_wp2;go_ret;exact⟨_,rfl,HM.o,b,n.o,r.o⟩
section
variable {R:RC} (U:Nat->Prop) (hi:R.imp=true) (d:Nat) (st:RdSt) (row:ON)
include hi
theorem QdK_ (w:World) (hI:RdI { R with U:=U } d st row w):
 Calls prog 119 #[P_ (some ⟨R.T,0,none⟩)] w (RB_ (A_ #[I_ j_ (Qx_ R.sg st 0).1,T_ (Qx_ R.sg st 0).2.1,I_ j_ (Qx_ R.sg st 0).2.2.1,B_ (Qx_ R.sg st 0).2.2.2]) w):=Kl_ { R with U:=U } hi d st row w hI
theorem Qfr_ (m:BA) (w:World) (hI:RdI { R with U:=U } d st row w):
 Calls prog 160 #[P_ (some ⟨R.T,0,none⟩),T_ m] w (RB_ (B_ (isW R.sg st m)) w):=Qs_ { R with U:=U } hi d st row m w hI
theorem Qiv_ (w:World) (hI:RdI { R with U:=U } d st row w) (a:∀s,st=some s->s.at_ < R.n):
 Calls prog 200 #[P_ (some ⟨R.T,0,none⟩)] w fun e w'=>e=R_ (U_ #[])/\∃row',RdI { R with U:=U } d (Qf_ st) row' w'/\Kr R.T row w row' w':=Zo_ { R with U:=U } hi d st row w hI a
end
theorem U9_ {sg:List SgP} {st:RdSt} {m:BA} (h:isW sg st m=true):∃s,st=some s/\s.at_ < sg.length:=by
 cases st with
 |none=>exact absurd h (by rw[vS_];decide)
 |some s=>
  refine⟨s,rfl,?_⟩;rcases Nat.lt_or_ge s.at_ sg.length with hl|hl
  ·exact hl
  ·unfold isW at h;rw[ZO_ (i:=0) hl,show(sgZero.1==1)=false from rfl,Bool.false_and]at h;exact absurd h dc_
theorem x9_ (R:RC) (hi:R.imp=true) (N f:Nat) (HE:EC R N f) (d:Nat) (b:Bool) (s:PS) (row:ON) (w:World) (S:RdI R d (some s) row w) (j:s.at_ < R.n) {r:Nat} (hn:Need R.n (some s) r (f+1)) (hd:d+f<=100000):
  Calls prog 240 #[P_ (some ⟨R.T,0,none⟩),B_ b] w (QA_ R d row w (I_ j_ (ifS R.sg (Qd_ R.sg N f) d b (Qf_ (some s))).1) (ifS R.sg (Qd_ R.sg N f) d b (Qf_ (some s))).2):=by
 obtain⟨i0,ac,ae,af,ag⟩:=info_parts QY_;have aC:=h_ (ai_ ac (ai_ ae (ai_ af ag)));clear ac ae af ag;have T:=h_ S;have X:=h_ (Kr.refl R.T row w);have Y:=h_ S.lo;have D:=h_ S.lo.1;have HL:=h_ (fun t (e:(some s)=some t)=>show t.at_ < R.n by obtain rfl:=oi_ e;exact j);have B:=S.ok.len;unfold QA_ ifS;dsimp only;have i:=Qh_ (some s);have P:=h_ (fun(row:ON) (W:World) h=>VZ_ R hi N f HE d (Qf_ (some s)) row W h (hn.next j (i.trans (Qq_ _ _)) oo) hd);have a:=i.trans (Yy_ (sg:=R.sg) (E:=Qd_ R.sg N f) (fun m d st=>QB_ f m d st) d (Qf_ (some s)));generalize JJ_ R.sg (Qd_ R.sg N f) d (Qf_ (some s))=rc at P a |-
 obtain⟨kc,O⟩:=rc;dsimp only at P a |-
 have L:=h_ (fun(U:Nat->Prop) (row:ON) (W:World) h=>HE.block U d O row W h (hn.next j a oo) hd);have c:=a.trans (QB_ (sg:=R.sg) (N:=N) f .block d O);unfold QA_ at L;generalize Qd_ R.sg N f .block d O=rt at L c |-
 obtain⟨kt,st2⟩:=rt;dsimp only at L c |-
 have Q:=h_ (fun(U:Nat->Prop) (row:ON) (W:World) h=>Qfr_ (R:=R) U hi d st2 row ⟨#[101,108,115,101]⟩ W h);rcases bft (isW R.sg st2 ⟨#[101,108,115,101]⟩)with z|z
 ·rw[ip_ z];rw[z]at Q;have aq:=h_ (fun t (e:st2=some t)=>show t.at_ < R.n by
   obtain⟨t',e',hl⟩:=U9_ z;rw[e]at e';obtain rfl:=oi_ e';omega)
  have p:=h_ (fun(U:Nat->Prop) (row:ON) (W:World) h=>HE.block U d (Qf_ st2) row W h (hn.next j (c.trans (Qh_ _)) oo) hd);unfold QA_ at p;generalize Qd_ R.sg N f .block d (Qf_ st2)=ro at p |-
  obtain⟨ko,az⟩:=ro;dsimp only at p |-
  clear S hn z i a c j B;go_enter func240,ntmps240;go_wp2_with fail
  refine pst (Zo_ R hi d (some s) row w T.o HL.o) X ?_;intro w1 ai F n;go_wp2_with fail
  refine(P.o _ _ F.o).mono ?_;rintro e w2 ⟨A,rfl,m2,row2,h2,k2⟩;have H:=QS_ n k2;have k:=h_ h2;have g:=h_ (m2.more (B':=w.heap.size) n.o.size);clear h2 k2 m2 P;go_wp2_with fail
  refine(L.o _ _ _ k.o).mono ?_;rintro e w3 ⟨rfl,q,h3,M⟩;replace g:=h_ (k.o.keepI M g.o);have G:=h_ h3;have I:=h_ (H.o.trans M);clear h3 M L;go_wp2_with (at_builtin;refine KA_ (.tmp 14) (.tmp 16) G I g D rfl rfl rfl rfl oo ?_;intro A4 c4 w4 l J o)
  replace g:=o;clear o;go_wp2_with fail
  refine(Q.o _ _ _ l.o).mono ?_;rintro e w5 ⟨rfl,y⟩;replace g:=h_ (g.o.next y);have x:=h_ (l.o.next y);have K:=h_ (J.o.below y);clear y Q;go_wp2_with fail
  refine(Qiv_ _ hi d st2 q w5 x.o aq.o).mono ?_;rintro e w6 ⟨rfl,aB,h6,k6⟩;replace g:=h_ (x.o.keepI k6 g.o);have V:=h_ h6;have an:=h_ (K.o.trans k6);clear h6 k6;go_wp2_with fail
  refine(p.o _ _ _ V.o).mono ?_;rintro e w7 ⟨rfl,aj,h7,k7⟩;replace g:=h_ (V.o.keepI k7 g.o);have al:=h_ h7;have ao:=h_ (an.o.trans k7);clear h7 k7 p;go_wp2_with (at_builtin;refine KA_ (.tmp 24) (.tmp 26) al ao g D rfl rfl rfl rfl oo ?_;intro A8 c8 w8 am ap Z)
  replace g:=Z;clear Z;have hA:=addK R hi d az aj 16 noT A8 3 c8 [kc,kt,ko] b w.heap.size w8 am.o.unres g.o Y.o;unfold QA_ at hA;have C:=h_ hA;clear hA;go_wp2_with fail
  refine C.o.mono ?_;rintro e w9 ⟨rfl,v,h9,k9⟩;go_wp2;go_ret;exact⟨rfl,v,h9,ap.o.trans k9⟩
 ·rw[in_ (by rw[z];decide)];rw[z]at Q;clear S hn z i a c j B;go_enter func240,ntmps240;go_wp2_with fail
  refine pst (Zo_ R hi d (some s) row w T.o HL.o) X ?_;intro w1 ai F n;go_wp2_with fail
  refine(P.o _ _ F.o).mono ?_;rintro e w2 ⟨A,rfl,m2,row2,h2,k2⟩;have H:=QS_ n k2;have k:=h_ h2;have g:=h_ (m2.more (B':=w.heap.size) n.o.size);clear h2 k2 m2 P;go_wp2_with fail
  refine(L.o _ _ _ k.o).mono ?_;rintro e w3 ⟨rfl,q,h3,M⟩;replace g:=h_ (k.o.keepI M g.o);have G:=h_ h3;have I:=h_ (H.o.trans M);clear h3 M L;go_wp2_with (at_builtin;refine KA_ (.tmp 14) (.tmp 16) G I g D rfl rfl rfl rfl oo ?_;intro A4 c4 w4 l J o)
  replace g:=o;clear o;go_wp2_with fail
  refine(Q.o _ _ _ l.o).mono ?_;rintro e w5 ⟨rfl,y⟩;replace g:=h_ (g.o.next y);have x:=h_ (l.o.next y);have K:=h_ (J.o.below y);clear y Q;have hA:=addK R hi d st2 q 16 noT A4 2 c4 [kc,kt] b w.heap.size w5 x.o.unres g.o Y.o;unfold QA_ at hA;have C:=h_ hA;clear hA;go_wp2_with fail
  refine C.o.mono ?_;rintro e w9 ⟨rfl,v,h9,k9⟩;go_wp2;go_ret;exact⟨rfl,v,h9,K.o.trans k9⟩
def QeS_ (R:RC) (d:Nat) (a:RdSt) (one:Bool->RdSt->PR) (C:World->Bool->(Ending->World->Prop)->Prop):Prop:=
 ∀(U:Nat->Prop) (b:Bool) (t:PS) (row:ON) (w:World),RdI { R with U:=U } d (some t) row w->Adv 1 0 a (some t)->C w b (QA_ { R with U:=U } d row w (I_ j_ (one b (some t)).1) (one b (some t)).2)
theorem QaI_ (R:RC) (hi:R.imp=true) (N f:Nat) (hN:R.n < N) (HE:EC R N f) (d:Nat) (st:RdSt) (row:ON) (w:World) (hI:RdI R d st row w) (hn:Need R.n st 13 (f+1)) (hd:d+(f+1)<=100000):
  Calls prog 167 #[P_ (some ⟨R.T,0,none⟩)] w (QA_ R d row w (I_ j_ (Ye_ R.sg (Qd_ R.sg N f) N d st).1) (Ye_ R.sg (Qd_ R.sg N f) N d st).2):=by
 obtain⟨i0,aH,aI,aJ,aK⟩:=info_parts QY_;have a0:=h_ (ai_ aH (ai_ aI (ai_ aJ aK)));clear aH aI aJ aK;have ay:=h_ hI;have aA:=h_ (Kr.refl R.T row w);have aP:=h_ hI.lo;have av:=h_ hI.lo.1;have aZ:=hI.ok.len;have HO:Hid (QeS_ R (d+1) st (fun b=>Qd_ R.sg N f (.stmt b) (d+1)) (fun w b Q=>Calls prog 208 #[P_ (some ⟨R.T,0,none⟩),B_ b] w Q)):=(show QeS_ _ _ _ _ _ from fun U b t row w h ha=>HE.stmt U b (d+1) (some t) row w h (by
  obtain⟨s,rfl,h1,_⟩:=ha t rfl;have h2:=(h.le rfl).1;have h3:({ R with U:=U }:RC).n=R.n:=rfl;exact hn.next oo (ha.weak (i':=0+1) (j':=0) oo oo) oo) oo)
 have HA:=h_ (fun(b:Bool) st=>QB_ (sg:=R.sg) (N:=N) f (.stmt b) (d+1) st);unfold QA_ Ye_;dsimp only;have ac:=(Xq_ d st).trans (Qq_ (sg:=R.sg) (KI_ d st) ⟨#[123]⟩);obtain⟨Q,hQ⟩:=ex_ (Zv_ R.sg (fun b=>Qd_ R.sg N f (.stmt b) (d+1)) N [] (Qn_ R.sg (KI_ d st) ⟨#[123]⟩));rw[hQ];have X:=h_ hQ;have F:Hid (Adv 1 0 st (Qn_ R.sg (KI_ d st) ⟨#[123]⟩)):=ac.weak oo oo;have ar:Hid (∀b st,Adv 1 1 st ((fun b=>Qd_ R.sg N f (.stmt b) (d+1)) b st).2):=(show ∀b st,_ from HA.o);generalize (fun b=>Qd_ R.sg N f (.stmt b) (d+1))=one at HO X ar;have a1:=fld3;clear hI hn ac hQ;go_enter func167,ntmps167;go_wp2_with fail
 refine pst (UT_ R hi d st row w ay.o oo) aA ?_;intro w1 aL az aB;go_wp2_with fail
 refine pst (ZQ_ R hi (d+1) (KI_ d st) aL ⟨#[123]⟩ w1 az.o) aB ?_;intro w2 row2 k n;generalize Qn_ R.sg (KI_ d st) ⟨#[123]⟩=st2 at X F k;go_upto_region 4 with fail
 go_loopw [3] (fun v wr=>∃(M:Nat) (ks:LI) (st':RdSt) (row':ON) (A:OA) (c:Nat),v=S_ A ks.length c/\Hid (Zv_ R.sg one M ks st'=Q)/\Hid (Adv 1 0 st st')/\Hid (Enough R.n M st')/\Hid (KidB ks st')/\Hid (Mine wr w.heap.size 3 1 A ks.length c (Qa_ ks))/\Hid (RdI (R.res A) (d+1) st' row' wr)/\Hid (Kr R.T row w row' wr)) (fun _ wr=>Z1_ R wr)
 case atStart=>exact⟨N,[],st2,row2,none,0,rfl,X,F,(show Enough _ _ _ from QP_ hN _),⟨by simp,fun s _=>by simp⟩,Mine.mk_nil _ _ _ _,k.o.res_new br (fun g hg=>by cases hg),n⟩
 case round=>
  clear X F ay az k aA aB n;obtain⟨M,ks,st',row',A,c,rfl,X,ae,ah,aC,E,H,HK⟩:=hrel;have B:=h_ (fun(row:ON) (W:World) (hI:RdI R (d+1) st' row W) (hm:Mine W w.heap.size 3 1 A ks.length c (Qa_ ks))=>KK_ R hi (d+1) st' row ⟨#[125]⟩ 18 noT A ks.length c ks false w.heap.size W hI hm aP.o);unfold QA_ at B
  cases st' with
  |none=>
   obtain⟨a,b,AN,cN,l,hc,hb,V⟩:=H.o;obtain⟨c2,c3,c4,cf,cz⟩:=hc.cu _ hi;obtain rfl:b=true:=hb;have o:=X.o;rw[Xx_]at o;subst o;clear hc c2 c3 V X;go_wp2_with fail
   refine(B.o _ _ H.o.unres E.o).mono ?_;rintro e w4 ⟨rfl,m,O,D⟩;obtain⟨d3,df,dz,P,S⟩:=qH_ hi O;have HF:=h_ (ai_ P ((HK.o.trans D).trans S));clear O D P S c4 cf cz;go_wp2;go_ret;exact⟨rfl,m,HF.o.1,HF.o.2⟩
  |some t=>
   obtain⟨M,rfl⟩:∃M',M=M'+1:=⟨M - 1,by
    have h1:=ah.o t rfl;have h2:=(H.o.le rfl).1;have:(R.res A).n=R.n:=rfl;omega⟩
   obtain⟨a,b,AN,cN,l,hc,hb,V⟩:=H.o;obtain⟨c2,c3,c4,cf,cz⟩:=hc.cu _ hi;obtain⟨rfl,_,_⟩:=hb;have y:=h_ (is_u _ hi (d+1) (some t) row' ⟨#[125]⟩ wr H.o);have o:=X.o;unfold Zv_ at o;rw[in_ (show ¬(some t).isNone=true by simp)]at o;clear hc c2 c3 V X;rcases bft (isM R.sg (some t) ⟨#[125]⟩)with hM|hM
   ·rw[ip_ hM]at o;subst o;rw[hM]at y;clear hM;go_wp2_with fail
    refine y.o.mono ?_;rintro e w2 ⟨rfl,C⟩;have k:=h_ (H.o.next C);have z:=h_ (E.o.next C);have n:=h_ (HK.o.below C);clear c4 cf cz C;go_wp2_with fail
    refine(B.o _ _ k.o.unres z.o).mono ?_;rintro e w4 ⟨rfl,m,O,D⟩;obtain⟨d3,df,dz,P,S⟩:=qH_ hi O;have HF:=h_ (ai_ P ((n.o.trans D).trans S));clear O D P S;go_wp2;go_ret;exact⟨rfl,m,HF.o.1,HF.o.2⟩
   ·rw[in_ (by rw[hM];decide)]at o;rw[hM]at y;have HX:=h_ (fun(row:ON) (W:World) h=>QdK_ (R:=R) (fun x=>R.U x\/A.map (·.block)=some x) hi (d+1) (some t) row W h);have aa:XI_ R.sg (some t) ks=((Qx_ R.sg (some t) 0).2.2.2&&decide (0 < ks.length)):=rfl;rw[aa]at o;generalize Qx_ R.sg (some t) 0=x at HX o aa;obtain⟨xk,xt,xp,xz⟩:=x;dsimp only at HX o aa;clear hM aa B;have aY:=aC.o.2 t rfl;have a3:=(H.o.le rfl).2;have a2:=aC.o.1;have Y:Hid (∀bb:Bool,(xz&&decide (0 < ks.length))=bb->∃r:PR,Zv_ R.sg one M (ks++[r.1]) r.2=Q/\Adv 1 1 (some t) r.2/\∀(row:ON) (W:World),RdI { R with U:=fun x=>R.U x\/A.map (·.block)=some x } (d+1) (some t) row W->Calls prog 208 #[P_ (some ⟨R.T,0,none⟩),B_ bb] W (fun e w'=>e=R_ (I_ j_ r.1)/\∃row',RdI { R with U:=fun x=>R.U x\/A.map (·.block)=some x } (d+1) r.2 row' w'/\Kr R.T row W row' w')):=(show ∀bb,_->_ from fun bb e=>⟨one bb (some t),by rw[<-e];exact o,ar.o bb (some t),fun row W h=>HO.o _ bb t row W h ae.o⟩);clear o
    cases xz with
    |false=>
     obtain⟨r,o,j,hC⟩:=Y.o false rfl;obtain⟨kc,p⟩:=r;dsimp only at o j hC;have al:=h_ o;have HC:=h_ hC;have G:=h_ j;have af:Hid (KidB (ks++[kc]) p):=(show KidB _ _ from⟨by rw[lA];simp;omega,fun t2 e=>by
      obtain⟨aU,e2,_,h3⟩:=j t2 e;obtain rfl:=oi_ e2;rw[lA];simp;omega⟩)
     have ag:Hid (Enough R.n M p):=ah.o.adv (i:=0) j;have ad:Hid (Adv 1 0 st p):=(ae.o.trans j).weak oo oo;have T:(ks++[kc]).length=ks.length+1:=sm_;clear o hC j Y;go_wp2_with fail
     refine y.o.mono ?_;rintro e w2 ⟨rfl,C⟩;have k:=h_ (H.o.next C);have z:=h_ (E.o.next C);have n:=h_ (HK.o.below C);clear c4 cf cz C y;go_wp2_with fail
     refine(HX.o _ _ k.o).mono ?_;rintro e w3 ⟨rfl,Z⟩;have q:=h_ (k.o.next Z);have K:=h_ (z.o.next Z);have J:=h_ (n.o.below Z);clear Z HX k z n;go_wp2_with fail
     refine(HC.o _ _ q.o).mono ?_;rintro e w4 ⟨rfl,m,O,D⟩;have E:=h_ (q.o.keepI D K.o);have ai:=h_ O;have aj:=h_ (J.o.trans D);clear O D q K J;go_wp2_with (at_builtin;refine KA_ (.tmp 30) (.tmp 32) ai aj E av rfl rfl rfl rfl oo ?_;intro A5 c5 w5 I ak L)
     replace E:=L;clear L;go_wp2;go_roundw
     case rel=>exact⟨M,ks++[kc],p,m,A5,c5,by rw[T],al,ad,ag,af,by rw[T];exact E,I,ak⟩
     case measure=>exact G2_ hi H.o I.o (G.o.weak (i':=1) (j':=0) oo oo)
    |true=>
     obtain⟨r,o,j,hC⟩:=Y.o _ rfl;obtain⟨kc,p⟩:=r;dsimp only at o j hC;rw[Bool.true_and]at hC;have al:=h_ o;have HC:=h_ hC;have G:=h_ j;have af:Hid (KidB (ks++[kc]) p):=(show KidB _ _ from⟨by rw[lA];simp;omega,fun t2 e=>by
      obtain⟨aU,e2,_,h3⟩:=j t2 e;obtain rfl:=oi_ e2;rw[lA];simp;omega⟩)
     have ag:Hid (Enough R.n M p):=ah.o.adv (i:=0) j;have ad:Hid (Adv 1 0 st p):=(ae.o.trans j).weak oo oo;have T:(ks++[kc]).length=ks.length+1:=sm_;clear o hC j Y;go_wp2_with fail
     refine y.o.mono ?_;rintro e w2 ⟨rfl,C⟩;have k:=h_ (H.o.next C);have z:=h_ (E.o.next C);have n:=h_ (HK.o.below C);clear c4 cf cz C y;go_wp2_with fail
     refine(HX.o _ _ k.o).mono ?_;rintro e w3 ⟨rfl,Z⟩;have q:=h_ (k.o.next Z);have K:=h_ (z.o.next Z);have J:=h_ (n.o.below Z);clear Z HX k z n;go_wp2_with fail
     refine(HC.o _ _ q.o).mono ?_;rintro e w4 ⟨rfl,m,O,D⟩;have E:=h_ (q.o.keepI D K.o);have ai:=h_ O;have aj:=h_ (J.o.trans D);clear O D q K J;go_wp2_with (at_builtin;refine KA_ (.tmp 30) (.tmp 32) ai aj E av rfl rfl rfl rfl oo ?_;intro A5 c5 w5 I ak L)
     replace E:=L;clear L;go_wp2;go_roundw
     case rel=>exact⟨M,ks++[kc],p,m,A5,c5,by rw[T],al,ad,ag,af,by rw[T];exact E,I,ak⟩
     case measure=>exact G2_ hi H.o I.o (G.o.weak (i':=1) (j':=0) oo oo)
end Go.Proofs.YtbiijipkgfpgoaaGreatDoor

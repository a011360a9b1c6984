/-
  Put together by program (shake.py):LinesI,FlA.
-/
import Derived.Test.YtgbikafalcbibaaGreatDoorMaY
set_option maxRecDepth 100000
set_option linter.all false
set_option maxHeartbeats 25600000
open Go.Lib (hid)
open Go.Proofs.Tryz
namespace Go.Proofs.YtgbikafalcbibaaGreatDoor
open Go.RowKit
def GE_:BA:=⟨#[10]⟩
theorem ixB (s:BA):Lib.indexB s GE_=Lib.indexByte s.data.toList 10:=Lib.index_one s.data.toList 10
theorem jL_ (n:Nat):∀s:BA,s.size<=n->∃(b:List BA) (Y:BA),Lib.splitB GE_ 0 (Lib.countB s GE_) s=b++[Y]/\KJ_ s=if Y.size=0 then b else b++[Y]:=by
 induction n with
 |zero=>
  intro s hs;have c:s.data.toList=[]:=List.eq_nil_of_length_eq_zero (by rw[Qz_];omega);have a:Lib.indexB s GE_= -1:=by rw[ixB,c];rfl
  refine⟨[],s,by rw[Lib.splitB_miss _ _ _ _ a];rfl,?_⟩;rw[if_pos oo,KJ_,c];rfl
 |succ n ih=>
  intro s hs;by_cases c:s.size=0
  ·exact ih s oo
  ·have hc:=Qcr_ (t:=s) oo;rcases qw_ 10 s.data.toList with e|⟨k,e,hk⟩
   ·have a:Lib.indexB s GE_= -1:=(by rw[ixB,e]);refine⟨[],s,by rw[Lib.splitB_miss _ _ _ _ a];rfl,?_⟩;rw[if_neg c,hc];have f:V1_ s=s:=(by unfold V1_;rw[e,if_pos oo]);have g:YB_ s=⟨#[]⟩:=(by unfold YB_;rw[e,if_pos oo]);rw[f,g]
    rfl
   ·have a:Lib.indexB s GE_=k:=(by rw[ixB,e]);have f:V1_ s=s.extract 0 k:=(by unfold V1_;rw[e,if_neg oo];rfl);have g:YB_ s=s.extract (k+1) s.size:=(by unfold YB_;rw[e,if_neg oo];rfl);rw[Qz_]at hk;obtain⟨b,Y,h1,h2⟩:=ih (YB_ s) (by have:=QcQ_ (t:=s) oo;omega);refine⟨V1_ s::b,Y,?_,?_⟩
    ·rw[Lib.countB_hit s GE_ k (by decide) a,Nat.add_comm,Lib.splitB_hit _ _ _ _ _ a,Nat.add_zero,<-f];rw[g]at h1;show _::Lib.splitB GE_ 0 (Lib.countB (s.extract (k+1) s.size) GE_) (s.extract (k+1) s.size)=_;rw[h1];rfl
    ·rw[hc,h2];by_cases d:Y.size=0
     ·rw[if_pos d,if_pos d]
     ·rw[if_neg d,if_neg d];rfl
theorem U3_ (t:BA) (w:World) (m:Int) (ht:t.size<=4194304) (hm:w.cell? ⟨0,0,none⟩=some (.int .i64 m)):Calls prog 67 #[.string t] w (QdD_ w (KJ_ t)):=by
 obtain⟨c,Y,h1,f⟩:=jL_ t.size t (Nat.le_refl _);have g:=hid (Tryz.strings_Split t GE_ m w oo hm (by decide));have n:=Lib.countB_le GE_ (by decide) t.size t (Nat.le_refl _);have a:=Lib.splitB_all GE_ (by decide) 0 _ t rfl;rw[h1]at g a;obtain⟨N,hN⟩:=ex_ (Lib.countB t GE_);rw[hN]at g a n;have d:c.length=N:=by simpa using a
 have K:=hid (Blk.new w 9 ((c++[Y]).map Value.string).toArray);have e1:(w.alloc (.cells ((c++[Y]).map Value.string).toArray 9)).cell? ⟨w.heap.size,N,none⟩=some (.string Y):=by
  have h:=K.o.cell N;rw[h,<-d];simp
 have b:=hid d;obtain⟨C,k⟩:=ex_ (((c++[Y]).map Value.string).toArray);rw[k]at g K e1;have HC:=hid k;have q:w.heap.size < w.heap.size+1:=oo;clear d a h1 hm k;by_cases i:Y.size=0
 ·rw[if_pos i]at f;have j:=hid f;obtain rfl:Y=⟨#[]⟩:=kd_ (List.eq_nil_of_length_eq_zero (by rw[Qz_];exact i));clear i f;go_enter func67,ntmps67;go_wp2_with fail
  refine(g.o).mono ?_;rintro e w2 ⟨rfl,rfl⟩;go_wp2;go_ret;rw[j.o];have l:(c++[(⟨#[]⟩:BA)]).length=N+1:=by simp[b.o]
  refine⟨some ⟨w.heap.size,0,none⟩,N+1,by rw[b.o];rfl,?_,grow_⟩;rw[b.o];refine Mine.mk_own ⟨[.string ⟨#[]⟩],?_,?_⟩ (by simp[Qm_,b.o]) (Nat.le_refl _) oo (by unfold maxLen;omega)
  ·rw[show(Qm_ c++[Value.string ⟨#[]⟩]).toArray=C by rw[<-HC.o];simp[Qm_]];exact K.o
  ·simp[Qm_,b.o]
 ·rw[if_neg i]at f;have j:=hid f;have o:=Qg1_ (show 0 < Y.size from oo);have p:Y.toList.isEmpty=false:=List.isEmpty_eq_false_iff.2 o;clear f;go_enter func67,ntmps67;go_wp2_with fail
  refine(g.o).mono ?_;rintro e w2 ⟨rfl,rfl⟩;go_wp2;go_ret;rw[j.o];have l:(c++[Y]).length=N+1:=by simp[b.o]
  refine⟨some ⟨w.heap.size,0,none⟩,N+1,by rw[l];rfl,?_,grow_⟩;rw[l];refine Mine.mk_own ⟨[],?_,?_⟩ (by simp[Qm_,b.o]) (Nat.le_refl _) oo (by unfold maxLen;omega)
  ·rw[show(Qm_ (c++[Y])++([]:List Value)).toArray=C by rw[<-HC.o];simp[Qm_]];exact K.o
  ·simp[Qm_,b.o]
def qD_ (wd:Int) (k:Nat) (l:BA):List FindingD:=if wd < l.size then [(1,(k:Int)+1,WZ_ l.size)]else []
def KT_ (ls:List BA) (wd:Int):Nat->List FindingD
 |0=>[]
 |k+1=>KT_ ls wd k++(match ls[k]? with|none=>[]|some l=>qD_ wd k l)
theorem zB_ {ls:List BA} {a:Int} {k:Nat} {l:BA} (h:ls[k]? =some l) (hw:a < l.size):KT_ ls a (k+1)=KT_ ls a k++[(1,(k:Int)+1,WZ_ l.size)]:=by
 rw[KT_,h];simp only[qD_,if_pos hw]
theorem xc_ {ls:List BA} {a:Int} {k:Nat} {l:BA} (h:ls[k]? =some l) (hw:¬a < l.size):KT_ ls a (k+1)=KT_ ls a k:=by
 rw[KT_,h];simp only[qD_,if_neg hw,List.append_nil]
theorem Gy_ (ls:List BA) (wd:Int) (k:Nat):(KT_ ls wd k).length<=k:=by
 induction k with
 |zero=>simp[KT_]
 |succ k ih=>
  rw[KT_,lA];split
  ·simp;omega
  ·unfold qD_;split<;>simp<;>omega
def Xo_ (t:BA) (wd:Int):List FindingD:=KT_ (KJ_ t) wd (KJ_ t).length
theorem vz_ {t l:BA} {k:Nat} (h:(KJ_ t)[k]? =some l):l.size<=t.size:=by
 have h1:=zA_ t;have h2:G0_ l<=((KJ_ t).map G0_).sum:=QaM_ G0_ (List.mem_of_getElem? h);unfold G0_ at h2 h1;omega
theorem Ur_ (t:BA) (d:Int) (w:World) (ht:t.size<=1048576):Calls prog 33 #[.string t,.int .i64 d] w (Kj_ w (Xo_ t d)):=by
 obtain⟨i0,hi,K,L,M⟩:=info_parts Kl_;have N:=hid (And.intro hi (And.intro K (And.intro L M)));obtain⟨ls,f⟩:=ex_ (KJ_ t);have HF:=hid (show Xo_ t d=KT_ ls d ls.length by unfold Xo_;rw[f]);have HN:=hid (show ls.length<=1048577 by subst f;have:=Wd_ t;omega);have HZ:=hid (fun(k:Nat) (l:BA) (h:ls[k]? =some l)=>show l.size<=1048576 by subst f;have:=vz_ h;omega);have H9:=hid (fun W (_:True)=>show Calls prog 65 #[.string t] W (QdD_ W ls)from(by rw[<-f];exact(WO_ t W oo).mono fun _ _ h=>QeO_ h));clear hi K L M f;go_enter func33,ntmps33;go_wp2_with fail
 refine(H9.o _ trivial).mono ?_;rintro e w1 ⟨AL,cL,rfl,mL,h1⟩;have C:=hid (mL.more (B':=w.heap.size) (by simp));have M0:=hid (show Mine w1 w.heap.size 41 3 (some ⟨w.heap.size,0,none⟩) (KT_ ls d 0).length 0 ((KT_ ls d 0).flatMap Qc_)from Mine.next (QI_ w 41 3) h1);have s:=QA_ br h1;clear H9 h1 mL;obtain⟨q,n⟩:=ex_ ls.length;have aa:q<=1048577:=by have:=HN.o;omega
 rw[n]at C HF;rw[n];have U:=hid n;clear n;go_wp2;go_loopw [5,7] (fun o i wr=>∃(k:Nat) (A:OA) (c:Nat),k<=q/\i=.int .i64 k/\o=.slice A (KT_ ls d k).length c/\Hid (Mine wr w.heap.size 41 3 A (KT_ ls d k).length c ((KT_ ls d k).flatMap Qc_))/\Hid (Mine wr w.heap.size 9 1 AL q cL (Qm_ ls))/\Below w.heap.size w wr) (fun _ i _=>q - (intOf i).toNat)
 case atStart=>exact⟨0,_,_,Nat.zero_le _,rfl,rfl,M0,C,s⟩
 case round=>
  clear C M0 s;obtain⟨k,A,c,hk,rfl,rfl,E,O,s⟩:=hrel;have p:=Gy_ ls d k;obtain⟨acc,b⟩:=ex_ (KT_ ls d k);rw[b]at E p;rw[b];have R:=hid b;obtain⟨m2,m⟩:=ex_ acc.length;rw[m]at E p;rw[m];have F:=hid m;clear b m;by_cases Y:k < q
  ·obtain⟨l,G⟩:∃l,ls[k]? =some l:=⟨_,gE (by have:=U.o;omega)⟩;obtain⟨b',off,rfl,I,c0⟩:=Ud_ O.o.rd Y G;have ab:=HZ.o k l G;by_cases J:d < l.size
   ·have a:=hid (zB_ G J);rw[R.o]at a;have Q:=hid (fun W (_:True)=>XR_ (l.size:Int) W oo oo);revert a Q;generalize WZ_ l.size=D;intro a Q;clear G;go_wp2_with fail
    refine(Q.o _ trivial).mono ?_;rintro e w2 ⟨rfl,P⟩;have r:=hid (E.o.next P);have H:=hid (O.o.next P);have v:=Qb_ s P;clear E O s P c0 I;go_wp2_with (at_builtin;(refine wpList_append_own _ rfl (.tmp 24) (.tmp 34) _ rfl w.heap.size 41 i0 (.agg #[.int .i64 0,.int .i64 0,.string ⟨#[]⟩]) 3 32 underlying22 N.o.1 N.o.2.1 N.o.2.2.1 N.o.2.2.2 rfl (by decide) _ _ _ rfl (Mine.alloc r.o _) ⟨w2.heap.size,0,none⟩ 1 1 [.int .i64 1,.int .i64 ((k:Int)+1),.string D] rfl rfl (X1_ _ _ _ _ _) (fun x hx=>by simp at hx;rcases hx with rfl|rfl|rfl<;>rfl) (by unfold maxLen;omega) oo (by have:=v.size;simp;omega) ?_);intro v' w3 j z B)
    have y:=v.alloc v.size (.cells #[.int .i64 1,.int .i64 ((k:Int)+1),.string D] 41);have V:Below w.heap.size w w3:=y.grown z y.size (fun g X=>XU_ r.o X);have S:=hid (Mine.grown (Mine.alloc H.o (.cells #[.int .i64 1,.int .i64 ((k:Int)+1),.string D] 41)) z (fun g X=>.inr (Mine.apart H.o r.o (by decide) ((Qw_ A m2 c).symm.trans X))));obtain⟨A3,c3,rfl,Z⟩:=Mine.of j;rw[<-Yo_]at Z;have T:=hid Z;clear j Z z B y;go_wp2;go_roundw
    case rel=>exact⟨k+1,A3,c3,oo,by go_num,by rw[a.o,lA,F.o];rfl,(by rw[a.o,lA,F.o];exact T.o),S,V⟩
    case measure=>simp[intOf];omega
   ·have a:=hid (xc_ G J);rw[R.o]at a;clear G;go_wp2;go_roundw
    case rel=>exact⟨k+1,A,c,oo,by go_num,by rw[a.o,F.o],(by rw[a.o,F.o];exact E),O,s⟩
    case measure=>simp[intOf];omega
  ·obtain rfl:k=q:=oo;go_wp2;go_ret;rw[HF.o,R.o];exact⟨A,c,by rw[F.o];rfl,(by rw[F.o];exact E.o),s⟩
theorem Uk_ (t:BA) (d:Int) (m:Int) (w:World) (ht:t.size<=1048576) (hm:w.cell? ⟨0,0,none⟩=some (.int .i64 m)) (hT:Tab w):Calls prog 36 #[.string t,.int .i64 d] w (Kj_ w (Xo_ t d)):=by
 obtain⟨i0,hi,L,M,N⟩:=info_parts Kl_;have O:=hid (And.intro hi (And.intro L (And.intro M N)));obtain⟨ls,f⟩:=ex_ (KJ_ t);have HF:=hid (show Xo_ t d=KT_ ls d ls.length by unfold Xo_;rw[f]);have HN:=hid (show ls.length<=1048577 by subst f;have:=Wd_ t;omega);have HZ:=hid (fun(k:Nat) (l:BA) (h:ls[k]? =some l)=>show l.size<=1048576 by subst f;have:=vz_ h;omega);have H9:=hid (fun W (x:W.cell? ⟨0,0,none⟩=some (.int .i64 m))=>show Calls prog 67 #[.string t] W (QdD_ W ls)from(by rw[<-f];exact U3_ t W m oo x));have U:=hid hm;have HT:=hid hT;clear hm hT;clear hi L M N f;go_enter func36,ntmps36;go_wp2_with fail
 refine(H9.o _ U.o).mono ?_;rintro e w1 ⟨AL,cL,rfl,mL,h1⟩;have E:=hid mL;have M0:=hid (show Mine w1 w.heap.size 41 3 none (KT_ ls d 0).length 0 ((KT_ ls d 0).flatMap Qc_)from Mine.mk_nil _ _ _ _);have q:=h1;clear H9 h1 mL;obtain⟨s,p⟩:=ex_ ls.length;have ac:s<=1048577:=by have:=HN.o;omega
 rw[p]at E HF;rw[p];have X:=hid p;clear p;go_wp2;go_loopw [5,11] (fun o i wr=>∃(k:Nat) (A:OA) (c:Nat),k<=s/\i=.int .i64 k/\o=.slice A (KT_ ls d k).length c/\Hid (Mine wr w.heap.size 41 3 A (KT_ ls d k).length c ((KT_ ls d k).flatMap Qc_))/\Hid (Mine wr w.heap.size 9 1 AL s cL (Qm_ ls))/\Below w.heap.size w wr) (fun _ i _=>s - (intOf i).toNat)
 case atStart=>exact⟨0,_,_,Nat.zero_le _,rfl,rfl,M0,E,q⟩
 case round=>
  clear E M0 q;obtain⟨k,A,c,hk,rfl,rfl,F,P,q⟩:=hrel;have r:=Gy_ ls d k;obtain⟨acc,b⟩:=ex_ (KT_ ls d k);rw[b]at F r;rw[b];have S:=hid b;obtain⟨m2,n⟩:=ex_ acc.length;rw[n]at F r;rw[n];have G:=hid n;clear b n;by_cases aa:k < s
  ·obtain⟨l,H⟩:∃l,ls[k]? =some l:=⟨_,gE (by have:=X.o;omega)⟩;obtain⟨b',off,rfl,J,c0⟩:=Ud_ P.o.rd aa H;have ad:=HZ.o k l H;by_cases K:d < l.size
   ·have a:=hid (zB_ H K);rw[S.o]at a;have R:=hid (fun W x=>XK_ (l.size:Int) W oo oo x);revert a R;generalize WZ_ l.size=D;intro a R;clear H;go_wp2_with fail
    refine(R.o _ (Joins.tab_stays gPow HT.o q (Nat.le_refl _))).mono ?_;rintro e w2 ⟨rfl,Q⟩;have v:=hid (F.o.next Q);have I:=hid (P.o.next Q);have y:=Qb_ q Q;clear F P q Q c0 J;go_wp2_with (at_builtin;(refine wpList_append_own _ rfl (.tmp 20) (.tmp 27) _ rfl w.heap.size 41 i0 (.agg #[.int .i64 0,.int .i64 0,.string ⟨#[]⟩]) 3 32 underlying22 O.o.1 O.o.2.1 O.o.2.2.1 O.o.2.2.2 rfl (by decide) _ _ _ rfl (Mine.alloc v.o _) ⟨w2.heap.size,0,none⟩ 1 1 [.int .i64 1,.int .i64 ((k:Int)+1),.string D] rfl rfl (X1_ _ _ _ _ _) (fun x hx=>by simp at hx;rcases hx with rfl|rfl|rfl<;>rfl) (by unfold maxLen;omega) oo (by have:=y.size;simp;omega) ?_);intro v' w3 j B C)
    have z:=y.alloc y.size (.cells #[.int .i64 1,.int .i64 ((k:Int)+1),.string D] 41);have Y:Below w.heap.size w w3:=z.grown B z.size (fun g Z=>XU_ v.o Z);have T:=hid (Mine.grown (Mine.alloc I.o (.cells #[.int .i64 1,.int .i64 ((k:Int)+1),.string D] 41)) B (fun g Z=>.inr (Mine.apart I.o v.o (by decide) ((Qw_ A m2 c).symm.trans Z))));obtain⟨A3,c3,rfl,m3⟩:=Mine.of j;rw[<-Yo_]at m3;have V:=hid m3;clear j m3 B C z;go_wp2;go_roundw
    case rel=>exact⟨k+1,A3,c3,oo,by go_num,by rw[a.o,lA,G.o];rfl,(by rw[a.o,lA,G.o];exact V.o),T,Y⟩
    case measure=>simp[intOf];omega
   ·have a:=hid (xc_ H K);rw[S.o]at a;clear H;go_wp2;go_roundw
    case rel=>exact⟨k+1,A,c,oo,by go_num,by rw[a.o,G.o],(by rw[a.o,G.o];exact F),P,q⟩
    case measure=>simp[intOf];omega
  ·obtain rfl:k=s:=oo;go_wp2;go_ret;rw[HF.o,S.o];exact⟨A,c,by rw[G.o];rfl,(by rw[G.o];exact F.o),q⟩
end Go.Proofs.YtgbikafalcbibaaGreatDoor

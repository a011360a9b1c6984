/-
  Put together by program (shake.py):FaC,FaD.
-/
import Derived.Test.YtgbikafalcbibaaGreatDoorMaYN
import Derived.Test.YtgbikafalcbibaaGreatDoorMaYH
import Derived.Test.YtgbikafalcbibaaGreatDoorMaW
import Derived.Test.YtgbikafalcbibaaGreatDoorMaYG
set_option maxRecDepth 100000
set_option linter.all false
set_option maxHeartbeats 25600000
open Go.Lib (hid)
open Go.Proofs.Tryz
namespace Go.Proofs.YtgbikafalcbibaaGreatDoor
open Go.RowKit
theorem JH_ {lt:FindingD->FindingD->Bool} (l:List FindingD):(VQ_ lt l).length=l.length:=by
 have a:∀(l o:List FindingD),(l.foldl (fun o x=>WW_ lt x o) o).length=o.length+l.length:=by
  intro l
  induction l with
  |nil=>intro o;rfl
  |cons x l ih=>
   intro o;rw[List.foldl_cons,ih,(JI_ (lt:=lt) x o).length_eq];simp;omega
 unfold VQ_;rw[a];simp
theorem W5_ (t:BA) (wd most:Int) (w:World) (b l2 d f h:List FindingD)
  (h1:Hid (∀W:World,Below w.heap.size w W->Calls prog 36 #[.string t,.int .i64 wd] W (Kj_ W b))) (U:Hid (∀W:World,Below w.heap.size w W->Calls prog 13 #[.string t] W (Kj_ W l2))) (V:Hid (∀W:World,Below w.heap.size w W->Calls prog 15 #[.string t,.int .i64 most] W (Kj_ W d)))
  (X:Hid (∀W:World,Below w.heap.size w W->Calls prog 37 #[.string t] W (Kj_ W f))) (Y:Hid (∀W:World,Below w.heap.size w W->Calls prog 8 #[.string t] W (Kj_ W h))) (Z:b.length+l2.length+d.length+f.length+h.length<=2097152):
  Calls prog 17 #[.string t,.int .i64 wd,.int .i64 most] w (Kj_ w (VQ_ ltI (b++l2++d++f++h))):=by
 have HN:=hid Z;obtain⟨l,G⟩:=ex_ (b++l2++d++f++h);have ac:l.length<=2097152:=by rw[<-G];simp only[lA];exact Z
 have A:=hid G;rw[G];unfold Kj_ at h1 U V X Y |-
 clear Z G;go_enter func17,ntmps17;go_wp2_with fail
 refine(h1.o _ br).mono ?_;rintro e w1 ⟨k,r,rfl,m1,b1⟩;have M1:=hid (m1.more (Nat.zero_le _));have I:=hid b1;clear m1 b1 h1;go_wp2_with fail
 refine(U.o _ I.o).mono ?_;rintro e w2 ⟨A2,c2,rfl,m2,T⟩;have N1:=hid (M1.o.next T);have N2:=hid (m2.more (Nat.zero_le _));have J:=hid (Qb_ I.o T);clear m2 T U M1 I;go_wp2_with fail
 refine(V.o _ J.o).mono ?_;rintro e w3 ⟨m,s,rfl,m3,F⟩;have P1:=hid (N1.o.next F);have P2:=hid (N2.o.next F);have P3:=hid (m3.more (Nat.zero_le _));have K:=hid (Qb_ J.o F);clear m3 F V N1 N2 J;go_wp2_with fail
 refine(X.o _ K.o).mono ?_;rintro e w4 ⟨o,v,rfl,m4,B⟩;have Q1:=hid (P1.o.next B);have Q2:=hid (P2.o.next B);have Q3:=hid (P3.o.next B);have Q4:=hid (m4.more (Nat.zero_le _));have L:=hid (Qb_ K.o B);clear m4 B X P1 P2 P3 K;go_wp2_with fail
 refine(Y.o _ L.o).mono ?_;rintro e D ⟨p,y,rfl,m5,q⟩;have R1:=hid (Q1.o.next q);have R2:=hid (Q2.o.next q);have R3:=hid (Q3.o.next q);have R4:=hid (Q4.o.next q);have R5:=hid (m5.more (Nat.zero_le _));have M:=hid (Qb_ L.o q);clear m5 q Y Q1 Q2 Q3 Q4 L;have aa:=M.o.size;have Q:=hid (fun(c:Nat) (W:World) (C:Below D.heap.size D W) (hg:Rd W 1 (some ⟨D.heap.size,0,none⟩) 5 [.slice k b.length r,.slice A2 l2.length c2,.slice m d.length s,.slice o f.length v,.slice p h.length y])=>v4_ [(k,r,b),(A2,c2,l2),(m,s,d),(o,v,f),(p,y,h)] D.heap.size c W rfl hg (hid (fun x hx=>by
  simp at hx;rcases hx with rfl|rfl|rfl|rfl|rfl
  ·exact R1.o.next C
  ·exact R2.o.next C
  ·exact R3.o.next C
  ·exact R4.o.next C
  ·exact R5.o.next C)) (by
  have e:sumR [(k,r,b),(A2,c2,l2),(m,s,d),(o,v,f),(p,y,h)] 5=0+b.length+l2.length+d.length+f.length+h.length:=rfl;rw[e];have:=HN.o;omega))
 have z:=hid (show catR [(k,r,b),(A2,c2,l2),(m,s,d),(o,v,f),(p,y,h)] 5=l from A.o);rw[z.o]at Q;have HF:=hid (Rd.fresh (size:=1) (n:=5) D 22 [.slice k b.length r,.slice A2 l2.length c2,.slice m d.length s,.slice o f.length v,.slice p h.length y] rfl);have j:=hid (Q.o 5 _ bra HF.o);unfold Kj_ at j;have O:=hid (M.o.alloc aa (.cells #[.slice k b.length r,.slice A2 l2.length c2,.slice m d.length s,.slice o f.length v,.slice p h.length y] 22));have ab:=O.o.size;clear z Q HF A R1 R2 R3 R4 R5 HN M;go_wp2_with fail
 refine j.o.mono ?_;rintro e w6 ⟨H,c6,rfl,m6,b6⟩;have E:=hid (m6.more ab);have N:=hid (Qb_ O.o b6);have a:=JH_ (lt:=ltI) l;obtain⟨n,i⟩:=ex_ l.length;have HS:=hid (zg_ H n c6 w.heap.size l w6 oo i (by rw[<-i];exact E.o));rw[i]at E a |-
 have R:=hid a;have HM:=hid (show ∀g,H.map (·.block)=some g->w.heap.size<=g from fun g e=>(Mine.blk E.o e).1);clear m6 b6 O i a j E;go_wp2_with fail
 refine HS.o.mono ?_;rintro e w7 ⟨rfl,m7,g7⟩;have S:=hid m7;have P:=hid (N.o.grown g7 N.o.size HM.o);clear m7 g7 HS N HM;go_wp2;go_ret;rw[R.o];exact⟨H,c6,rfl,S.o,P.o⟩
def Gp_ (t:BA) (wd most:Int):List FindingD:=VQ_ ltI (Xo_ t wd++Ze_ t++XV_ t most++KQ_ t++Zq_ t)
theorem V4_ (t:BA) (wd most:Int) (ht:t.size<=1048576):(Xo_ t wd).length+(Ze_ t).length+(XV_ t most).length+(KQ_ t).length+(Zq_ t).length<=2097152:=by
 have h1:(Xo_ t wd).length<=1048577:=Nat.le_trans (Gy_ _ _ _) (by have:=Wd_ t;omega);have h2:=W3_ t;have h3:=ks_ t most;have h4:=qf_ t;have h5:=qg_ t;omega
theorem x2_ (t:BA) (wd most:Int) (ht:t.size<=1048576):(Gp_ t wd most).length<=2097152:=by
 unfold Gp_;rw[JH_];simp only[lA];exact V4_ t wd most ht
theorem WM_ (t:BA) (b most:Int) (w:World) (a:t.size<=1048576):Calls prog 16 #[.string t,.int .i64 b,.int .i64 most] w (Kj_ w (Gp_ t b most)):=
 zh_ t b most w _ _ _ _ _ (hid (fun W _=>Ur_ t b W a)) (hid (fun W _=>J8_ t W a)) (hid (fun W _=>Up_ t most W a)) (hid (fun W _=>GN_ t W a)) (hid (fun W _=>GO_ t W a)) (V4_ t b most a)
theorem U0_ (t:BA) (b most:Int) (m:Int) (w:World) (a:t.size<=1048576) (hm:w.cell? ⟨0,0,none⟩=some (.int .i64 m)) (hT:Tab w):Calls prog 17 #[.string t,.int .i64 b,.int .i64 most] w (Kj_ w (Gp_ t b most)):=
 W5_ t b most w _ _ _ _ _ (hid (fun W h=>Uk_ t b m W a ((h.cell (p:=⟨0,0,none⟩) (Jr_ hm)).trans hm) (Joins.tab_stays gPow hT h (Nat.le_refl _)))) (hid (fun W _=>JC_ t W a)) (hid (fun W h=>Ui_ t most W a (Joins.tab_stays gPow hT h (Nat.le_refl _)))) (hid (fun W _=>Gq_ t W a)) (hid (fun W _=>Gr_ t W a)) (V4_ t b most a)
theorem lawFindAll (t:BA) (j most:Int) (w:World) (ht:t.size<=maxLen) (m:Int) (n:w.cell? ⟨0,0,none⟩=some (.int .i64 m)) (hT:Tab w):Calls prog 6 #[.string t,.int .i64 j,.int .i64 most] w fun e w'=>e=.returned (.bool true)/\Below w.heap.size w w':=by
 have b:=Below.refl w.heap.size w;unfold maxLen at ht;by_cases h1:1048576 < t.size
 ·clear n;go_enter func6,ntmps6;go_wp2;go_ret;exact⟨rfl,grow_⟩
 ·have a:t.size<=1048576:=oo;have v:=Jr_ n;have HM:=hid (fun(W:World) (h:Below w.heap.size w W)=>(h.cell (p:=⟨0,0,none⟩) v).trans n);have HT:=hid (fun(W:World) (h:Below w.heap.size w W)=>(Joins.tab_stays gPow hT h (Nat.le_refl _):Tab W));have s:(Gp_ t j most).length<=2097152:=x2_ t j most a;have o:=hid (fun W x1 x2=>U0_ t j most m W a x1 x2);have HP:=hid (fun W=>WM_ t j most W a);obtain⟨l,hr⟩:=ex_ (Gp_ t j most);rw[hr]at o HP s;clear hr ht h1 n hT;go_enter func6,ntmps6;go_wp2_with fail
  refine(HP.o _).mono ?_;rintro e w2 ⟨A0,c0,rfl,d,c⟩;replace b:=Qb_ b c;clear c;have q0:=hid (fun g (k:A0.map (·.block)=some g)=>(d.blk k).2);have z0:=b.size;go_wp2_with fail
  refine(o.o _ (HM.o _ b) (HT.o _ b)).mono ?_;rintro e w3 ⟨A3,c3,rfl,i,c⟩;replace d:=d.next c;replace b:=Qb_ b c;clear c;obtain⟨H3,q⟩:∃H,H=w2.heap.size:=⟨_,rfl⟩;rw[<-q]at i q0 z0;go_wp2_with fail
  refine(YZ_ _ _ _ _ _ l _ oo rfl i.rd d.rd).mono ?_;rintro e w2 ⟨rfl,a⟩;replace d:=by first|exact d.next a|exact d.next1 a|exact d.next2 a
  replace i:=by first|exact i.next a|exact i.next1 a|exact i.next2 a
  replace b:=by first|exact Qb_ b a|exact QA_ b a|exact Yy_ b a
  clear a;go_wp2_with fail
  refine(Gz_ _ _ _ _ _ _ _ i oo oo).mono ?_;rintro e w2 ⟨rfl,f,k⟩;replace d:=d.grown k (fun g e=>.inr (fun h=>by have:=(i.blk e).1;have:=q0.o _ h;omega));replace b:=ke_ b k (fun g e=>by have:=(i.blk e).1;omega);clear k i;go_wp2_with fail
  refine(YO_ _ _ _ _ _ f.rd oo oo).mono ?_;rintro e w2 ⟨rfl,a⟩;replace d:=by first|exact d.next a|exact d.next1 a|exact d.next2 a
  replace f:=by first|exact f.next a|exact f.next1 a|exact f.next2 a
  replace b:=by first|exact Qb_ b a|exact QA_ b a|exact Yy_ b a
  clear a;go_wp2_with fail
  refine(o.o _ (HM.o _ b) (HT.o _ b)).mono ?_;rintro e w3 ⟨A5,c5,rfl,m5,c⟩;replace d:=d.next c;replace f:=f.next c;replace b:=Qb_ b c;clear c;go_wp2_with fail
  refine(YZ_ _ _ _ _ _ l _ oo rfl m5.rd d.rd).mono ?_;rintro e w2 ⟨rfl,a⟩;replace f:=by first|exact f.next a|exact f.next1 a|exact f.next2 a
  replace b:=by first|exact Qb_ b a|exact QA_ b a|exact Yy_ b a
  clear a;go_wp2_with fail
  refine(YO_ _ _ _ _ _ f.rd oo oo).mono ?_;rintro e w2 ⟨rfl,a⟩;replace b:=by first|exact Qb_ b a|exact QA_ b a|exact Yy_ b a
  clear a;go_wp2;go_ret;exact⟨rfl,grow_⟩
end Go.Proofs.YtgbikafalcbibaaGreatDoor

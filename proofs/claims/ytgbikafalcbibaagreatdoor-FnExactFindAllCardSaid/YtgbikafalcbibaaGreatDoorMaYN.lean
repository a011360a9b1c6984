/-
  Put together by program (shake.py):FaB.
-/
import Derived.Test.YtgbikafalcbibaaGreatDoorMaYM
import Derived.Test.YtgbikafalcbibaaGreatDoorMaYL
set_option maxRecDepth 100000
set_option linter.all false
set_option maxHeartbeats 25600000
open Go.Lib (hid)
open Go.Proofs.Tryz
namespace Go.Proofs.YtgbikafalcbibaaGreatDoor
open Go.RowKit
theorem K2_ {P:Program} {w:World} {E:Array Oper} {rest:List Oper} {o:Oper} {a:Act} {Q:Exit->Act->World->Prop} (y:o.guard=none) (s x:Operand) (t:TypeId)
  (ho:o.op=.call { callee:=.builtin .append,args:=#[s,x],argTypes:=#[t,t] })
  (base:Nat) (e:TypeId) (i:TypeInfo) (z:Value) (size f:Nat) (ht:P.underlying t=some (.slice e)) (hi:P.info? e=some i) (hz:i.zero=some z)
  (r:i.size=size) (H:i.bytes=f) (K:z.cells.size=size) (J:0 < size)
  (v:Value) (n:Nat) (xs:List Value) (hs:a.eval s=v) (l:w.ownsRow base e size v n xs)
  (A:OA) (m c B:Nat) (d:List Value) (hx:a.eval x=.slice A m c) (D:Mine w B e size A m c d) (h1:∀u∈d,u.oneCell'=true)
  (G:n+m<=maxLen) (p:(n+m) * f<=140737488355328) (q:base<=w.heap.size)
  (h:∀v' w',w'.ownsRow base e size v' (n+m) (xs++d)->w.grownBy w' v.ownBlock->wpList P E Q rest (a.put o.dst v') w'):wpList P E Q (o::rest) a w:=by
 rcases D.own with⟨rfl,rfl,rfl⟩|⟨g,rfl,_,_,_,L⟩
 ·have e0:d=[]:=List.eq_nil_of_length_eq_zero (by simpa using D.len);subst e0;refine wpList_append_own_none y s x t ho base e i size ht hi v n xs hs l hx (h v w (by rw[List.append_nil];exact l) ⟨rfl,rfl,rfl,Nat.le_refl _,fun k _ _=>rfl⟩)
 ·refine Qf_ w y s x t ho base e i z size f ht hi hz r H K J v n xs hs l ⟨g,0,none⟩ m c d hx D.len (fun j u hj=>?_) h1 G p q (fun v' w' h2 h3 _=>h v' w' h2 h3);have C:=(List.getElem?_eq_some_iff.1 hj).1;rw[D.len]at C;have h0:0 < m:=Nat.pos_of_ne_zero (fun e=>by subst e;simp at C);obtain⟨b,off,F,_,I⟩:=D.rd.2 h0;injection F with F;injection F with e1 e2;subst e1;subst e2;have h7:=I j u hj;unfold Addr.add;split
  ·next e=>subst e;simpa using h7
  ·simpa using h7
theorem Z9_ (w:World) (u v x:Value) (t:TypeId):∀j y,[u,v,x][j]? =some y->(w.alloc (.cells #[u,v,x] t)).cell? ((⟨w.heap.size,0,none⟩:Addr).add j)=some y:=by
 intro j y a
 match j,a with
 |0,a=>obtain rfl:=Option.some.inj a;exact(Blk.new w t #[u,v,x]).cell 0
 |1,a=>obtain rfl:=Option.some.inj a;exact(Blk.new w t #[u,v,x]).cell 1
 |2,a=>obtain rfl:=Option.some.inj a;exact(Blk.new w t #[u,v,x]).cell 2
 |j+3,a=>simp at a
theorem Uy_ (l:List FindingD):∀u∈l.flatMap Qc_,u.oneCell'=true:=fun u hu=>by
 obtain⟨d,_,hd⟩:=List.mem_flatMap.1 hu;simp[Qc_]at hd;rcases hd with rfl|rfl|rfl<;>rfl
theorem Xd_ {wr k:World} {B c:Nat} {A:OA} {fs:List FindingD} {v':Value} {a b:Int} {s:BA} {o:Obj}
  (m:Mine wr B 41 3 A fs.length c (fs.flatMap Qc_)) (p:B<=wr.heap.size)
  (i:k.ownsRow B 41 3 v' (fs.length+1) (fs.flatMap Qc_++[.int .i64 a,.int .i64 b,.string s]))
  (q:(wr.alloc o).grownBy k (Value.slice A fs.length c).ownBlock)
  (j:v'.ownBlock=(Value.slice A fs.length c).ownBlock\/v'.ownBlock=some (wr.alloc o).heap.size):
  ∃f l,v'=.slice f (fs++[(a,b,s)]).length l/\Mine k B 41 3 f (fs++[(a,b,s)]).length l ((fs++[(a,b,s)]).flatMap Qc_)/\(∀g,f.map (·.block)=some g->A.map (·.block)=some g\/wr.heap.size<=g)/\
   (∀(n:TypeId) (r:Nat) (A':OA) (n' c':Nat) (d:List Value),Mine wr B n r A' n' c' d->(∀g,A.map (·.block)=some g->A'.map (·.block)≠some g)->Mine k B n r A' n' c' d)/\∀W:World,Below B W wr->Below B W k:=by
 obtain⟨f,l,rfl,m5⟩:=Mine.of i;rw[Qw_]at q;rw[Qw_,Qw_]at j;refine⟨f,l,by rw[lA];rfl,by rw[Yo_,lA];exact m5,fun g e=>?_,fun n r A' n' c' d h hd=>?_,fun W hW=>?_⟩
 ·rcases j with h|h
  ·exact .inl (by rw[<-h];exact e)
  ·rw[h]at e;injection e with e;simp at e;exact .inr oo
 ·exact(Mine.alloc h o).grown q (fun g e=>.inr (hd g e))
 ·exact(hW.alloc (by exact p) o).grown q (by simp;omega) (fun g e=>(Mine.blk m e).1)
def YH_ (x:FindingD) (a:List FindingD × Bool) (y:FindingD):List FindingD × Bool:=if (!a.2&&ltI x y)=true then (a.1++[x]++[y],true)else (a.1++[y],a.2)
theorem Qbo_ (x:FindingD):∀(o acc:List FindingD),o.foldl (YH_ x) (acc,true)=(acc++o,true):=by
 intro o
 induction o with
 |nil=>intro acc;simp
 |cons y o ih=>
  intro acc;rw[List.foldl_cons];have e:YH_ x (acc,true) y=(acc++[y],true):=rfl;rw[e,ih,List.append_assoc];rfl
theorem Qc6_ (x:FindingD):∀(o acc:List FindingD),(if (o.foldl (YH_ x) (acc,false)).2=true then (o.foldl (YH_ x) (acc,false)).1 else (o.foldl (YH_ x) (acc,false)).1++[x])=acc++WW_ ltI x o:=by
 intro o
 induction o with
 |nil=>intro acc;rfl
 |cons y o ih=>
  intro acc;rw[List.foldl_cons];unfold WW_;by_cases h:ltI x y=true
  ·have e:YH_ x (acc,false) y=(acc++[x]++[y],true):=(by unfold YH_;rw[h];rfl);rw[e,Qbo_,if_pos rfl,if_pos h];simp
  ·have e:YH_ x (acc,false) y=(acc++[y],false):=(by unfold YH_;rw[if_neg (by simpa using h)]);rw[e,ih,if_neg h,List.append_assoc];rfl
theorem Qc7_ (x:FindingD):∀(o:List FindingD) (a:List FindingD × Bool),(o.foldl (YH_ x) a).1.length<=a.1.length+2 * o.length:=by
 intro o
 induction o with
 |nil=>intro a;simp
 |cons y o ih=>
  intro a;rw[List.foldl_cons];have h1:=ih (YH_ x a y);have h2:(YH_ x a y).1.length<=a.1.length+2:=by unfold YH_;split<;>simp
  simp only[List.length_cons];omega
theorem Qak_ {lt:FindingD->FindingD->Bool} (l:List FindingD) (k:Nat):((l.take k).foldl (fun o x=>WW_ lt x o) []).length<=k:=by
 have a:∀(l o:List FindingD),(l.foldl (fun o x=>WW_ lt x o) o).length=o.length+l.length:=by
  intro l
  induction l with
  |nil=>intro o;rfl
  |cons x l ih=>
   intro o;rw[List.foldl_cons,ih,(JI_ (lt:=lt) x o).length_eq];simp;omega
 rw[a,List.length_take];simp;omega
theorem qE_ {x0 a y0 b:Int} {x2 y2:BA}:ltI (x0,a,x2) (y0,b,y2)=(decide (a < b)||(decide (a=b)&&decide (x0 < y0))):=rfl
theorem zh_ (t:BA) (wd most:Int) (w:World) (l1 l2 l3 l4 l5:List FindingD)
  (h1:Hid (∀W:World,Below w.heap.size w W->Calls prog 33 #[.string t,.int .i64 wd] W (Kj_ W l1))) (h2:Hid (∀W:World,Below w.heap.size w W->Calls prog 12 #[.string t] W (Kj_ W l2))) (h3:Hid (∀W:World,Below w.heap.size w W->Calls prog 14 #[.string t,.int .i64 most] W (Kj_ W l3)))
  (h4:Hid (∀W:World,Below w.heap.size w W->Calls prog 34 #[.string t] W (Kj_ W l4))) (h5:Hid (∀W:World,Below w.heap.size w W->Calls prog 7 #[.string t] W (Kj_ W l5))) (hn:l1.length+l2.length+l3.length+l4.length+l5.length<=2097152):
  Calls prog 16 #[.string t,.int .i64 wd,.int .i64 most] w (Kj_ w (VQ_ ltI (l1++l2++l3++l4++l5))):=by
 obtain⟨i0,hi,bY,bZ,b0⟩:=info_parts Kl_;have f:=hid (And.intro hi (And.intro bY (And.intro bZ b0)));obtain⟨q2,a9⟩:=ex_ (l1++l2);obtain⟨q3,ba⟩:=ex_ (q2++l3);obtain⟨q4,bb⟩:=ex_ (q3++l4);obtain⟨l,hl⟩:=ex_ (q4++l5);have g2:q2.length=l1.length+l2.length:=by rw[<-a9,lA]
 have g3:q3.length=q2.length+l3.length:=by rw[<-ba,lA]
 have g4:q4.length=q3.length+l4.length:=by rw[<-bb,lA]
 have g5:l.length=q4.length+l5.length:=by rw[<-hl,lA]
 have bJ:=hid a9;have bK:=hid ba;have bM:=hid bb;have bN:=hid hl;have cN:l.length<=2097152:=oo;rw[a9,ba,bb,hl];obtain⟨n1,bs⟩:=ex_ l1.length;obtain⟨n2,bv⟩:=ex_ l2.length;obtain⟨n3,bx⟩:=ex_ l3.length;obtain⟨n4,bz⟩:=ex_ l4.length;obtain⟨n5,bA⟩:=ex_ l5.length;obtain⟨p2,bB⟩:=ex_ q2.length;obtain⟨p3,bC⟩:=ex_ q3.length;obtain⟨p4,bD⟩:=ex_ q4.length;obtain⟨n,aZ⟩:=ex_ l.length;rw[bs,bv,bB]at g2;rw[bx,bB,bC]at g3;rw[bz,bC,bD]at g4;rw[bA,bD,aZ]at g5;rw[aZ]at cN;have HN:=hid aZ;have bj:=hid g2;have bk:=hid g3;have bl:=hid g4;have bm:=hid g5;have cF:p2<=2097152:=oo;have cG:p3<=2097152:=oo;have cH:p4<=2097152:=oo;have cI:n1<=2097152:=oo;have cJ:n2<=2097152:=oo;have cK:n3<=2097152:=oo;have cL:n4<=2097152:=oo;have cM:n5<=2097152:=oo;obtain⟨O,hO⟩:=ex_ (fun k=>(l.take k).foldl (fun o x=>WW_ ltI x o) []);have HE:=hid (show VQ_ ltI l=O l.length by rw[<-hO];dsimp only;rw[List.take_length];rfl);have cn:=hid (show O 0=[]by rw[<-hO];rfl);have co:=hid (show ∀(k:Nat) (x:FindingD),l[k]? =some x->O (k+1)=WW_ ltI x (O k)from fun k x h=>by
  rw[<-hO];dsimp only;rw[List.take_add_one,h,Option.toList_some,List.foldl_append];rfl)
 have cp:=hid (show ∀k,(O k).length<=k from fun k=>by rw[<-hO];exact Qak_ l k);rw[HE.o];unfold Kj_ at h1 h2 h3 h4 h5 |-
 rw[bs]at h1;rw[bv]at h2;rw[bx]at h3;rw[bz]at h4;rw[bA]at h5;rw[aZ];clear hi bY bZ b0 hl hO HE g2 g3 g4 g5 a9 ba bb hn bs bv bx bz bA bB bC bD aZ;go_enter func16,ntmps16;go_wp2_with fail
 refine(h1.o _ br).mono ?_;rintro e w1 ⟨A1,c1,rfl,m1,b1⟩;have M1:=hid m1;have B1:=hid b1;clear m1 b1 h1;go_wp2_with fail
 refine(h2.o _ B1.o).mono ?_;rintro e x2 ⟨X2,y2,rfl,m2,b2⟩;have MX:=hid m2;have MP:=hid (M1.o.next b2);have BP:=hid (Qb_ B1.o b2);have R:=BP.o.size;clear m2 b2 M1 B1 h2;go_wp2_with (at_builtin;(refine K2_ rfl (.tmp 16) (.tmp 18) _ rfl w.heap.size 41 i0 (.agg #[.int .i64 0,.int .i64 0,.string ⟨#[]⟩]) 3 32 underlying22 f.o.1 f.o.2.1 f.o.2.2.1 f.o.2.2.2 rfl (by decide) (.slice A1 n1 c1) n1 (l1.flatMap Qc_) rfl MP.o X2 n2 y2 _ (l2.flatMap Qc_) rfl MX.o (Uy_ l2) (by unfold maxLen;omega) oo R ?_);intro v' w2 a H)
 obtain⟨A2,c2,rfl,m3⟩:=Mine.of a;rw[<-bj.o,<-List.flatMap_append,bJ.o]at m3;have B2:=hid (BP.o.grown H R (fun g e=>by rw[Qw_]at e;exact(Mine.blk MP.o e).1));have M2:=hid m3;rw[<-bj.o];clear a H m3 MP BP MX R;go_wp2_with fail
 refine(h3.o _ B2.o).mono ?_;rintro e x3 ⟨X3,y3,rfl,m2,b2⟩;have MX:=hid m2;have MP:=hid (M2.o.next b2);have BP:=hid (Qb_ B2.o b2);have R:=BP.o.size;clear m2 b2 M2 B2 h3;go_wp2_with (at_builtin;(refine K2_ rfl (.tmp 20) (.tmp 23) _ rfl w.heap.size 41 i0 (.agg #[.int .i64 0,.int .i64 0,.string ⟨#[]⟩]) 3 32 underlying22 f.o.1 f.o.2.1 f.o.2.2.1 f.o.2.2.2 rfl (by decide) (.slice A2 p2 c2) p2 (q2.flatMap Qc_) rfl MP.o X3 n3 y3 _ (l3.flatMap Qc_) rfl MX.o (Uy_ l3) (by unfold maxLen;omega) oo R ?_);intro v' w3 a H)
 obtain⟨A3,c3,rfl,m3⟩:=Mine.of a;rw[<-bk.o,<-List.flatMap_append,bK.o]at m3;have B3:=hid (BP.o.grown H R (fun g e=>by rw[Qw_]at e;exact(Mine.blk MP.o e).1));have M3:=hid m3;rw[<-bk.o];clear a H m3 MP BP MX R;go_wp2_with fail
 refine(h4.o _ B3.o).mono ?_;rintro e x4 ⟨X4,y4,rfl,m2,b2⟩;have MX:=hid m2;have MP:=hid (M3.o.next b2);have BP:=hid (Qb_ B3.o b2);have R:=BP.o.size;clear m2 b2 M3 B3 h4;go_wp2_with (at_builtin;(refine K2_ rfl (.tmp 25) (.tmp 27) _ rfl w.heap.size 41 i0 (.agg #[.int .i64 0,.int .i64 0,.string ⟨#[]⟩]) 3 32 underlying22 f.o.1 f.o.2.1 f.o.2.2.1 f.o.2.2.2 rfl (by decide) (.slice A3 p3 c3) p3 (q3.flatMap Qc_) rfl MP.o X4 n4 y4 _ (l4.flatMap Qc_) rfl MX.o (Uy_ l4) (by unfold maxLen;omega) oo R ?_);intro v' w4 a H)
 obtain⟨A4,c4,rfl,m3⟩:=Mine.of a;rw[<-bl.o,<-List.flatMap_append,bM.o]at m3;have B4:=hid (BP.o.grown H R (fun g e=>by rw[Qw_]at e;exact(Mine.blk MP.o e).1));have M4:=hid m3;rw[<-bl.o];clear a H m3 MP BP MX R;go_wp2_with fail
 refine(h5.o _ B4.o).mono ?_;rintro e x5 ⟨X5,y5,rfl,m2,b2⟩;have MX:=hid m2;have MP:=hid (M4.o.next b2);have BP:=hid (Qb_ B4.o b2);have R:=BP.o.size;clear m2 b2 M4 B4 h5;go_wp2_with (at_builtin;(refine K2_ rfl (.tmp 29) (.tmp 31) _ rfl w.heap.size 41 i0 (.agg #[.int .i64 0,.int .i64 0,.string ⟨#[]⟩]) 3 32 underlying22 f.o.1 f.o.2.1 f.o.2.2.1 f.o.2.2.2 rfl (by decide) (.slice A4 p4 c4) p4 (q4.flatMap Qc_) rfl MP.o X5 n5 y5 _ (l5.flatMap Qc_) rfl MX.o (Uy_ l5) (by unfold maxLen;omega) oo R ?_);intro v' w5 a H)
 obtain⟨A5,c5,rfl,m3⟩:=Mine.of a;rw[<-bm.o,<-List.flatMap_append,bN.o]at m3;have B5:=hid (BP.o.grown H R (fun g e=>by rw[Qw_]at e;exact(Mine.blk MP.o e).1));have M5:=hid m3;rw[<-bm.o];clear a H m3 MP BP MX R;clear bJ bK bM bN bj bk bl bm cF cG cH cI cJ cK cL cM;have b3:=B5.o.size;go_wp2;have MA:=hid (M5.o.alloc (.cells #[] 41));have MO:=hid (Mine.more (QI_ w5 41 3) b3);have BA:=hid (B5.o.alloc b3 (.cells #[] 41));clear M5 B5;go_loopw [8,9] (fun o i wr=>∃(k:Nat) (A:OA) (c:Nat),k<=n/\i=.int .i64 k/\o=.slice A (O k).length c/\Hid (Mine wr w.heap.size 41 3 A (O k).length c ((O k).flatMap Qc_))/\Hid (Mine wr w.heap.size 41 3 A5 n c5 (l.flatMap Qc_))/\Hid (Below w.heap.size w wr)) (fun _ i _=>n - (intOf i).toNat)
 case atStart=>
  refine⟨0,some ⟨w5.heap.size,0,none⟩,0,Nat.zero_le _,rfl,?_,?_,MA,BA⟩
  all_goals rw[cn.o]
  ·rfl
  ·exact MO
 case round=>
  clear MA MO BA;obtain⟨k,A,c,hk,rfl,rfl,HO,HL,HB⟩:=hrel;by_cases aY:k < n
  ·obtain⟨x,hx⟩:∃x,l[k]? =some x:=⟨_,gE (by rw[HN.o];exact aY)⟩;have a3:=hid hx;have bq:=co.o k x hx;have bX:=cp.o k;obtain⟨o,ho⟩:=ex_ (O k);rw[ho]at HO bq bX |-
   obtain⟨no,a8⟩:=ex_ o.length;have cr:=hid a8;rw[a8]at HO bX |-
   obtain⟨G,hG⟩:=ex_ (fun j=>(o.take j).foldl (YH_ x) ([],false));have cg:=hid (show G 0=([],false)by rw[<-hG];rfl);have ch:=hid (show ∀(j:Nat) (y:FindingD),o[j]? =some y->G (j+1)=YH_ x (G j) y from fun j y h=>by
    rw[<-hG];dsimp only;rw[List.take_add_one,h,Option.toList_some,List.foldl_append];rfl)
   have ck:=hid (show ∀j,(G j).1.length<=2 * j from fun j=>by
    rw[<-hG];have h:=Qc7_ x (o.take j) ([],false);have h2:(o.take j).length<=j:=(by rw[List.length_take];omega);dsimp only;simp only[List.length_nil]at h;omega)
   have cj:=hid (show O (k+1)=if (G no).2=true then (G no).1 else (G no).1++[x]by
    rw[bq,<-hG];dsimp only;have e:o.take no=o:=(by rw[<-a8,List.take_length]);simp only[e];rw[Qc6_ x o [],List.nil_append])
   obtain⟨x0,x1,x2⟩:=x;have cZ:(k:Int) < (n:Int):=oo;clear ho a8 hG bq hx;rename World=>wo
   have b4:=HB.o.size;have bP:=hid (Mine.more (QI_ wo 41 3) b4);have be:=hid (HO.o.alloc (.cells #[] 41));have bd:=hid (HL.o.alloc (.cells #[] 41));have bc:=hid (HB.o.alloc b4 (.cells #[] 41));have bG:=hid (show ∀g,(some ⟨wo.heap.size,0,none⟩:OA).map (·.block)=some g->A.map (·.block)≠some g from fun g e z=>by
    have:=(Mine.blk HO.o z).2;simp at e;omega)
   have bH:=hid (show ∀g,(some ⟨wo.heap.size,0,none⟩:OA).map (·.block)=some g->A5.map (·.block)≠some g from fun g e z=>by
    have:=(Mine.blk HL.o z).2;simp at e;omega)
   clear HO HL HB;go_wp2;go_loopw [10,11,12] (fun nx pt i wr=>∃(j:Nat) (B:OA) (d:Nat),j<=no/\i=.int .i64 j/\nx=.slice B (G j).1.length d/\pt=.bool (G j).2/\Hid (Mine wr w.heap.size 41 3 B (G j).1.length d ((G j).1.flatMap Qc_))/\Hid (Mine wr w.heap.size 41 3 A no c (o.flatMap Qc_))/\Hid (Mine wr w.heap.size 41 3 A5 n c5 (l.flatMap Qc_))/\Hid (∀g,B.map (·.block)=some g->A.map (·.block)≠some g)/\Hid (∀g,B.map (·.block)=some g->A5.map (·.block)≠some g)/\Hid (Below w.heap.size w wr)) (fun _ _ i _=>no - (intOf i).toNat)
   case atStart=>
    refine⟨0,some ⟨wo.heap.size,0,none⟩,0,Nat.zero_le _,rfl,?_,?_,?_,be,bd,bG,bH,bc⟩
    all_goals rw[cg.o]
    all_goals first|rfl|exact bP
   case round=>
    clear bP be bd bc bG bH;obtain⟨j,B,d,hj,rfl,rfl,rfl,HM,HO,HL,HD,HE,HB⟩:=hrel;have a6:=ck.o j;by_cases aH:j < no
    ·obtain⟨⟨y0,y1,y2⟩,hy⟩:∃y,o[j]? =some y:=⟨_,gE (by rw[cr.o];exact aH)⟩;have aK:=hid (ch.o j _ hy);have aL:=hid hy;obtain⟨⟨N,pb⟩,H⟩:=ex_ (G j);rw[H]at HM aK a6 |-
     dsimp only at HM a6 |-
     have cY:(j:Int) < (no:Int):=oo;obtain⟨bL,Y,eL,ad,ae,af,ag⟩:=Kt_ HL.o.rd aY a3.o;obtain⟨bO,ah,eO,Q,S,T,U⟩:=Kt_ HO.o.rd aH aL.o;subst eL;subst eO;clear hy H
     cases pb with
     |true=>
      have HS:=hid (show G (j+1)=(N++[(y0,y1,y2)],true)by rw[aK.o];rfl);have P:Hid (N.length<=4194304):=(show N.length<=4194304 from oo)
      try clear aj
      go_wp2;go_quiet (fail);have hd:=below_drewN (Below.refl wr.heap.size wr) nq;have s:=hid (HM.o.next hd);have D:=hid (HO.o.next hd);have E:=hid (HL.o.next hd);have F:=hid (Qb_ HB.o hd);clear hd ae af ag S T U ad Q HM HO HL HB;generalize wr.drewN nq=wd at s D E F |-
      obtain⟨b',an,e',Q,S,T,U⟩:=Kt_ D.o.rd aH aL.o;injection e' with e';injection e' with e1 z;subst e1;subst z;have X:=F.o.size;obtain⟨my,I⟩:=ex_ ((N).length);have ar:=hid I;have aJ:my<=4194304:=(by rw[<-I];exact P.o);rw[I]at s |-
      clear I;go_wp2_with (at_builtin;(refine Qf_ _ rfl (.tmp 95) (.tmp 100) _ rfl w.heap.size 41 i0 (.agg #[.int .i64 0,.int .i64 0,.string ⟨#[]⟩]) 3 32 underlying22 f.o.1 f.o.2.1 f.o.2.2.1 f.o.2.2.2 rfl (by decide) (.slice B my d) my ((N).flatMap Qc_) rfl (Mine.alloc s.o _) ⟨wd.heap.size,0,none⟩ 1 1 [.int .i64 y0,.int .i64 y1,.string y2] rfl rfl (Z9_ _ _ _ _ _) (fun x hx=>by simp at hx;rcases hx with rfl|rfl|rfl<;>rfl) (by unfold maxLen;omega) oo (by simp;omega) ?_);intro v' w6 a H v)
      rw[<-ar.o]at a H v s;obtain⟨Ay,cy,rfl,K,p,b,r⟩:=Xd_ s.o X a H v;have C:=hid K;have J:=hid (b _ _ _ _ _ _ D.o HD.o);have Z:=hid (show ∀g,Ay.map (·.block)=some g->(some ⟨bO,ah,none⟩:OA).map (·.block)≠some g from fun g e z=>by
       rcases p g e with h|h
       ·exact HD.o g h z
       ·have:=(Mine.blk D.o z).2;omega)
      have M:=hid (b _ _ _ _ _ _ E.o HE.o);have V:=hid (show ∀g,Ay.map (·.block)=some g->(some ⟨bL,Y,none⟩:OA).map (·.block)≠some g from fun g e z=>by
       rcases p g e with h|h
       ·exact HE.o g h z
       ·have:=(Mine.blk E.o z).2;omega)
      have L:=hid (r _ F.o);clear a H v K p b r s D E F HD HE S T U Q;go_wp2;go_roundw
      case rel=>exact⟨j+1,Ay,cy,oo,by go_num,by rw[HS.o],by rw[HS.o],by rw[HS.o];exact C,J,M,Z,V,L⟩
      case measure=>simp[intOf];omega
     |false=>
      by_cases hA:x1 < y1
      ·have bp:=decide_eq_true hA;have HS:=hid (show G (j+1)=(N++[(x0,x1,x2)]++[(y0,y1,y2)],true)by rw[aK.o];unfold YH_;rw[qE_,decide_eq_true hA];rfl);have aU:Hid (N.length<=4194304):=(show N.length<=4194304 from oo);have P:Hid ((N++[(x0,x1,x2)]).length<=4194304):=(show(N++[(x0,x1,x2)]).length<=4194304 by simp;omega)
       try clear aj
       go_wp2;go_quiet (fail);have hd:=below_drewN (Below.refl wr.heap.size wr) nq;have s:=hid (HM.o.next hd);have D:=hid (HO.o.next hd);have E:=hid (HL.o.next hd);have F:=hid (Qb_ HB.o hd);clear hd ae af ag S T U ad Q HM HO HL HB;generalize wr.drewN nq=wd at s D E F |-
       obtain⟨b',an,e',ad,ae,af,ag⟩:=Kt_ E.o.rd aY a3.o;injection e' with e';injection e' with e1 z;subst e1;subst z;have aX:=F.o.size;obtain⟨mx,av⟩:=ex_ ((N).length);have bn:=hid av;have bV:mx<=4194304:=(by rw[<-av];exact aU.o);rw[av]at s |-
       clear av;go_upto_region 18 with(at_builtin;(refine Qf_ _ rfl (.tmp 88) (.tmp 93) _ rfl w.heap.size 41 i0 (.agg #[.int .i64 0,.int .i64 0,.string ⟨#[]⟩]) 3 32 underlying22 f.o.1 f.o.2.1 f.o.2.2.1 f.o.2.2.2 rfl (by decide) (.slice B mx d) mx ((N).flatMap Qc_) rfl (Mine.alloc s.o _) ⟨wd.heap.size,0,none⟩ 1 1 [.int .i64 x0,.int .i64 x1,.string x2] rfl rfl (Z9_ _ _ _ _ _) (fun x hx=>by simp at hx;rcases hx with rfl|rfl|rfl<;>rfl) (by unfold maxLen;omega) oo (by simp;omega) ?_);intro v' w6 a H v)
       rw[<-bn.o]at a H v s;obtain⟨Ax,cx,rfl,K,p,b,r⟩:=Xd_ s.o aX a H v;have C:=hid K;have J:=hid (b _ _ _ _ _ _ D.o HD.o);have Z:=hid (show ∀g,Ax.map (·.block)=some g->(some ⟨bO,ah,none⟩:OA).map (·.block)≠some g from fun g e z=>by
        rcases p g e with h|h
        ·exact HD.o g h z
        ·have:=(Mine.blk D.o z).2;omega)
       have M:=hid (b _ _ _ _ _ _ E.o HE.o);have V:=hid (show ∀g,Ax.map (·.block)=some g->(some ⟨bL,Y,none⟩:OA).map (·.block)≠some g from fun g e z=>by
        rcases p g e with h|h
        ·exact HE.o g h z
        ·have:=(Mine.blk E.o z).2;omega)
       have L:=hid (r _ F.o);clear a H v K p b r s D E F HD HE ae af ag ad;obtain⟨nx,a0⟩:=ex_ (N++[(x0,x1,x2)]);rw[a0]at C HS P |-
       clear a0;obtain⟨b',an,e',Q,S,T,U⟩:=Kt_ J.o.rd aH aL.o;injection e' with e';injection e' with e1 z;subst e1;subst z;have X:=L.o.size;obtain⟨my,I⟩:=ex_ ((nx).length);have ar:=hid I;have aJ:my<=4194304:=(by rw[<-I];exact P.o);rw[I]at C |-
       clear I;go_wp2_with (at_builtin;(refine Qf_ _ rfl (.tmp 95) (.tmp 100) _ rfl w.heap.size 41 i0 (.agg #[.int .i64 0,.int .i64 0,.string ⟨#[]⟩]) 3 32 underlying22 f.o.1 f.o.2.1 f.o.2.2.1 f.o.2.2.2 rfl (by decide) (.slice Ax my cx) my ((nx).flatMap Qc_) rfl (Mine.alloc C.o _) ⟨w6.heap.size,0,none⟩ 1 1 [.int .i64 y0,.int .i64 y1,.string y2] rfl rfl (Z9_ _ _ _ _ _) (fun x hx=>by simp at hx;rcases hx with rfl|rfl|rfl<;>rfl) (by unfold maxLen;omega) oo (by simp;omega) ?_);intro v' w7 a H v)
       rw[<-ar.o]at a H v C;obtain⟨Ay,cy,rfl,K,p,b,r⟩:=Xd_ C.o X a H v;have aD:=hid K;have aE:=hid (b _ _ _ _ _ _ J.o Z.o);have aS:=hid (show ∀g,Ay.map (·.block)=some g->(some ⟨bO,ah,none⟩:OA).map (·.block)≠some g from fun g e z=>by
        rcases p g e with h|h
        ·exact Z.o g h z
        ·have:=(Mine.blk J.o z).2;omega)
       have aC:=hid (b _ _ _ _ _ _ M.o V.o);have aT:=hid (show ∀g,Ay.map (·.block)=some g->(some ⟨bL,Y,none⟩:OA).map (·.block)≠some g from fun g e z=>by
        rcases p g e with h|h
        ·exact V.o g h z
        ·have:=(Mine.blk M.o z).2;omega)
       have aB:=hid (r _ L.o);clear a H v K p b r C J M L Z V S T U Q;go_wp2;go_roundw
       case rel=>exact⟨j+1,Ay,cy,oo,by go_num,by rw[HS.o],by rw[HS.o],by rw[HS.o];exact aD,aE,aC,aS,aT,aB⟩
       case measure=>simp[intOf];omega
      ·by_cases aj:x1=y1
       ·by_cases hC:x0 < y0
        ·have bp:¬(x1 < y1):=hA;have bR:(x1==y1)=true:=(by rw[aj];simp);have cX:=decide_eq_true hC;have HS:=hid (show G (j+1)=(N++[(x0,x1,x2)]++[(y0,y1,y2)],true)by rw[aK.o];unfold YH_;rw[qE_,decide_eq_true hC,decide_eq_true aj,Bool.and_self,Bool.or_true];rfl);have aU:Hid (N.length<=4194304):=(show N.length<=4194304 from oo);have P:Hid ((N++[(x0,x1,x2)]).length<=4194304):=(show(N++[(x0,x1,x2)]).length<=4194304 by simp;omega)
         try clear aj
         go_wp2;go_quiet (fail);have hd:=below_drewN (Below.refl wr.heap.size wr) nq;have s:=hid (HM.o.next hd);have D:=hid (HO.o.next hd);have E:=hid (HL.o.next hd);have F:=hid (Qb_ HB.o hd);clear hd ae af ag S T U ad Q HM HO HL HB;generalize wr.drewN nq=wd at s D E F |-
         obtain⟨b',an,e',ad,ae,af,ag⟩:=Kt_ E.o.rd aY a3.o;injection e' with e';injection e' with e1 z;subst e1;subst z;have aX:=F.o.size;obtain⟨mx,av⟩:=ex_ ((N).length);have bn:=hid av;have bV:mx<=4194304:=(by rw[<-av];exact aU.o);rw[av]at s |-
         clear av;go_upto_region 18 with(at_builtin;(refine Qf_ _ rfl (.tmp 88) (.tmp 93) _ rfl w.heap.size 41 i0 (.agg #[.int .i64 0,.int .i64 0,.string ⟨#[]⟩]) 3 32 underlying22 f.o.1 f.o.2.1 f.o.2.2.1 f.o.2.2.2 rfl (by decide) (.slice B mx d) mx ((N).flatMap Qc_) rfl (Mine.alloc s.o _) ⟨wd.heap.size,0,none⟩ 1 1 [.int .i64 x0,.int .i64 x1,.string x2] rfl rfl (Z9_ _ _ _ _ _) (fun x hx=>by simp at hx;rcases hx with rfl|rfl|rfl<;>rfl) (by unfold maxLen;omega) oo (by simp;omega) ?_);intro v' w6 a H v)
         rw[<-bn.o]at a H v s;obtain⟨Ax,cx,rfl,K,p,b,r⟩:=Xd_ s.o aX a H v;have C:=hid K;have J:=hid (b _ _ _ _ _ _ D.o HD.o);have Z:=hid (show ∀g,Ax.map (·.block)=some g->(some ⟨bO,ah,none⟩:OA).map (·.block)≠some g from fun g e z=>by
          rcases p g e with h|h
          ·exact HD.o g h z
          ·have:=(Mine.blk D.o z).2;omega)
         have M:=hid (b _ _ _ _ _ _ E.o HE.o);have V:=hid (show ∀g,Ax.map (·.block)=some g->(some ⟨bL,Y,none⟩:OA).map (·.block)≠some g from fun g e z=>by
          rcases p g e with h|h
          ·exact HE.o g h z
          ·have:=(Mine.blk E.o z).2;omega)
         have L:=hid (r _ F.o);clear a H v K p b r s D E F HD HE ae af ag ad;obtain⟨nx,a0⟩:=ex_ (N++[(x0,x1,x2)]);rw[a0]at C HS P |-
         clear a0;obtain⟨b',an,e',Q,S,T,U⟩:=Kt_ J.o.rd aH aL.o;injection e' with e';injection e' with e1 z;subst e1;subst z;have X:=L.o.size;obtain⟨my,I⟩:=ex_ ((nx).length);have ar:=hid I;have aJ:my<=4194304:=(by rw[<-I];exact P.o);rw[I]at C |-
         clear I;go_wp2_with (at_builtin;(refine Qf_ _ rfl (.tmp 95) (.tmp 100) _ rfl w.heap.size 41 i0 (.agg #[.int .i64 0,.int .i64 0,.string ⟨#[]⟩]) 3 32 underlying22 f.o.1 f.o.2.1 f.o.2.2.1 f.o.2.2.2 rfl (by decide) (.slice Ax my cx) my ((nx).flatMap Qc_) rfl (Mine.alloc C.o _) ⟨w6.heap.size,0,none⟩ 1 1 [.int .i64 y0,.int .i64 y1,.string y2] rfl rfl (Z9_ _ _ _ _ _) (fun x hx=>by simp at hx;rcases hx with rfl|rfl|rfl<;>rfl) (by unfold maxLen;omega) oo (by simp;omega) ?_);intro v' w7 a H v)
         rw[<-ar.o]at a H v C;obtain⟨Ay,cy,rfl,K,p,b,r⟩:=Xd_ C.o X a H v;have aD:=hid K;have aE:=hid (b _ _ _ _ _ _ J.o Z.o);have aS:=hid (show ∀g,Ay.map (·.block)=some g->(some ⟨bO,ah,none⟩:OA).map (·.block)≠some g from fun g e z=>by
          rcases p g e with h|h
          ·exact Z.o g h z
          ·have:=(Mine.blk J.o z).2;omega)
         have aC:=hid (b _ _ _ _ _ _ M.o V.o);have aT:=hid (show ∀g,Ay.map (·.block)=some g->(some ⟨bL,Y,none⟩:OA).map (·.block)≠some g from fun g e z=>by
          rcases p g e with h|h
          ·exact V.o g h z
          ·have:=(Mine.blk M.o z).2;omega)
         have aB:=hid (r _ L.o);clear a H v K p b r C J M L Z V S T U Q;go_wp2;go_roundw
         case rel=>exact⟨j+1,Ay,cy,oo,by go_num,by rw[HS.o],by rw[HS.o],by rw[HS.o];exact aD,aE,aC,aS,aT,aB⟩
         case measure=>simp[intOf];omega
        ·have bp:¬(x1 < y1):=hA;have bR:(x1==y1)=true:=(by rw[aj];simp);have HS:=hid (show G (j+1)=(N++[(y0,y1,y2)],false)by rw[aK.o];unfold YH_;rw[qE_,decide_eq_false hC,decide_eq_false hA,Bool.and_false];rfl);have P:Hid (N.length<=4194304):=(show N.length<=4194304 from oo)
         try clear aj
         go_wp2;go_quiet (fail);have hd:=below_drewN (Below.refl wr.heap.size wr) nq;have s:=hid (HM.o.next hd);have D:=hid (HO.o.next hd);have E:=hid (HL.o.next hd);have F:=hid (Qb_ HB.o hd);clear hd ae af ag S T U ad Q HM HO HL HB;generalize wr.drewN nq=wd at s D E F |-
         obtain⟨b',an,e',Q,S,T,U⟩:=Kt_ D.o.rd aH aL.o;injection e' with e';injection e' with e1 z;subst e1;subst z;have X:=F.o.size;obtain⟨my,I⟩:=ex_ ((N).length);have ar:=hid I;have aJ:my<=4194304:=(by rw[<-I];exact P.o);rw[I]at s |-
         clear I;go_wp2_with (at_builtin;(refine Qf_ _ rfl (.tmp 95) (.tmp 100) _ rfl w.heap.size 41 i0 (.agg #[.int .i64 0,.int .i64 0,.string ⟨#[]⟩]) 3 32 underlying22 f.o.1 f.o.2.1 f.o.2.2.1 f.o.2.2.2 rfl (by decide) (.slice B my d) my ((N).flatMap Qc_) rfl (Mine.alloc s.o _) ⟨wd.heap.size,0,none⟩ 1 1 [.int .i64 y0,.int .i64 y1,.string y2] rfl rfl (Z9_ _ _ _ _ _) (fun x hx=>by simp at hx;rcases hx with rfl|rfl|rfl<;>rfl) (by unfold maxLen;omega) oo (by simp;omega) ?_);intro v' w6 a H v)
         rw[<-ar.o]at a H v s;obtain⟨Ay,cy,rfl,K,p,b,r⟩:=Xd_ s.o X a H v;have C:=hid K;have J:=hid (b _ _ _ _ _ _ D.o HD.o);have Z:=hid (show ∀g,Ay.map (·.block)=some g->(some ⟨bO,ah,none⟩:OA).map (·.block)≠some g from fun g e z=>by
          rcases p g e with h|h
          ·exact HD.o g h z
          ·have:=(Mine.blk D.o z).2;omega)
         have M:=hid (b _ _ _ _ _ _ E.o HE.o);have V:=hid (show ∀g,Ay.map (·.block)=some g->(some ⟨bL,Y,none⟩:OA).map (·.block)≠some g from fun g e z=>by
          rcases p g e with h|h
          ·exact HE.o g h z
          ·have:=(Mine.blk E.o z).2;omega)
         have L:=hid (r _ F.o);clear a H v K p b r s D E F HD HE S T U Q;go_wp2;go_roundw
         case rel=>exact⟨j+1,Ay,cy,oo,by go_num,by rw[HS.o],by rw[HS.o],by rw[HS.o];exact C,J,M,Z,V,L⟩
         case measure=>simp[intOf];omega
       ·have bp:decide (x1 < y1)=false:=decide_eq_false hA;have bR:(x1==y1)=false:=(by rw[beq_eq_false_iff_ne];exact aj);have HS:=hid (show G (j+1)=(N++[(y0,y1,y2)],false)by rw[aK.o];unfold YH_;rw[qE_,decide_eq_false aj,decide_eq_false hA,Bool.false_and];rfl);have P:Hid (N.length<=4194304):=(show N.length<=4194304 from oo);clear hA
        try clear aj
        go_wp2;go_quiet (fail);have hd:=below_drewN (Below.refl wr.heap.size wr) nq;have s:=hid (HM.o.next hd);have D:=hid (HO.o.next hd);have E:=hid (HL.o.next hd);have F:=hid (Qb_ HB.o hd);clear hd ae af ag S T U ad Q HM HO HL HB;generalize wr.drewN nq=wd at s D E F |-
        obtain⟨b',an,e',Q,S,T,U⟩:=Kt_ D.o.rd aH aL.o;injection e' with e';injection e' with e1 z;subst e1;subst z;have X:=F.o.size;obtain⟨my,I⟩:=ex_ ((N).length);have ar:=hid I;have aJ:my<=4194304:=(by rw[<-I];exact P.o);rw[I]at s |-
        clear I;go_wp2_with (at_builtin;(refine Qf_ _ rfl (.tmp 95) (.tmp 100) _ rfl w.heap.size 41 i0 (.agg #[.int .i64 0,.int .i64 0,.string ⟨#[]⟩]) 3 32 underlying22 f.o.1 f.o.2.1 f.o.2.2.1 f.o.2.2.2 rfl (by decide) (.slice B my d) my ((N).flatMap Qc_) rfl (Mine.alloc s.o _) ⟨wd.heap.size,0,none⟩ 1 1 [.int .i64 y0,.int .i64 y1,.string y2] rfl rfl (Z9_ _ _ _ _ _) (fun x hx=>by simp at hx;rcases hx with rfl|rfl|rfl<;>rfl) (by unfold maxLen;omega) oo (by simp;omega) ?_);intro v' w6 a H v)
        rw[<-ar.o]at a H v s;obtain⟨Ay,cy,rfl,K,p,b,r⟩:=Xd_ s.o X a H v;have C:=hid K;have J:=hid (b _ _ _ _ _ _ D.o HD.o);have Z:=hid (show ∀g,Ay.map (·.block)=some g->(some ⟨bO,ah,none⟩:OA).map (·.block)≠some g from fun g e z=>by
         rcases p g e with h|h
         ·exact HD.o g h z
         ·have:=(Mine.blk D.o z).2;omega)
        have M:=hid (b _ _ _ _ _ _ E.o HE.o);have V:=hid (show ∀g,Ay.map (·.block)=some g->(some ⟨bL,Y,none⟩:OA).map (·.block)≠some g from fun g e z=>by
         rcases p g e with h|h
         ·exact HE.o g h z
         ·have:=(Mine.blk E.o z).2;omega)
        have L:=hid (r _ F.o);clear a H v K p b r s D E F HD HE S T U Q;go_wp2;go_roundw
        case rel=>exact⟨j+1,Ay,cy,oo,by go_num,by rw[HS.o],by rw[HS.o],by rw[HS.o];exact C,J,M,Z,V,L⟩
        case measure=>simp[intOf];omega
    ·obtain rfl:j=no:=oo;obtain⟨⟨N,pb⟩,H⟩:=ex_ (G j);have ak:=hid cj.o;rw[H]at HM ak a6 |-
     dsimp only at HM ak a6 |-
     clear H
     cases pb with
     |true=>
      have HS:=hid (show O (k+1)=N by rw[ak.o,if_pos rfl]);clear ak;go_wp2;exact⟨⟨k+1,B,d,oo,by go_num,by rw[HS.o],by rw[HS.o];exact HM,HL,HB⟩,by simp[intOf];omega⟩
     |false=>
      have HS:=hid (show O (k+1)=N++[(x0,x1,x2)]by rw[ak.o];rfl);have bI:Hid (N.length<=4194304):=(show N.length<=4194304 from oo);obtain⟨bL,Y,eL,ad,ae,af,ag⟩:=Kt_ HL.o.rd aY a3.o;subst eL;clear ak HO;have bU:=HB.o.size;obtain⟨mz,a7⟩:=ex_ ((N).length);have cq:=hid a7;have cV:mz<=4194304:=(by rw[<-a7];exact bI.o);rw[a7]at HM |-
      clear a7;go_wp2_with (at_builtin;(refine Qf_ _ rfl (.tmp 104) (.tmp 109) _ rfl w.heap.size 41 i0 (.agg #[.int .i64 0,.int .i64 0,.string ⟨#[]⟩]) 3 32 underlying22 f.o.1 f.o.2.1 f.o.2.2.1 f.o.2.2.2 rfl (by decide) (.slice B mz d) mz ((N).flatMap Qc_) rfl (Mine.alloc HM.o _) ⟨wr.heap.size,0,none⟩ 1 1 [.int .i64 x0,.int .i64 x1,.string x2] rfl rfl (Z9_ _ _ _ _ _) (fun x hx=>by simp at hx;rcases hx with rfl|rfl|rfl<;>rfl) (by unfold maxLen;omega) oo (by simp;omega) ?_);intro v' w6 a H v)
      rw[<-cq.o]at a H v HM;obtain⟨Az,cz,rfl,K,p,b,r⟩:=Xd_ HM.o bU a H v;have cm:=hid K;have cl:=hid (b _ _ _ _ _ _ HL.o HE.o);have V:=hid (show ∀g,Az.map (·.block)=some g->(some ⟨bL,Y,none⟩:OA).map (·.block)≠some g from fun g e z=>by
       rcases p g e with h|h
       ·exact HE.o g h z
       ·have:=(Mine.blk HL.o z).2;omega)
      have cf:=hid (r _ HB.o);clear a H v K p b r HM HL HB HD HE ae af ag ad;go_wp2;exact⟨⟨k+1,Az,cz,oo,by go_num,by rw[HS.o],by rw[HS.o];exact cm,cl,cf⟩,by simp[intOf];omega⟩
  ·obtain rfl:k=n:=oo;go_wp2;go_ret;exact⟨A,c,rfl,HO.o,HB.o⟩
end Go.Proofs.YtgbikafalcbibaaGreatDoor

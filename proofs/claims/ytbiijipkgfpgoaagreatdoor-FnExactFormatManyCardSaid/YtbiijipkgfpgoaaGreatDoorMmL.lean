/-
  Put together by program.
-/
import Derived.Test.YtbiijipkgfpgoaaGreatDoorMmJ
set_option maxRecDepth 100000
set_option linter.all false
set_option maxHeartbeats 25600000
open Go.Proofs.Tryz
open Go.Value renaming int→I_,slice→S_,string→T_,bool→B_,agg→A_
open Go.IntKind renaming i64→j_
open Go.Obj renaming cells→C_
open Go.Ending renaming returned→R_
open List renaming length→η
open Go renaming World→Ω,Calls→Δ,Value→Υ
open Go.Proofs.Tryz renaming prog→π
open Go.RowKit renaming Hid→Ψ
open Bool renaming true→τ,false→φ
open Option renaming none→ν,some→σ
namespace Go.Proofs.YtbiijipkgfpgoaaGreatDoor
open Go.RowKit
variable (m h k:Int)(g n c:Nat)(l:List EntryD)(t f:BA)(a b i:Int){w:Nat}
open Go.WideShapes Go.ChangeShapes Go.Joins Go.Deep
section
variable {H:Type} {enc:TypeId × Υ->H} {W:Ω} {base:Nat} {v:Υ} {d:DataW H} {p:List MemPlace} {hd:Bool}
def Qkb_:prog.cellsOf 68=5:=by kernel_rfl
def Qjd_ {cs:List Υ} {x:DataW H × List MemPlace} (hf:DataW.trod enc π W 0 (fun _=>τ) hd w 28 cs=σ x):
  ∃(A:OA) (n c:Nat) (l:List EntryD),cs=[S_ A n c]/\(η l=n/\n<=maxLen/\Rd W 5 A n (l.flatMap QaD_)/\∀d∈l,Qi4_ d):=by
 rcases QbK_ underlying28 underlying68 nr_ Qkb_ hf with⟨h1,_⟩|⟨a,n,c,m,D,Pl,h1,_,o,h,hm,hx,hi⟩
 ·exact⟨ν,0,0,[],h1,rfl,lz_ _,Rd.none_ _ _ _,fun d hd=>by cases hd⟩
 have g:∀i,i<n->∃d:EntryD,Qi4_ d/\∀j v,(QaD_ d)[j]? =σ v->W.cell? (a.add (i*5+j))=σ v:=by
  intro i k;obtain⟨ys,nn,_,_,_,e⟩:=hi i (by simp at hm;omega);obtain⟨v0,y0,g0,_,t0⟩:=e 0 _ rfl;obtain⟨x0,e0,_,o0⟩:=DataW.trod_string underlying9 t0;obtain⟨v1,y1,g1,_,t1⟩:=e 1 _ rfl;obtain⟨x1,e1,_,o1⟩:=DataW.trod_int underlying3 t1;obtain⟨v2,y2,g2,_,t2⟩:=e 2 _ rfl;obtain⟨x2,e2,_,o2⟩:=DataW.trod_int underlying3 t2;obtain⟨v3,y3,g3,_,t3⟩:=e 3 _ rfl;obtain⟨x3,e3,_,o3⟩:=DataW.trod_string underlying9 t3;obtain⟨v4,y4,g4,_,t4⟩:=e 4 _ rfl;obtain⟨x4,e4,_,o4⟩:=DataW.trod_int underlying3 t4;simp only[List.cons.injEq,and_true]at e0 e1 e2 e3 e4;subst e0 e1 e2 e3 e4;refine⟨(x0,x1,x2,x3,x4),⟨o0,o3⟩,fun j v b=>?_⟩
  match j,b with
  |0,b=>obtain rfl:=oi_ b;exact g0
  |1,b=>obtain rfl:=oi_ b;exact g1
  |2,b=>obtain rfl:=oi_ b;exact g2
  |3,b=>obtain rfl:=oi_ b;exact g3
  |4,b=>obtain rfl:=oi_ b;exact g4
  |j+5,b=>simp[QaD_]at b
 obtain⟨l,hl,hr,ho⟩:=QhG_ (W:=W) (a:=a) (n:=n) QaD_ Qi4_ QaQ_ oo g;exact⟨σ a,n,c,l,h1,hl,oo,hr,ho⟩
end
open Go.RowKit Go.WideShapes Go.ChangeShapes Go.Joins Go.Deep
section
variable {H:Type} {enc:TypeId × Υ->H} {W:Ω} {base:Nat} {v:Υ} {d:DataW H} {p:List MemPlace} {hd:Bool}
def Qka_:prog.cellsOf 30=4:=by kernel_rfl
def open_cache (hv:Value.okWide π W .any base 30 v) (h:DataW.Trod enc π W 0 (fun _=>τ) hd 30 v d p):
  ∃(m:Int) (A:OA) (n c:Nat) (l:List EntryD) (h k:Int),v=A_ #[I_ j_ m,S_ A n c,I_ j_ h,I_ j_ k]/\(η l=n/\n<=maxLen/\Rd W 5 A n (l.flatMap QaD_)/\∀d∈l,Qi4_ d):=by
 obtain⟨v0,v1,v2,v3,y0,y1,y2,y3,n,rfl,_,_,h0,h1,h2,h3⟩:=open_agg4 underlying30 nr_ Qka_ hv h;obtain⟨a0,e0,_,_⟩:=DataW.trod_int underlying3 h0;obtain⟨a2,e2,_,_⟩:=DataW.trod_int underlying3 h2;obtain⟨a3,e3,_,_⟩:=DataW.trod_int underlying3 h3;simp only[List.cons.injEq,and_true]at e0 e2 e3;subst e0 e2 e3;obtain⟨A,n,c,l,e1,hh⟩:=Qjd_ h1;simp only[List.cons.injEq,and_true]at e1;subst e1;exact⟨a0,A,n,c,l,a2,a3,rfl,hh⟩
end
open Go.RowKit Go.WideShapes Go.ChangeShapes Go.Joins Go.Deep
section
variable {H:Type} {enc:TypeId × Υ->H} {W:Ω} {base:Nat} {v:Υ} {d:DataW H} {p:List MemPlace} {hd:Bool}
def QkG_ (l:List BA):l.flatMap (fun x=>[T_ x])=Qm_ l:=by
 induction l with
 |nil=>rfl
 |cons x l ih=>simp[ih,Qm_]
def QkR_:prog.cellsOf 9=1:=by kernel_rfl
def open_texts (hv:Value.okWide π W .any base 31 v) (h:DataW.Trod enc π W 0 (fun _=>τ) hd 31 v d p):
  ∃(A:OA) (n c:Nat) (l:List BA),v=S_ A n c/\(η l=n/\n<=maxLen/\Rd W 1 A n (Qm_ l)/\∀x∈l,x.size<=maxLen):=by
 obtain⟨A,n,c,rfl⟩:=okWide_slice underlying31 hv;obtain⟨f,hf⟩:=h;rcases open_strings underlying31 underlying9 QkR_ hf with⟨h1,_⟩|⟨a,n',c',zs,h1,_,m,g,hm,hx,hi,hw⟩
 ·simp only[Value.cells,List.cons.injEq,Value.slice.injEq,and_true]at h1;obtain⟨rfl,rfl,rfl⟩:=h1;exact⟨ν,0,0,[],rfl,rfl,lz_ _,Rd.none_ _ _ _,fun d hd=>by cases hd⟩
 simp only[Value.cells,List.cons.injEq,Value.slice.injEq,and_true]at h1;obtain⟨rfl,rfl,rfl⟩:=h1;simp only[if_true]at hm;have e:∀i,i<n->∃x:BA,x.size<=maxLen/\∀j u,([T_ x])[j]? =σ u->W.cell? (a.add (i*1+j))=σ u:=by
  intro i k;refine⟨zs[i]'oo,hw _ (List.getElem_mem _),fun j u b=>?_⟩
  match j,b with
  |0,b=>
   obtain rfl:=oi_ b;have h3:=hi i oo;simp only[Nat.mul_one,Nat.add_zero];rw[h3,List.getD_eq_getElem?_getD,List.getElem?_eq_getElem oo];rfl
  |j+1,b=>simp at b
 obtain⟨l,hl,hr,ho⟩:=QhG_ (W:=W) (a:=a) (n:=n) (fun x=>[T_ x]) (fun x=>x.size<=maxLen) (size:=1) (fun _=>rfl) oo e;exact⟨σ a,n,c,l,rfl,hl,oo,by rw[QkG_]at hr;exact hr,ho⟩
end
def Qkh_ (m h k:Int) (l:List EntryD) (w:Ω) (e:Ending) (w':Ω):Prop:=
 ∃g c:Nat,e=R_ (A_ #[I_ j_ m,S_ (σ ⟨g,0,ν⟩) (η l) c,I_ j_ h,I_ j_ k])/\Own w' g 71 (c*5) (l.flatMap QaD_)/\w.heap.size<=g/\η l<=c/\c<=maxLen/\Λ w w'
def QhQ_ (w:Ω) (hn:n<=1048577) (hl:Ψ (η l=n)) (hr:Rd w 5 (σ ⟨g,0,ν⟩) n (l.flatMap QaD_)):
  Δ π 28 #[A_ #[I_ j_ m,S_ (σ ⟨g,0,ν⟩) n c,I_ j_ h,I_ j_ k]] w (Qkh_ m h k l w):=by
 have d:=Below.refl w.heap.size w;go_in;go_wp2_with fail;refine(QjC_ g n c l _ hn hl ((hr.alloc _).alloc _)).mono ?_;rintro e w2 ⟨g2,c2,rfl,ho,j,o,i,f⟩;clear hr;have b:=Blk.fresh2 f;have a:=Blk.fresh f;replace d:=Jf_ d f;simp only[ws_]at a ho j;have z1:=b.lt;have z2:=a.lt;have f1:=b.frozen;have f2:=a.frozen;have d0:w2.cell? ⟨w.heap.size,0,ν⟩=σ (I_ j_ m):=b.cell 0;have d1:w2.cell? ⟨w.heap.size,1,ν⟩=σ (S_ (σ ⟨g,0,ν⟩) n c):=b.cell 1;have d2:w2.cell? ⟨w.heap.size,2,ν⟩=σ (I_ j_ h):=b.cell 2;have d3:w2.cell? ⟨w.heap.size,3,ν⟩=σ (I_ j_ k):=b.cell 3;have e0:w2.cell? ⟨w.heap.size+1,0,ν⟩=σ (I_ j_ 0):=a.cell 0;have e1:w2.cell? ⟨w.heap.size+1,1,ν⟩=σ (S_ ν 0 0):=a.cell 1;have e2:w2.cell? ⟨w.heap.size+1,2,ν⟩=σ (I_ j_ 0):=a.cell 2;have e3:w2.cell? ⟨w.heap.size+1,3,ν⟩=σ (I_ j_ 0):=a.cell 3;clear b a f;go_wp2;refine bodyPost_ret (by simp[results,Tryz.results28,go_sem,e0,e1,e2,e3];try rfl) rfl ?_;refine⟨g2,c2,rfl,?_,oo,o,i,grow_⟩
 repeat (first|(with_reducible exact ho)|(with_reducible refine Own.far ?_ (by simp<;>omega) _))
def putL (m:Int) (l:List EntryD) (d:EntryD):List EntryD:=if m<((outE (QaR_ d.1 d.2.1 d.2.2.1) l++[d]).length:Int)then (outE (QaR_ d.1 d.2.1 d.2.2.1) l++[d]).tail else outE (QaR_ d.1 d.2.1 d.2.2.1) l++[d]
def Qje_ {w:Ω} {g n c:Nat} {l:List EntryD} (h:Own w g 71 (c*5) (l.flatMap QaD_)) (hl:η l=n) (hn:n<=c) (hc:c<=maxLen):w.ownsRow g 71 5 (S_ (σ ⟨g,0,ν⟩) n c) n (l.flatMap QaD_):=
 Mine.mk_own h (by rw[Xs_ QaD_ QaQ_,hl]) (lr_ _) hn hc
def Qjk_ (w:Ω) (hn:n<=1048576) (hl:Ψ (η l=n)) (hr:Rd w 5 (σ ⟨g,0,ν⟩) n (l.flatMap QaD_)):
  Δ π 48 #[A_ #[I_ j_ m,S_ (σ ⟨g,0,ν⟩) n c,I_ j_ h,I_ j_ k],A_ #[T_ t,I_ j_ a,I_ j_ b,T_ f,I_ j_ i]] w (Qkh_ m h k (putL m l (t,a,b,f,i)) w):=by
 obtain⟨i0,hi,aD,aE,an⟩:=info_parts Qhx_;have HI:=h_<|ai_ hi<|ai_ aD<|ai_ aE an;clear hi aD aE an;have V:=Below.refl w.heap.size w;go_in;go_wp2_with fail
 refine(QhQ_ m h k g n c l _ oo hl (((hr.alloc _).alloc _).alloc _)).mono ?_;rintro e w2 ⟨A,c2,rfl,ho,ai,aA,ah,h2⟩;clear hr;have K1:=Blk.fresh2 h2;have v:=Blk.fresh h2;replace V:=QgL_ V h2;simp only[ws_]at K1 v ho ai;have an:w.heap.size+3<=w2.heap.size:=by have:=h2.size;simp at this;omega
 have a1:=ho.lt;have ad:=h_ K1;have aq:=h_ v;have HO:=h_ ho;clear h2 K1 v ho;obtain⟨n1,ak⟩:=ex_ (η l);have aZ:n1<=1048576:=by have:=hl.o;omega
 have aj:=h_ ak;rw[ak]at aA |-
 clear ak;go_wp2_with fail;refine mb_ (QjD_ A n1 c2 l t f a b i _ _ oo aA ah aj (HO.o.alloc _) (ad.o.alloc _) oo) ?_;rintro w3 ⟨Y,K⟩;have ac:=XY_ (V.alloc V.size _) K (fun q e=>by injection e with e;omega);have K1:=(ad.o.alloc _).turned K (fun q e=>by injection e with e;omega);have v:=(aq.o.alloc _).turned K (fun q e=>by injection e with e;omega);have r:=(Blk.new w2 _ _).turned K (fun q e=>by injection e with e;omega);have aF:w2.heap.size+1<=w3.heap.size:=by have:=K.size;simp at this;omega
 have af:(outE (QaR_ t a b) l).length<=n1:=by rw[<-aj.o];exact List.length_filter_le _ _
 have HP:Ψ (putL m l (t,a,b,f,i)=if m<(((outE (QaR_ t a b) l).length+1:Nat):Int)then (outE (QaR_ t a b) l++[(t,a,b,f,i)]).tail else outE (QaR_ t a b) l++[(t,a,b,f,i)]):=by
  show putL m l (t,a,b,f,i)=_;unfold putL;simp only[lA,List.length_cons,List.length_nil]
 obtain⟨R,hR⟩:=ex_ (putL m l (t,a,b,f,i));have HR:=h_ hR;rw[hR]at HP;clear hR;revert Y af HP;generalize outE (QaR_ t a b) l=L;intro Y af HP;obtain⟨n3,al⟩:=ex_ (η L);have I:=h_ al;have ar:=h_ Y;rw[al]at af HP |-
 clear K ad aq HO Y al;have k0:w3.cell? ⟨w2.heap.size,0,ν⟩=σ (I_ j_ m):=r.cell 0;have k1:w3.cell? ⟨w2.heap.size,1,ν⟩=σ (S_ (σ ⟨A,0,ν⟩) n1 c2):=r.cell 1;have k2:w3.cell? ⟨w2.heap.size,2,ν⟩=σ (I_ j_ h):=r.cell 2;have k3:w3.cell? ⟨w2.heap.size,3,ν⟩=σ (I_ j_ k):=r.cell 3;have kf:=r.frozen;go_upto_region 3 with fail
 obtain⟨y,D⟩:∃y,y=w3.setCell ⟨w2.heap.size,1,ν⟩ (S_ (σ ⟨A,0,ν⟩) n3 c2):=⟨_,rfl⟩;have o4:Own y A 71 (c2*5) (L.flatMap QaD_):=by rw[D];exact ar.o.far (by dsimp only;omega) _
 have F:Blk y (w.heap.size+1) 71 #[T_ t,I_ j_ a,I_ j_ b,T_ f,I_ j_ i]:=by rw[D];exact K1.far (by dsimp only;omega) _
 have U:Blk y (w.heap.size+1+1) 36 #[I_ j_ 0,S_ ν 0 0,I_ j_ 0,I_ j_ 0]:=by rw[D];exact v.far (by dsimp only;omega) _
 have N:Blk y w2.heap.size 36 #[I_ j_ m,S_ (σ ⟨A,0,ν⟩) n3 c2,I_ j_ h,I_ j_ k]:=by rw[D];exact r.set_ 1 _
 have J:Λ w y:=by rw[D];exact ac.setCell (by dsimp only;omega) _
 have a2:w2.heap.size+1<=y.heap.size:=by rw[D];simpa[World.setCell]using aF
 rw[<-D];clear D k0 k1 k2 k3 kf K1 v r ac aF ar aj;have e0:y.cell? ⟨w.heap.size+1,0,ν⟩=σ (T_ t):=F.cell 0;have e1:y.cell? ⟨w.heap.size+1,1,ν⟩=σ (I_ j_ a):=F.cell 1;have e2:y.cell? ⟨w.heap.size+1,2,ν⟩=σ (I_ j_ b):=F.cell 2;have e3:y.cell? ⟨w.heap.size+1,3,ν⟩=σ (T_ f):=F.cell 3;have e4:y.cell? ⟨w.heap.size+1,4,ν⟩=σ (I_ j_ i):=F.cell 4;have k1:y.cell? ⟨w2.heap.size,1,ν⟩=σ (S_ (σ ⟨A,0,ν⟩) n3 c2):=N.cell 1;by_cases X:m<((n3+1:Nat):Int)
 ·have E:=h_ (show R=(L++[(t,a,b,f,i)]).tail by have:=HP.o;rwa[ip_ X]at this);have az:m<(n3:Int)+1:=oo;clear X HP;go_wp2_with (
    at_builtin;(refine wpList_append_lies _ rfl (.tmp 14) (.tmp 16) _ rfl A 71 i0 (A_ #[T_ ⟨#[]⟩,I_ j_ 0,I_ j_ 0,T_ ⟨#[]⟩,I_ j_ 0]) 5 56 underlying34 HI.o.1 HI.o.2.1 HI.o.2.2.1 HI.o.2.2.2 rfl dc_ (S_ (σ ⟨A,0,ν⟩) n3 c2) n3 (L.flatMap QaD_) rfl (Qje_ (o4.alloc _) I.o oo ah) ⟨y.heap.size,0,ν⟩ 1 1 (QaD_ (t,a,b,f,i)) rfl rfl (World.news_of_block (Blk.new y 71 (QaD_ (t,a,b,f,i)).toArray)) (fun x hx=>by simp[QaD_]at hx;rcases hx with rfl|rfl|rfl|rfl|rfl<;>rfl) dc_ mx_ oo so_ _ rfl ?_);intro B c6 s o j d ay
    rw[show(S_ (σ ⟨A,0,ν⟩) n3 c2).ownBlock=σ A from rfl]at j d;have aX:y.heap.size+1<=s.heap.size:=(by have:=j.size;simp at this;omega);have S:B≠w2.heap.size/\B≠w.heap.size+1+1/\w.heap.size+3<=B:=by
     rcases d with hq|hq
     ·have:A=B:=(by injection hq);omega
     simp at hq;omega
    obtain⟨aR,aS,aT⟩:=S;have r:=(N.alloc (C_ (QaD_ (t,a,b,f,i)).toArray 71)).turned j (fun q e=>by injection e with e;omega);have v:=(U.alloc (C_ (QaD_ (t,a,b,f,i)).toArray 71)).turned j (fun q e=>by injection e with e;omega);have ag:=XY_ (J.alloc J.size (C_ (QaD_ (t,a,b,f,i)).toArray 71)) j (fun q e=>by injection e with e;omega);have k0:s.cell? ⟨w2.heap.size,0,ν⟩=σ (I_ j_ m):=r.cell 0;have k1:s.cell? ⟨w2.heap.size,1,ν⟩=σ (S_ (σ ⟨A,0,ν⟩) n3 c2):=r.cell 1;have k2:s.cell? ⟨w2.heap.size,2,ν⟩=σ (I_ j_ h):=r.cell 2;have k3:s.cell? ⟨w2.heap.size,3,ν⟩=σ (I_ j_ k):=r.cell 3;have kf:=r.frozen;have z0:s.cell? ⟨w.heap.size+1+1,0,ν⟩=σ (I_ j_ 0):=v.cell 0;have z1:s.cell? ⟨w.heap.size+1+1,1,ν⟩=σ (S_ ν 0 0):=v.cell 1;have z2:s.cell? ⟨w.heap.size+1+1,2,ν⟩=σ (I_ j_ 0):=v.cell 2;have z3:s.cell? ⟨w.heap.size+1+1,3,ν⟩=σ (I_ j_ 0):=v.cell 3;have zf:=v.frozen;have HU:=h_ o;clear o j d e0 e1 e2 e3 e4)
  obtain⟨g7,c7,G,T,ae,Q,H⟩:=Qgj_ HU.o (by intro e;cases e);injection G with G _ e8;injection G with G;injection G with G;subst G;subst e8;have C:Ψ (Own s B 71 (c6*5) ((L++[(t,a,b,f,i)]).flatMap QaD_)):=by
   show Own _ _ _ _ _;rw[List.flatMap_append];simpa using T
  have z:=h_ (show(L++[(t,a,b,f,i)]).length=n3+1 by rw[lA,I.o];rfl);clear T ae HU N U F J o4 I ai;revert E C z;generalize L++[(t,a,b,f,i)]=L2;intro E C z;refine mb_ (QjK_ B (n3+1) c6 L2 _ oo oo Q H z (C.o.far (by dsimp only;omega) _)) ?_;rintro Z ⟨aB,P⟩;have O:=(r.set_ 1 (S_ (σ ⟨B,0,ν⟩) (n3+1) c6)).turned P (fun q e=>by injection e with e;omega);have M:=(v.far (p:=⟨w2.heap.size,1,ν⟩) (by dsimp only;omega) (S_ (σ ⟨B,0,ν⟩) (n3+1) c6)).turned P (fun q e=>by injection e with e;omega);have a0:=XY_ (ag.setCell (p:=⟨w2.heap.size,1,ν⟩) (by dsimp only;omega) (S_ (σ ⟨B,0,ν⟩) (n3+1) c6)) P (fun q e=>by injection e with e;omega);have a3:w2.heap.size+1<=Z.heap.size:=by have:=P.size;simp[World.setCell]at this;omega
  have aP:=h_ aB;clear k0 k1 k2 k3 kf z0 z1 z2 z3 zf r v P aB C ag;have k0:Z.cell? ⟨w2.heap.size,0,ν⟩=σ (I_ j_ m):=O.cell 0;have k1:Z.cell? ⟨w2.heap.size,1,ν⟩=σ (S_ (σ ⟨B,0,ν⟩) (n3+1) c6):=O.cell 1;have k2:Z.cell? ⟨w2.heap.size,2,ν⟩=σ (I_ j_ h):=O.cell 2;have k3:Z.cell? ⟨w2.heap.size,3,ν⟩=σ (I_ j_ k):=O.cell 3;have kf:=O.frozen;have z0:Z.cell? ⟨w.heap.size+1+1,0,ν⟩=σ (I_ j_ 0):=M.cell 0;have z1:Z.cell? ⟨w.heap.size+1+1,1,ν⟩=σ (S_ ν 0 0):=M.cell 1;have z2:Z.cell? ⟨w.heap.size+1+1,2,ν⟩=σ (I_ j_ 0):=M.cell 2;have z3:Z.cell? ⟨w.heap.size+1+1,3,ν⟩=σ (I_ j_ 0):=M.cell 3;have zf:=M.frozen;have aV:η L2.tail<=c6:=by rw[List.length_tail,z.o];omega
  go_wp2;refine bodyPost_ret (by simp[results,Tryz.results48,go_sem,z0,z1,z2,z3];try rfl) rfl ?_;rw[HR.o,E.o];refine⟨B,c6,(by rw[List.length_tail]),?_,oo,aV,H,grow_⟩
  repeat (first|(with_reducible exact aP.o)|(with_reducible refine Own.far ?_ (by dsimp only;omega) _))
 have E:=h_ (show R=L++[(t,a,b,f,i)]by have:=HP.o;rwa[in_ X]at this);have az:¬m<(n3:Int)+1:=oo;clear X HP;go_wp2_with (
   at_builtin;(refine wpList_append_lies _ rfl (.tmp 14) (.tmp 16) _ rfl A 71 i0 (A_ #[T_ ⟨#[]⟩,I_ j_ 0,I_ j_ 0,T_ ⟨#[]⟩,I_ j_ 0]) 5 56 underlying34 HI.o.1 HI.o.2.1 HI.o.2.2.1 HI.o.2.2.2 rfl dc_ (S_ (σ ⟨A,0,ν⟩) n3 c2) n3 (L.flatMap QaD_) rfl (Qje_ (o4.alloc _) I.o oo ah) ⟨y.heap.size,0,ν⟩ 1 1 (QaD_ (t,a,b,f,i)) rfl rfl (World.news_of_block (Blk.new y 71 (QaD_ (t,a,b,f,i)).toArray)) (fun x hx=>by simp[QaD_]at hx;rcases hx with rfl|rfl|rfl|rfl|rfl<;>rfl) dc_ mx_ oo so_ _ rfl ?_);intro B c6 s o j d ay
   rw[show(S_ (σ ⟨A,0,ν⟩) n3 c2).ownBlock=σ A from rfl]at j d;have aX:y.heap.size+1<=s.heap.size:=(by have:=j.size;simp at this;omega);have S:B≠w2.heap.size/\B≠w.heap.size+1+1/\w.heap.size+3<=B:=by
    rcases d with hq|hq
    ·have:A=B:=(by injection hq);omega
    simp at hq;omega
   obtain⟨aR,aS,aT⟩:=S;have r:=(N.alloc (C_ (QaD_ (t,a,b,f,i)).toArray 71)).turned j (fun q e=>by injection e with e;omega);have v:=(U.alloc (C_ (QaD_ (t,a,b,f,i)).toArray 71)).turned j (fun q e=>by injection e with e;omega);have ag:=XY_ (J.alloc J.size (C_ (QaD_ (t,a,b,f,i)).toArray 71)) j (fun q e=>by injection e with e;omega);have k0:s.cell? ⟨w2.heap.size,0,ν⟩=σ (I_ j_ m):=r.cell 0;have k1:s.cell? ⟨w2.heap.size,1,ν⟩=σ (S_ (σ ⟨A,0,ν⟩) n3 c2):=r.cell 1;have k2:s.cell? ⟨w2.heap.size,2,ν⟩=σ (I_ j_ h):=r.cell 2;have k3:s.cell? ⟨w2.heap.size,3,ν⟩=σ (I_ j_ k):=r.cell 3;have kf:=r.frozen;have z0:s.cell? ⟨w.heap.size+1+1,0,ν⟩=σ (I_ j_ 0):=v.cell 0;have z1:s.cell? ⟨w.heap.size+1+1,1,ν⟩=σ (S_ ν 0 0):=v.cell 1;have z2:s.cell? ⟨w.heap.size+1+1,2,ν⟩=σ (I_ j_ 0):=v.cell 2;have z3:s.cell? ⟨w.heap.size+1+1,3,ν⟩=σ (I_ j_ 0):=v.cell 3;have zf:=v.frozen;have HU:=h_ o;clear o j d e0 e1 e2 e3 e4)
 obtain⟨g7,c7,G,T,ae,Q,H⟩:=Qgj_ HU.o (by intro e;cases e);injection G with G _ e8;injection G with G;injection G with G;subst G;subst e8;have C:Ψ (Own s B 71 (c6*5) ((L++[(t,a,b,f,i)]).flatMap QaD_)):=by
  show Own _ _ _ _ _;rw[List.flatMap_append];simpa using T
 have z:=h_ (show(L++[(t,a,b,f,i)]).length=n3+1 by rw[lA,I.o];rfl);clear T ae HU N U F J o4 I ai;revert E C z;generalize L++[(t,a,b,f,i)]=L2;intro E C z;refine bodyPost_ret (by simp[results,Tryz.results48,go_sem,z0,z1,z2,z3];try rfl) rfl ?_;rw[HR.o,E.o];refine⟨B,c6,(by rw[z.o]),?_,oo,by rw[z.o];exact Q,H,grow_⟩
 repeat (first|(with_reducible exact C.o)|(with_reducible refine Own.far ?_ (by dsimp only;omega) _))
def QkN_ {p:EntryD->Bool} {l:List EntryD} {d:EntryD} (h:l[w]? =σ d):outE p (l.take (w+1))=if p d then outE p (l.take w)else outE p (l.take w)++[d]:=by
 rw[List.take_add_one,h];unfold outE;rw[List.filter_append]
 cases hp:p d<;>simp[hp]
def QkZ_ (p:EntryD->Bool) (l:List EntryD) (k:Nat):(outE p (l.take k)).length<=k:=lt_ (List.length_filter_le _ _) (by rw[List.length_take];omega)
def Qky_ (w:Ω) (C E Z c:Array Υ) (a b:TypeId):
  Own (((((w.alloc (C_ C a)).alloc (C_ E b)).alloc (C_ Z a)).alloc (C_ c a)).alloc (C_ #[] b)) (w.heap.size+1+1+1+1) b 0 []/\
  Blk (((((w.alloc (C_ C a)).alloc (C_ E b)).alloc (C_ Z a)).alloc (C_ c a)).alloc (C_ #[] b)) w.heap.size a C/\
  Blk (((((w.alloc (C_ C a)).alloc (C_ E b)).alloc (C_ Z a)).alloc (C_ c a)).alloc (C_ #[] b)) (w.heap.size+1) b E/\
  Blk (((((w.alloc (C_ C a)).alloc (C_ E b)).alloc (C_ Z a)).alloc (C_ c a)).alloc (C_ #[] b)) (w.heap.size+1+1) a Z/\
  Blk (((((w.alloc (C_ C a)).alloc (C_ E b)).alloc (C_ Z a)).alloc (C_ c a)).alloc (C_ #[] b)) (w.heap.size+1+1+1) a c:=by
 refine⟨?_,?_,?_,?_,?_⟩
 ·have h:Own ((((((w.alloc (C_ C a)).alloc (C_ E b)).alloc (C_ Z a)).alloc (C_ c a)).alloc (C_ #[] b))) _ b 0 []:=Own.made rfl;simp only[ws_]at h;exact h
 ·exact((((Blk.new w a C).alloc _).alloc _).alloc _).alloc _
 ·have h:=((((Blk.new (w.alloc (C_ C a)) b E).alloc (C_ Z a)).alloc (C_ c a)).alloc (C_ #[] b));simp only[ws_]at h;exact h
 ·have h:=(((Blk.new ((w.alloc (C_ C a)).alloc (C_ E b)) a Z).alloc (C_ c a)).alloc (C_ #[] b));simp only[ws_]at h;exact h
 have h:=((Blk.new (((w.alloc (C_ C a)).alloc (C_ E b)).alloc (C_ Z a)) a c).alloc (C_ #[] b));simp only[ws_]at h;exact h
def QjI_ {w:Ω} {g g' cap:Nat} {e t:TypeId} {xs:List Υ} {cs:Array Υ} (h:Own w g e cap xs) (h':Blk w g' t cs) (a:e≠t):g≠g':=by
 rintro rfl;obtain⟨rest,hb,_⟩:=h;have:=hb.symm.trans h';injection this with this;injection this with _ this;exact a this
def Qk9_ {w:Ω} {g i:Nat} {t:TypeId} {cs a:Array Υ} {u:Υ} (h:Blk w g t cs) (he:cs.setIfInBounds i u=a):Blk (w.setCell ⟨g,i,ν⟩ u) g t a:=by
 rw[<-he];exact h.set_ i u
def Qjn_ (A:OA) (n c:Nat) (l:List EntryD) (t B:BA) (a b C:Int) (w:Ω) (hn:n<=1048576) (hl:Ψ (η l=n)) (hr:Rd w 5 A n (l.flatMap QaD_)):
    Δ π 43 #[A_ #[I_ j_ m,S_ A n c,I_ j_ h,I_ j_ k],A_ #[T_ t,I_ j_ a,I_ j_ b,T_ B,I_ j_ C]] w (Qkh_ m h k (putL m l (t,a,b,B,C)) w):=by
  obtain⟨i0,hi,bb,bc,bd⟩:=info_parts Qhx_;have Y:=h_<|ai_ hi<|ai_ bb<|ai_ bc bd;have HR:=h_ hr;clear hi bb bc bd hr;go_in;go_wp2;go_loopw [6] (fun i wr=>∃(q:Nat) (f:List EntryD) (z c6:Nat),q<=n/\i=I_ j_ q/\Ψ (outE (QaR_ t a b) (l.take q)=f)/\w.heap.size+4<=z/\η f<=c6/\c6<=maxLen/\Ψ (Own wr z 71 (c6*5) (f.flatMap QaD_))/\Ψ (Blk wr w.heap.size 36 #[I_ j_ m,S_ A n c,I_ j_ h,I_ j_ k])/\Ψ (Blk wr (w.heap.size+1) 71 #[T_ t,I_ j_ a,I_ j_ b,T_ B,I_ j_ C])/\Ψ (Blk wr (w.heap.size+1+1) 36 #[I_ j_ 0,S_ ν 0 0,I_ j_ 0,I_ j_ 0])/\Ψ (Blk wr (w.heap.size+1+1+1) 36 #[I_ j_ m,S_ (σ ⟨z,0,ν⟩) (η f) c6,I_ j_ h,I_ j_ k])/\Λ w wr/\z<wr.heap.size) (fun i _=>n-(intOf i).toNat)
  ·
    obtain⟨s1,s2,s3,s4,s5⟩:=Qky_ w #[I_ j_ m,S_ A n c,I_ j_ h,I_ j_ k] #[T_ t,I_ j_ a,I_ j_ b,T_ B,I_ j_ C] #[I_ j_ 0,S_ ν 0 0,I_ j_ 0,I_ j_ 0] #[I_ j_ m,S_ (σ ⟨w.heap.size+1+1+1+1,0,ν⟩) 0 0,I_ j_ h,I_ j_ k] 36 71;exact⟨0,[],w.heap.size+1+1+1+1,0,lz_ _,rfl,rfl,oo,lr_ _,lz_ _,s1,s2,s3,s4,s5,grow_,by simp[World.setCell]⟩
  obtain⟨q,f,z,c6,hk,rfl,H,bE,aY,aF,HO,K0,K1,K2,K5,hb,aj⟩:=hrel;by_cases aG:q<n
  · obtain⟨⟨M,N,O,P,Q⟩,hd⟩:∃d,l[q]? =σ d:=⟨_,gE (by have:=hl.o;omega)⟩
    obtain⟨b',off,rfl,ap,c0,c1,c2,c3,c4⟩:=QcF_ (HR.o.below hb) aG hd;have HD:=h_ hd;have a0:wr.cell? ⟨w.heap.size,1,ν⟩=σ (S_ (σ ⟨b',off,ν⟩) n c):=K0.o.cell 1;have e0:wr.cell? ⟨w.heap.size+1,0,ν⟩=σ (T_ t):=K1.o.cell 0;have e1:wr.cell? ⟨w.heap.size+1,1,ν⟩=σ (I_ j_ a):=K1.o.cell 1;have e2:wr.cell? ⟨w.heap.size+1,2,ν⟩=σ (I_ j_ b):=K1.o.cell 2;clear hd;have b0:(q:Int)<n:=oo;have bZ:b'<w.heap.size:=HR.o.lt oo b' off rfl;have S:=h_ (fun s (hs:QaR_ t a b (M,N,O,P,Q)=s) (W:Ω)=>show Δ π 61 #[A_ #[T_ M,I_ j_ N,I_ j_ O,T_ P,I_ j_ Q],T_ t,I_ j_ a,I_ j_ b] W fun e w'=>e=R_ (B_ s)/\Λ W w' by
      have h:=Qi6_ t M P a b N O Q W;rwa[hs]at h)
    have aK:=h_<|QkN_ (p:=QaR_ t a b) HD.o
    cases hs:QaR_ t a b (M,N,O,P,Q)with
    |true=>
      have HS:=h_<|S.o _ hs;have aZ:=h_ (show outE (QaR_ t a b) (l.take (q+1))=f by have:=aK.o;rw[hs]at this;rw[this,ip_ rfl];exact H.o);clear hs S aK;go_wp2_with fail
      go_still_tail 11,nr_;change wpList _ _ _ _ _ wr.drew;go_wp2_with fail;refine mb_ (HS.o _) ?_;intro w3 U;have O3:=h_<|HO.o.drew.next U;have an:=h_<|K0.o.drew.next U;have aP:=h_<|K1.o.drew.next U;have aQ:=h_<|K2.o.drew.next U;have aa:=h_<|K5.o.drew.next U;have ad:=Qb_ hb (show Λ wr w3 from br.drew.trans U);have aO:z<w3.heap.size:=ll_ aj U.size;clear c0 c1 c2 c3 c4 a0 e0 e1 e2 ap U HO K0 K1 K2 K5 hb aj;go_wp2;exact⟨⟨q+1,f,z,c6,oo,by go_num,aZ,bE,aY,aF,O3,an,aP,aQ,aa,ad,aO⟩,ms_⟩
    |false=>
      have HS:=h_<|S.o _ hs;have aZ:=h_ (show outE (QaR_ t a b) (l.take (q+1))=f++[(M,N,O,P,Q)]by have:=aK.o;rw[hs]at this;rw[this,in_ Bool.false_ne_true,H.o]);have aX:η f<=q:=(by rw[<-H.o];exact QkZ_ _ _ _);clear hs S aK;go_wp2_with fail
      go_still_tail 11,nr_;change wpList _ _ _ _ _ wr.drew;go_wp2_with fail;refine mb_ (HS.o _) ?_;intro w3 U;have O3:=h_ (HO.o.drew.next U);have an:=h_ (K0.o.drew.next U);have aP:=h_ (K1.o.drew.next U);have aQ:=h_ (K2.o.drew.next U);have aa:=h_ (K5.o.drew.next U);have a6:Λ wr w3:=br.drew.trans U;have ad:=Qb_ hb a6;have aO:z<w3.heap.size:=ll_ aj U.size;have bD:=ll_ ap U.size;obtain⟨b2,o2,e,_,d0,d1,d2,d3,d4⟩:=QcF_ (HR.o.below ad) aG HD.o;injection e with e;injection e with eb eo;subst eb;subst eo;have a0:w3.cell? ⟨w.heap.size,1,ν⟩=σ (S_ (σ ⟨b',off,ν⟩) n c):=an.o.cell 1;have bf:w3.cell? ⟨w.heap.size+1+1+1,1,ν⟩=σ (S_ (σ ⟨z,0,ν⟩) (η f) c6):=aa.o.cell 1;have bL:=aa.o.frozen;have b9:=aa.o.lt;obtain⟨n3,K⟩:=ex_ (η f);have R:=h_ K;rw[K]at bf aY aX;have ag:=h_ (show Blk w3 (w.heap.size+1+1+1) 36 #[I_ j_ m,S_ (σ ⟨z,0,ν⟩) n3 c6,I_ j_ h,I_ j_ k]by have:=aa.o;rw[K]at this;exact this);clear c0 c1 c2 c3 c4 e0 e1 e2 ap U a6 HO K0 K1 K2 K5 hb aj aa K;have bO:(w3.alloc (C_ #[T_ M,I_ j_ N,I_ j_ O,T_ P,I_ j_ Q] 71)).cell? ⟨w.heap.size,1,ν⟩=σ (S_ (σ ⟨b',off,ν⟩) n c):=(an.o.alloc _).cell 1;have bP:(w3.alloc (C_ #[T_ M,I_ j_ N,I_ j_ O,T_ P,I_ j_ Q] 71)).cell? ⟨w.heap.size+1+1+1,1,ν⟩=σ (S_ (σ ⟨z,0,ν⟩) n3 c6):=(ag.o.alloc _).cell 1;have bV:(w3.alloc (C_ #[T_ M,I_ j_ N,I_ j_ O,T_ P,I_ j_ Q] 71)).frozen? ⟨w.heap.size+1+1+1,1,ν⟩=φ:=(ag.o.alloc _).frozen 1;obtain⟨b3,o3,e,_,bQ,bR,bS,bT,bU⟩:=QcF_ (HR.o.below (ad.alloc ad.size (C_ #[T_ M,I_ j_ N,I_ j_ O,T_ P,I_ j_ Q] 71))) aG HD.o;injection e with e;injection e with eb eo;subst eb;subst eo;have bq:=h_ (fun(J cap:Nat) (r:Ω) (o:r.ownsRow z 71 5 (S_ (σ ⟨J,0,ν⟩) (n3+1) cap) (n3+1) (f.flatMap QaD_++QaD_ (M,N,O,P,Q))) (g:(w3.alloc (C_ (QaD_ (M,N,O,P,Q)).toArray 71)).grownBy r (σ z)) (aD:z=J\/J=w3.heap.size+1) (L:J<r.heap.size)=>
        show w.heap.size+4<=J/\(f++[(M,N,O,P,Q)]).length<=cap/\cap<=maxLen/\Ψ (Own (r.setCell ⟨w.heap.size+1+1+1,1,ν⟩ (S_ (σ ⟨J,0,ν⟩) (n3+1) cap)) J 71 (cap*5) ((f++[(M,N,O,P,Q)]).flatMap QaD_))/\Ψ (Blk (r.setCell ⟨w.heap.size+1+1+1,1,ν⟩ (S_ (σ ⟨J,0,ν⟩) (n3+1) cap)) w.heap.size 36 #[I_ j_ m,S_ (σ ⟨b',off,ν⟩) n c,I_ j_ h,I_ j_ k])/\Ψ (Blk (r.setCell ⟨w.heap.size+1+1+1,1,ν⟩ (S_ (σ ⟨J,0,ν⟩) (n3+1) cap)) (w.heap.size+1) 71 #[T_ t,I_ j_ a,I_ j_ b,T_ B,I_ j_ C])/\Ψ (Blk (r.setCell ⟨w.heap.size+1+1+1,1,ν⟩ (S_ (σ ⟨J,0,ν⟩) (n3+1) cap)) (w.heap.size+1+1) 36 #[I_ j_ 0,S_ ν 0 0,I_ j_ 0,I_ j_ 0])/\Ψ (Blk (r.setCell ⟨w.heap.size+1+1+1,1,ν⟩ (S_ (σ ⟨J,0,ν⟩) (n3+1) cap)) (w.heap.size+1+1+1) 36 #[I_ j_ m,S_ (σ ⟨J,0,ν⟩) (f++[(M,N,O,P,Q)]).length cap,I_ j_ h,I_ j_ k])/\Λ w (r.setCell ⟨w.heap.size+1+1+1,1,ν⟩ (S_ (σ ⟨J,0,ν⟩) (n3+1) cap))/\J<(r.setCell ⟨w.heap.size+1+1+1,1,ν⟩ (S_ (σ ⟨J,0,ν⟩) (n3+1) cap)).heap.size by
          have bF:w.heap.size+4<=J:=(by rcases aD with hq|hq<;>omega);obtain⟨T,c7,I,ae,aC,ah,X⟩:=Qgj_ o (by intro e;cases e);injection I with I _ e8;injection I with I;injection I with I;subst I;subst e8;have aH:(f++[(M,N,O,P,Q)]).length=n3+1:=(by rw[lA,R.o];rfl);have hO:Own r J 71 (cap*5) ((f++[(M,N,O,P,Q)]).flatMap QaD_):=by
            rw[List.flatMap_append];simpa using ae
          rw[aH];exact⟨bF,ah,X,hO.far (by dsimp only;omega) _,((an.o.alloc _).turned g (fun k e=>by injection e with e;omega)).far (by dsimp only;omega) _,((aP.o.alloc _).turned g (fun k e=>by injection e with e;omega)).far (by dsimp only;omega) _,((aQ.o.alloc _).turned g (fun k e=>by injection e with e;omega)).far (by dsimp only;omega) _,Qk9_ ((ag.o.alloc _).turned g (fun k e=>by injection e with e;omega)) rfl,(XY_ (ad.alloc ad.size _) g (fun k e=>by injection e with e;omega)).setCell (by dsimp only;omega) _,by simpa[World.setCell]using L⟩)
      go_wp2_with fail;go_region_law
        (refine step_append_lies _ rfl (.tmp 31) (.tmp 37) 34 rfl z 71 i0 (A_ #[T_ ⟨#[]⟩,I_ j_ 0,I_ j_ 0,T_ ⟨#[]⟩,I_ j_ 0]) 5 56 underlying34 Y.o.1 Y.o.2.1 Y.o.2.2.1 Y.o.2.2.2 rfl dc_ (S_ (σ ⟨z,0,ν⟩) n3 c6) n3 (f.flatMap QaD_) (by simp[Act.eval,Act.put]) (Qje_ ((O3.o.alloc _).drew) R.o oo aF) ⟨w3.heap.size,0,ν⟩ 1 1 (QaD_ (M,N,O,P,Q)) (by simp[Act.eval,Act.put]) (by rfl) (World.news_of_block (cs:=(QaD_ (M,N,O,P,Q)).toArray) (t:=71) (fr:=(0,0)) (heap_alloc_new w3 _)) (fun x hx=>by simp[QaD_]at hx;rcases hx with rfl|rfl|rfl|rfl|rfl<;>rfl) dc_ mx_ oo so_ (w3.heap.size+1) sm_ ?_
         intro J cap r o F aD L;have g:(w3.alloc (C_ (QaD_ (M,N,O,P,Q)).toArray 71)).grownBy r (σ z):=⟨F.os,F.tape,F.output,F.size,F.block⟩;have y:=(ag.o.alloc _).turned g (fun k e=>by injection e with e;omega);have bf:r.cell? ⟨w.heap.size+1+1+1,1,ν⟩=σ (S_ (σ ⟨z,0,ν⟩) n3 c6):=y.cell 1;have bL:=y.frozen;have aN:z=J\/J=w3.heap.size+1:=by
           rcases aD with hq|hq
           · exact .inl (by injection hq)
           exact .inr hq
         have F5:=bq.o J cap r o g aN L;have bv:=h_ F5;clear F5 o F aD L aN g)
      all_goals
        go_wp2;exact⟨⟨q+1,f++[(M,N,O,P,Q)],_,_,oo,by go_num,aZ,bv.o⟩,ms_⟩
  obtain rfl:q=n:=oo;have aM:l.take q=l:=List.take_of_length_le (by rw[hl.o];exact lr_ _);rw[aM]at H;have aX:η f<=q:=(by rw[<-H.o,<-hl.o];exact List.length_filter_le _ _);obtain⟨n3,K⟩:=ex_ (η f);have R:=h_ K;have HP:Ψ (putL m l (t,a,b,B,C)=if m<((n3+1:Nat):Int)then (f++[(t,a,b,B,C)]).tail else f++[(t,a,b,B,C)]):=by
    show putL m l (t,a,b,B,C)=_;unfold putL;simp only[lA,List.length_cons,List.length_nil];rw[H.o,K]
  have az:=h_ (show Blk wr (w.heap.size+1+1+1) 36 #[I_ j_ m,S_ (σ ⟨z,0,ν⟩) n3 c6,I_ j_ h,I_ j_ k]by have:=K5.o;rw[K]at this;exact this);rw[K]at aY aX;have e0:wr.cell? ⟨w.heap.size+1,0,ν⟩=σ (T_ t):=K1.o.cell 0;have e1:wr.cell? ⟨w.heap.size+1,1,ν⟩=σ (I_ j_ a):=K1.o.cell 1;have e2:wr.cell? ⟨w.heap.size+1,2,ν⟩=σ (I_ j_ b):=K1.o.cell 2;have e3:wr.cell? ⟨w.heap.size+1,3,ν⟩=σ (T_ B):=K1.o.cell 3;have e4:wr.cell? ⟨w.heap.size+1,4,ν⟩=σ (I_ j_ C):=K1.o.cell 4;have a0:wr.cell? ⟨w.heap.size,1,ν⟩=σ (S_ A q c):=K0.o.cell 1;have k1:wr.cell? ⟨w.heap.size+1+1+1,1,ν⟩=σ (S_ (σ ⟨z,0,ν⟩) n3 c6):=az.o.cell 1;have hz:=az.o.lt;clear K5 K aM H aG;by_cases aI:m<((n3+1:Nat):Int)
  · have Z:=h_ (show putL m l (t,a,b,B,C)=(f++[(t,a,b,B,C)]).tail by have:=HP.o;rwa[ip_ aI]at this)
    have a8:m<(n3:Int)+1:=oo;clear aI HP;go_upto_region 10 with(
                            at_builtin;(refine wpList_append_lies _ rfl (.tmp 41) (.tmp 43) _ rfl z 71 i0 (A_ #[T_ ⟨#[]⟩,I_ j_ 0,I_ j_ 0,T_ ⟨#[]⟩,I_ j_ 0]) 5 56 underlying34 Y.o.1 Y.o.2.1 Y.o.2.2.1 Y.o.2.2.2 rfl dc_ (S_ (σ ⟨z,0,ν⟩) n3 c6) n3 (f.flatMap QaD_) rfl (Qje_ (HO.o.alloc _) R.o oo aF) ⟨wr.heap.size,0,ν⟩ 1 1 (QaD_ (t,a,b,B,C)) rfl rfl (World.news_of_block (Blk.new wr 71 (QaD_ (t,a,b,B,C)).toArray)) (fun x hx=>by simp[QaD_]at hx;rcases hx with rfl|rfl|rfl|rfl|rfl<;>rfl) dc_ mx_ oo so_ _ rfl ?_);intro T c7 r o D v L
                            rw[show(S_ (σ ⟨z,0,ν⟩) n3 c6).ownBlock=σ z from rfl]at D v;have bH:wr.heap.size+1<=r.heap.size:=(by have:=D.size;simp at this;omega);have a9:w.heap.size+4<=T:=by
                              rcases v with hq|hq
                              · have:z=T:=by injection hq
                                omega
                              simp at hq;omega
                            have y:=(az.o.alloc (C_ (QaD_ (t,a,b,B,C)).toArray 71)).turned D (fun k e=>by injection e with e;omega);have E:=(K2.o.alloc (C_ (QaD_ (t,a,b,B,C)).toArray 71)).turned D (fun k e=>by injection e with e;omega);have aA:=(K0.o.alloc (C_ (QaD_ (t,a,b,B,C)).toArray 71)).turned D (fun k e=>by injection e with e;omega);have aU:=XY_ (hb.alloc hb.size (C_ (QaD_ (t,a,b,B,C)).toArray 71)) D (fun k e=>by injection e with e;omega);have k0:r.cell? ⟨w.heap.size+1+1+1,0,ν⟩=σ (I_ j_ m):=y.cell 0;have k1:r.cell? ⟨w.heap.size+1+1+1,1,ν⟩=σ (S_ (σ ⟨z,0,ν⟩) n3 c6):=y.cell 1;have k2:r.cell? ⟨w.heap.size+1+1+1,2,ν⟩=σ (I_ j_ h):=y.cell 2;have k3:r.cell? ⟨w.heap.size+1+1+1,3,ν⟩=σ (I_ j_ k):=y.cell 3;have kf:=y.frozen;have kz:=y.lt;have m0:r.cell? ⟨w.heap.size,0,ν⟩=σ (I_ j_ m):=aA.cell 0;have z0:r.cell? ⟨w.heap.size+1+1,0,ν⟩=σ (I_ j_ 0):=E.cell 0;have z1:r.cell? ⟨w.heap.size+1+1,1,ν⟩=σ (S_ ν 0 0):=E.cell 1;have z2:r.cell? ⟨w.heap.size+1+1,2,ν⟩=σ (I_ j_ 0):=E.cell 2;have z3:r.cell? ⟨w.heap.size+1+1,3,ν⟩=σ (I_ j_ 0):=E.cell 3;have zf:=E.frozen;have HU:=h_ o;clear o D v e0 e1 e2 e3 e4)
    obtain⟨g8,c8,I,ae,aC,ah,X⟩:=Qgj_ HU.o (by intro e;cases e);injection I with I _ e8;injection I with I;injection I with I;subst I;subst e8;have V:Ψ (Own r T 71 (c7*5) ((f++[(t,a,b,B,C)]).flatMap QaD_)):=by
      show Own _ _ _ _ _;rw[List.flatMap_append];simpa using ae
    have G:=h_ (show(f++[(t,a,b,B,C)]).length=n3+1 by rw[lA,R.o];rfl);clear ae aC HU HO R;revert Z V G;generalize f++[(t,a,b,B,C)]=L2;intro Z V G;obtain⟨w6,al⟩:∃w6,w6=r.setCell ⟨w.heap.size+1+1+1,1,ν⟩ (S_ (σ ⟨T,0,ν⟩) (n3+1) c7):=⟨_,rfl⟩;have O6:Ψ (Own w6 T 71 (c7*5) (L2.flatMap QaD_)):=(by rw[al];exact V.o.far (by dsimp only;omega) _);have aR:Ψ (Blk w6 (w.heap.size+1+1+1) 36 #[I_ j_ m,S_ (σ ⟨T,0,ν⟩) (n3+1) c7,I_ j_ h,I_ j_ k]):=(by rw[al];exact y.set_ 1 _);have bA:Ψ (Blk w6 (w.heap.size+1+1) 36 #[I_ j_ 0,S_ ν 0 0,I_ j_ 0,I_ j_ 0]):=(by rw[al];exact E.far (by dsimp only;omega) _);have ao:Λ w w6:=(by rw[al];exact aU.setCell (by dsimp only;omega) _);rw[<-al];obtain⟨A',hA,ba⟩:∃A':Addr,(if c7=1 then σ (⟨T,0,ν⟩:Addr)else σ ⟨T,5,ν⟩)=σ A'/\Ψ (∀(W:Ω),Λ w6 W->∀j u,(L2.tail.flatMap QaD_)[j]? =σ u->W.cell? (A'.add j)=σ u):=by
      have aj:(L2.tail.flatMap QaD_).length=n3*5:=(by rw[Xs_ QaD_ QaQ_,List.length_tail,G.o];rfl);by_cases h1:c7=1
      · refine⟨⟨T,0,ν⟩,by simp[h1],fun W hW j u hu=>?_⟩
        have:=(gs_.1 hu).1;rw[aj]at this;omega
      refine⟨⟨T,5,ν⟩,by simp[h1],fun W hW j u hu=>?_⟩;obtain⟨d,l',rfl⟩:∃d l',L2=d::l':=by
        cases L2 with
        |nil=>have:=G.o;simp at this
        |cons d l'=>exact⟨d,l',rfl⟩
      have hr:Rd w6 5 (σ ⟨T,0,ν⟩) (n3+1) ((d::l').flatMap QaD_):=O6.o.rd (by rw[Xs_ QaD_ QaQ_,G.o]);obtain⟨b',off,e,bC,aV⟩:=hr.2 oo;injection e with e;injection e with e1 e2;subst e1;subst e2;have:=((QW_ hW).1 _ _ bC).trans (aV (5+j) u (by rw[List.flatMap_cons,List.getElem?_append_right (by rw[QaQ_];omega),QaQ_,show 5+j-5=j from oo];exact hu));rw[Addr.add_lit];rwa[Nat.zero_add]at this
    have b1:(1:Int)<=(n3:Int)+1:=oo;have b4:1<=n3+1:=oo;have b5:1<=c7:=oo;have b6:c7<=9223372036854775807:=(by unfold maxLen at X;omega);have cb:=aR.o.lt;clear al k0 k1 k2 k3 kf m0 z0 z1 z2 z3 zf y E aA aU V;have k1:w6.cell? ⟨w.heap.size+1+1+1,1,ν⟩=σ (S_ (σ ⟨T,0,ν⟩) (n3+1) c7):=aR.o.cell 1;go_wp2_with (
                 at_builtin;(refine wpList_append_own _ rfl (.tmp 52) (.tmp 55) _ rfl w.heap.size 71 i0 (A_ #[T_ ⟨#[]⟩,I_ j_ 0,I_ j_ 0,T_ ⟨#[]⟩,I_ j_ 0]) 5 56 underlying34 Y.o.1 Y.o.2.1 Y.o.2.2.1 Y.o.2.2.2 rfl dc_ (S_ (σ ⟨w6.heap.size,0,ν⟩) 0 0) 0 [] rfl (Mine.more (ZA_ w6 _ 5) ao.size) A' n3 (c7-1) (L2.tail.flatMap QaD_) rfl (by rw[Xs_ QaD_ QaQ_,List.length_tail,G.o];rfl) (ba.o _ ((Below.refl _ w6).alloc (lr_ _) _)) (fun x hx=>Qi8_ hx) mx_ oo (by simp;have:=ao.size;omega) ?_)
                 intro v' w7 av aq ar;obtain⟨g8,c8,rfl,aJ,bX,bN,a7⟩:=Qgj_ av (fun e=>by have:=(ar.1 e).1;cases this);rw[show(S_ (σ ⟨w6.heap.size,0,ν⟩) 0 0).ownBlock=σ w6.heap.size from rfl]at aq;have ab:=(aR.o.alloc (C_ #[] 71)).turned aq (fun k e=>by injection e with e;omega);have ai:=(bA.o.alloc (C_ #[] 71)).turned aq (fun k e=>by injection e with e;omega);have bY:=XY_ (ao.alloc ao.size (C_ #[] 71)) aq (fun k e=>by injection e with e;have:=ao.size;omega);have ca:w.heap.size+1+1+1<w7.heap.size:=ab.lt;have b8:g8≠w.heap.size+1+1+1:=QjI_ aJ ab dc_;have b7:g8≠w.heap.size+1+1:=QjI_ aJ ai dc_;have k0:w7.cell? ⟨w.heap.size+1+1+1,0,ν⟩=σ (I_ j_ m):=ab.cell 0;have k1:w7.cell? ⟨w.heap.size+1+1+1,1,ν⟩=σ (S_ (σ ⟨T,0,ν⟩) (n3+1) c7):=ab.cell 1;have k2:w7.cell? ⟨w.heap.size+1+1+1,2,ν⟩=σ (I_ j_ h):=ab.cell 2;have k3:w7.cell? ⟨w.heap.size+1+1+1,3,ν⟩=σ (I_ j_ k):=ab.cell 3;have kf:=ab.frozen;have z0:w7.cell? ⟨w.heap.size+1+1,0,ν⟩=σ (I_ j_ 0):=ai.cell 0;have z1:w7.cell? ⟨w.heap.size+1+1,1,ν⟩=σ (S_ ν 0 0):=ai.cell 1;have z2:w7.cell? ⟨w.heap.size+1+1,2,ν⟩=σ (I_ j_ 0):=ai.cell 2;have z3:w7.cell? ⟨w.heap.size+1+1,3,ν⟩=σ (I_ j_ 0):=ai.cell 3;have zf:=ai.frozen;have bx:Ψ (Own w7 g8 71 (c8*5) (L2.tail.flatMap QaD_)):=(by show Own _ _ _ _ _;simpa using aJ);clear av aq ar aJ)
    refine bodyPost_ret (by simp[results,Tryz.results43,go_sem,z0,z1,z2,z3];try rfl) rfl ?_;rw[Z.o];have aH:η L2.tail=n3:=(by rw[List.length_tail,G.o];rfl);refine⟨g8,c8,(by rw[aH]),?_,oo,by rw[aH];omega,a7,grow_⟩
    repeat (first|(with_reducible exact bx.o)|(with_reducible refine Own.far ?_ (by dsimp only;omega) _))
  have Z:=h_ (show putL m l (t,a,b,B,C)=f++[(t,a,b,B,C)]by have:=HP.o;rwa[in_ aI]at this);have a8:¬m<(n3:Int)+1:=oo;clear aI HP;go_wp2_with (
               at_builtin;(refine wpList_append_lies _ rfl (.tmp 41) (.tmp 43) _ rfl z 71 i0 (A_ #[T_ ⟨#[]⟩,I_ j_ 0,I_ j_ 0,T_ ⟨#[]⟩,I_ j_ 0]) 5 56 underlying34 Y.o.1 Y.o.2.1 Y.o.2.2.1 Y.o.2.2.2 rfl dc_ (S_ (σ ⟨z,0,ν⟩) n3 c6) n3 (f.flatMap QaD_) rfl (Qje_ (HO.o.alloc _) R.o oo aF) ⟨wr.heap.size,0,ν⟩ 1 1 (QaD_ (t,a,b,B,C)) rfl rfl (World.news_of_block (Blk.new wr 71 (QaD_ (t,a,b,B,C)).toArray)) (fun x hx=>by simp[QaD_]at hx;rcases hx with rfl|rfl|rfl|rfl|rfl<;>rfl) dc_ mx_ oo so_ _ rfl ?_);intro T c7 r o D v L
               rw[show(S_ (σ ⟨z,0,ν⟩) n3 c6).ownBlock=σ z from rfl]at D v;have bH:wr.heap.size+1<=r.heap.size:=(by have:=D.size;simp at this;omega);have a9:w.heap.size+4<=T:=by
                 rcases v with hq|hq
                 · have:z=T:=by injection hq
                   omega
                 simp at hq;omega
               have y:=(az.o.alloc (C_ (QaD_ (t,a,b,B,C)).toArray 71)).turned D (fun k e=>by injection e with e;omega);have E:=(K2.o.alloc (C_ (QaD_ (t,a,b,B,C)).toArray 71)).turned D (fun k e=>by injection e with e;omega);have aA:=(K0.o.alloc (C_ (QaD_ (t,a,b,B,C)).toArray 71)).turned D (fun k e=>by injection e with e;omega);have aU:=XY_ (hb.alloc hb.size (C_ (QaD_ (t,a,b,B,C)).toArray 71)) D (fun k e=>by injection e with e;omega);have k0:r.cell? ⟨w.heap.size+1+1+1,0,ν⟩=σ (I_ j_ m):=y.cell 0;have k1:r.cell? ⟨w.heap.size+1+1+1,1,ν⟩=σ (S_ (σ ⟨z,0,ν⟩) n3 c6):=y.cell 1;have k2:r.cell? ⟨w.heap.size+1+1+1,2,ν⟩=σ (I_ j_ h):=y.cell 2;have k3:r.cell? ⟨w.heap.size+1+1+1,3,ν⟩=σ (I_ j_ k):=y.cell 3;have kf:=y.frozen;have kz:=y.lt;have m0:r.cell? ⟨w.heap.size,0,ν⟩=σ (I_ j_ m):=aA.cell 0;have z0:r.cell? ⟨w.heap.size+1+1,0,ν⟩=σ (I_ j_ 0):=E.cell 0;have z1:r.cell? ⟨w.heap.size+1+1,1,ν⟩=σ (S_ ν 0 0):=E.cell 1;have z2:r.cell? ⟨w.heap.size+1+1,2,ν⟩=σ (I_ j_ 0):=E.cell 2;have z3:r.cell? ⟨w.heap.size+1+1,3,ν⟩=σ (I_ j_ 0):=E.cell 3;have zf:=E.frozen;have HU:=h_ o;clear o D v e0 e1 e2 e3 e4)
  obtain⟨g8,c8,I,ae,aC,ah,X⟩:=Qgj_ HU.o (by intro e;cases e);injection I with I _ e8;injection I with I;injection I with I;subst I;subst e8;have V:Ψ (Own r T 71 (c7*5) ((f++[(t,a,b,B,C)]).flatMap QaD_)):=by
    show Own _ _ _ _ _;rw[List.flatMap_append];simpa using ae
  have G:=h_ (show(f++[(t,a,b,B,C)]).length=n3+1 by rw[lA,R.o];rfl);clear ae aC HU HO R;revert Z V G;generalize f++[(t,a,b,B,C)]=L2;intro Z V G;refine bodyPost_ret (by simp[results,Tryz.results43,go_sem,z0,z1,z2,z3];try rfl) rfl ?_;rw[Z.o];refine⟨T,c7,(by rw[G.o]),?_,oo,by rw[G.o];exact ah,X,grow_⟩
  repeat (first|(with_reducible exact V.o)|(with_reducible refine Own.far ?_ (by dsimp only;omega) _))
end Go.Proofs.YtbiijipkgfpgoaaGreatDoor

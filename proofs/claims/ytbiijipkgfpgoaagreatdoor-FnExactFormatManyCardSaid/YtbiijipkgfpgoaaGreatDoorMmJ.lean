/-
  Put together by program.
-/
import Derived.Test.YtbiijipkgfpgoaaGreatDoorMmB
import Derived.Deep.RegionHeld3
set_option maxRecDepth 100000
set_option linter.all false
set_option maxHeartbeats 25600000
open Go.Proofs.Tryz
open Go.Value renaming int→I_,slice→S_,string→T_,bool→B_,pointer→P_,agg→A_,tuple→U_
open Go.IntKind renaming i64→j_
open Go.Obj renaming cells→C_
open Go.Ending renaming returned→R_
open List renaming length→η
open Go renaming World→Ω,Calls→Δ,Value→Υ
open Go.Proofs.Tryz renaming prog→π
open Go.RowKit renaming Hid→Ψ
open Bool renaming true→τ,false→φ,and_eq_true→τa
open Option renaming none→ν,some→σ
namespace Go.Proofs.YtbiijipkgfpgoaaGreatDoor
open Go.RowKit
variable (m h k:Int)(e:OA)(n c:Nat)(t:BA)(q d:Int)(b:BA)(f a:Int)(w:Ω)(g l:Nat){i j:Nat}{o:Ω}
abbrev EntryD:=BA × Int × Int × BA × Int
def QaD_ (d:EntryD):List Υ:=[T_ (d.1),I_ j_ (d.2.1),I_ j_ (d.2.2.1),T_ (d.2.2.2.1),I_ j_ (d.2.2.2.2)]
def QaQ_ (d:EntryD):(QaD_ d).length=5:=rfl
def Qa2_ (d:EntryD):Nat:=d.1.size+d.2.2.2.1.size
def Qcg_ (l:List EntryD):Nat:=η l+(l.map Qa2_).sum
def Qi4_ (d:EntryD):Prop:=d.1.size<=maxLen/\d.2.2.2.1.size<=maxLen
def QcF_ {A:OA} {n k:Nat} {l:List EntryD} {x0:BA} {x1:Int} {x2:Int} {x3:BA} {x4:Int} (h:Rd o 5 A n (l.flatMap QaD_)) (hk:k<n) (hd:l[k]? =σ (x0,x1,x2,x3,x4)):
  ∃b off,A=σ ⟨b,off,ν⟩/\b<o.heap.size/\o.cell? ⟨b,off+k*5,ν⟩=σ (T_ x0)/\o.cell? ⟨b,off+k*5+1,ν⟩=σ (I_ j_ x1)/\o.cell? ⟨b,off+k*5+2,ν⟩=σ (I_ j_ x2)/\o.cell? ⟨b,off+k*5+3,ν⟩=σ (T_ x3)/\o.cell? ⟨b,off+k*5+4,ν⟩=σ (I_ j_ x4):=by
 obtain⟨b,off,e,hb,a⟩:=h.at_ oo;exact⟨b,off,e,hb,a _ _ (Kw_ QaD_ QaQ_ hd (j:=0) rfl),a _ _ (Kw_ QaD_ QaQ_ hd (j:=1) rfl),a _ _ (Kw_ QaD_ QaQ_ hd (j:=2) rfl),a _ _ (Kw_ QaD_ QaQ_ hd (j:=3) rfl),a _ _ (Kw_ QaD_ QaQ_ hd (j:=4) rfl)⟩
def QjJ_ (g:a<=1048576) (x0:(Qa2_ (t,q,d,b,f):Nat)<=a):
  Δ π 40 #[A_ #[T_ t,I_ j_ q,I_ j_ d,T_ b,I_ j_ f],I_ j_ a] w fun e w'=>e=R_ (I_ j_ (a-(Qa2_ (t,q,d,b,f):Nat)))/\Λ w w':=by
 have hs:Qa2_ (t,q,d,b,f)=t.size+b.size:=rfl;rw[hs]at x0 |-
 rw[show a-((t.size+b.size:Nat):Int)=a-t.size-b.size from oo];have g0:(0:Int)<=a-t.size:=oo;have g3:(0:Int)<=a-t.size-b.size:=oo;go_in;exact Γ
def Qkf_ (g:0<=a) (h:a<=1048576) (h0:t.size<=maxLen) (h3:b.size<=maxLen) (c:a<(Qa2_ (t,q,d,b,f):Nat)):
  Δ π 40 #[A_ #[T_ t,I_ j_ q,I_ j_ d,T_ b,I_ j_ f],I_ j_ a] w (RB_ (I_ j_ (-1)) w):=by
 unfold maxLen at h0 h3;have hs:Qa2_ (t,q,d,b,f)=t.size+b.size:=rfl;rw[hs]at c;by_cases g0:a<t.size
 ·go_in;exact Γ
 have g3:a-t.size<b.size:=oo;go_in;exact Γ
def Qkg_:
  Δ π 44 #[A_ #[T_ t,I_ j_ q,I_ j_ d,T_ b,I_ j_ f]] w (RB_ (A_ #[T_ t,I_ j_ q,I_ j_ d,T_ b,I_ j_ f]) w):=by
 go_in;go_wp2
 go_returns
 exact⟨rfl,grow_⟩
def Qj0_:
  Δ π 49 #[A_ #[T_ t,I_ j_ q,I_ j_ d,T_ b,I_ j_ f],A_ #[T_ t,I_ j_ q,I_ j_ d,T_ b,I_ j_ f]] w (RB_ (B_ τ) w):=by
 go_in;exact Γ
def Qke_ (l:List EntryD) (a:Int) (w:Ω) (h1:a<=1048576) (hl:η l=n)
  (hr:Rd w 5 e n (l.flatMap QaD_)) (p:(Qcg_ l:Nat)<=a):
  Δ π 24 #[S_ e n c,I_ j_ a] w fun A w'=>A=R_ (I_ j_ (a-(Qcg_ l:Nat)))/\Λ w w':=by
 unfold Qcg_ at p |-
 have g0:(0:Int)<=a-n:=oo;have gn:n<=1048576:=oo;have j:=h_ hl;go_in;go_wp2;go_loopw [1,5] (fun s i wr=>∃k:Nat,k<=n/\i=I_ j_ k/\s=I_ j_ (a-n-sumK Qa2_ l k)/\Λ w wr) (fun s i _=>n-(intOf i).toNat)
 ·exact⟨0,lz_ _,rfl,by rw[QiI_];go_num,br⟩
 obtain⟨k,hk,rfl,rfl,m⟩:=hrel;by_cases o:k<n
 ·obtain⟨⟨x0,x1,x2,x3,x4⟩,hd⟩:∃d,l[k]? =σ d:=⟨_,gE (by have:=j.o;omega)⟩;obtain⟨b,off,rfl,f,c0,c1,c2,c3,c4⟩:=QcF_ (hr.below m) o hd;have g:=h_ (QiH_ Qa2_ l k _ hd);have h:=h_ (show(Qa2_ (x0,x1,x2,x3,x4):Nat)<=a-n-sumK Qa2_ l k by have:=QiY_ Qa2_ l (k+1);have:=g.o;have:=j.o;omega);have q:=h_ (show a-n-sumK Qa2_ l k<=1048576 from oo);have t:(0:Int)<=a-n-sumK Qa2_ l k-(Qa2_ (x0,x1,x2,x3,x4):Nat):=(by have:=h.o;omega);go_wp2_with fail;refine mb_ (QjJ_ _ _ _ _ _ _ _ q.o h.o) ?_;intro w2 h2;have r:=m.trans<|h2.mono m.size;go_wp2;go_roundw
  ·exact⟨k+1,oo,by go_num,by rw[g.o];go_num,grow_⟩
  exact ms_
 obtain rfl:k=n:=oo;have ht:a-(k:Nat)-sumK Qa2_ l k=a-((η l+(l.map Qa2_).sum:Nat):Int):=by
  have:=j.o;rw[QiN_ _ _ _ oo];omega
 have HT:=h_ ht;go_wp2;go_ret;exact⟨Kx_ HT.o,grow_⟩
def Qj6_ (l:List EntryD) (a:Int) (w:Ω) (h0:0<=a) (h1:a<=1048576) (hn:n<=maxLen) (hl:η l=n)
  (hr:Rd w 5 e n (l.flatMap QaD_)) (hs:∀d∈l,Qi4_ d) (v:a<(Qcg_ l:Nat)):
  Δ π 24 #[S_ e n c,I_ j_ a] w (RB_ (I_ j_ (-1)) w):=by
 unfold maxLen at hn;unfold Qcg_ at v;have HL:=h_ hl;have HS:=h_ hs;by_cases q:a<n
 ·go_in;exact Γ
 have g0:(0:Int)<=a-n:=oo;go_in;go_wp2;go_loopw [1,5] (fun s i wr=>∃k:Nat,k<=n/\i=I_ j_ k/\0<=a-n-sumK Qa2_ l k/\s=I_ j_ (a-n-sumK Qa2_ l k)/\Λ w wr) (fun s i _=>n-(intOf i).toNat)
 ·exact⟨0,lz_ _,rfl,by rw[QiI_];omega,by rw[QiI_];go_num,br⟩
 obtain⟨k,hk,rfl,hp,rfl,m⟩:=hrel;by_cases t:k<n
 ·obtain⟨⟨x0,x1,y,z,B⟩,hd⟩:∃d,l[k]? =σ d:=⟨_,gE (by have:=HL.o;omega)⟩;have j:=h_ (HS.o _ (lm_ hd));obtain⟨b,off,rfl,g,c0,c1,c2,c3,c4⟩:=QcF_ (hr.below m) t hd;have o:=h_ (QiH_ Qa2_ l k _ hd);have p:=h_ (show a-n-sumK Qa2_ l k<=1048576 from oo);by_cases h:(Qa2_ (x0,x1,y,z,B):Nat)<=a-n-sumK Qa2_ l k
  ·have C:(0:Int)<=a-n-sumK Qa2_ l k-(Qa2_ (x0,x1,y,z,B):Nat):=oo;have f:=h_ h;go_wp2_with fail;refine mb_ (QjJ_ _ _ _ _ _ _ _ p.o f.o) ?_;intro w2 q;have r:=m.trans<|q.mono m.size;go_wp2;go_roundw
   ·exact⟨k+1,oo,by go_num,by rw[o.o];omega,by rw[o.o];go_num,grow_⟩
   exact ms_
  have f:=h_ (show a-n-sumK Qa2_ l k<(Qa2_ (x0,x1,y,z,B):Nat)from oo);have x:=h_ hp;go_wp2_with fail;refine mb_ (Qkf_ _ _ _ _ _ _ _ x.o p.o j.o.1 j.o.2 f.o) ?_;intro w2 q;have r:=m.trans<|q.mono m.size;exact Γ
 have hf:False:=by
  have:=HL.o;rw[QiN_ _ _ _ oo]at hp;omega
 exact hf.elim
def QkJ_:(prog.info? 71).map (fun i=>(i.zero,i.size,i.bytes))=σ (σ (A_ #[T_ ⟨#[]⟩,I_ j_ 0,I_ j_ 0,T_ ⟨#[]⟩,I_ j_ 0]),5,56):=by kernel_rfl
def Qkq_ (l:List EntryD) (k:Nat) (d:EntryD) (h:l[k]? =σ d):(l.take (k+1)).flatMap QaD_=(l.take k).flatMap QaD_++QaD_ d:=by
 rw[List.take_add_one,h];simp
def Qh1_ (l:List EntryD) (k:Nat):List Υ:=(l.take k).flatMap QaD_
def Qj8_ (l:List EntryD) (w:Ω) (hn:n<=1048576) (hl:η l=n) (hr:Rd w 5 e n (l.flatMap QaD_)):
  Δ π 27 #[S_ e n c] w fun A w'=>A=R_ (S_ (σ ⟨w.heap.size,0,ν⟩) n n)/\Own w' w.heap.size 71 (n*5) (l.flatMap QaD_)/\Λ w w':=by
 obtain⟨i0,hi,m,o,p⟩:=info_parts QkJ_;have j:=fun W=>YK_ (P:=π) 34 71 i0 _ underlying34 hi m j_ j_ n n (lr_ _) (by rw[p];omega) oo W
 have r:=h_ hl;rw[o]at j;go_in;go_wp2;go_loopw [4] (fun i wr=>∃k:Nat,k<=n/\i=I_ j_ k/\Own wr w.heap.size 71 (n*5) (Qh1_ l k)/\Λ w wr) (fun i _=>n-(intOf i).toNat)
 ·exact⟨0,lz_ _,rfl,by unfold Qh1_;exact Own.made (size_madeCells _ _),grow_⟩
 obtain⟨k,hk,rfl,f,q⟩:=hrel;by_cases t:k<n
 ·obtain⟨⟨x0,x1,x2,x3,x4⟩,hd⟩:∃d,l[k]? =σ d:=⟨_,gE (by have:=r.o;omega)⟩;obtain⟨b,off,rfl,h,c0,c1,c2,c3,c4⟩:=QcF_ (hr.below q) t hd;have HD:=h_ hd;go_wp2_with fail;refine mb_ (Qkg_ _ _ _ _ _ _) ?_;intro w2 h2;have s:=q.trans<|h2.mono q.size;replace f:=f.next h2;have E:=s.size;have D:=f.lt;obtain⟨o0,e0⟩:=f.there (i:=k*5) oo;obtain⟨o1,e1⟩:=f.there (i:=k*5+1) oo;obtain⟨o2,e2⟩:=f.there (i:=k*5+2) oo;obtain⟨o3,e3⟩:=f.there (i:=k*5+3) oo;obtain⟨o4,e4⟩:=f.there (i:=k*5+4) oo;have C:=f.frozen;go_wp2;go_roundw
  ·
   have a:(Qh1_ l k).length=k*5:=by
    unfold Qh1_;rw[Xs_ QaD_ QaQ_,List.length_take,Nat.min_eq_left (by have:=r.o;omega)]
   have v:=f.push (by simp[a];omega) (i:=k*5) (by simp[a])<|T_ x0;have x:=v.push (by simp[a];omega) (i:=k*5+1) (by simp[a])<|I_ j_ x1;have y:=x.push (by simp[a];omega) (i:=k*5+2) (by simp[a])<|I_ j_ x2;have z:=y.push (by simp[a];omega) (i:=k*5+3) (by simp[a])<|T_ x3;have B:=z.push (by simp[a];omega) (i:=k*5+4) (by simp[a])<|I_ j_ x4;have g:Qh1_ l (k+1)=Qh1_ l k++QaD_ (x0,x1,x2,x3,x4):=Qkq_ l k _ HD.o;refine⟨k+1,oo,by go_num,?_,grow_⟩;rw[g];simpa[QaD_]using B
  exact ms_
 obtain rfl:k=n:=oo;have g:Qh1_ l k=l.flatMap QaD_:=(by unfold Qh1_;rw[List.take_of_length_le (by have:=r.o;omega)]);rw[g]at f;go_wp2;go_ret;exact⟨rfl,f,q⟩
def QjL_ (A B:OA) (n c c':Nat) (l:List EntryD) (w:Ω) (hn:n<=4194304) (hl:η l=n) (ha:Rd w 5 A n (l.flatMap QaD_)) (hb:Rd w 5 B n (l.flatMap QaD_)):
  Δ π 30 #[S_ A n c,S_ B n c'] w (RB_ (B_ τ) w):=by
 have HL:=h_ hl;go_in;go_wp2;go_loopw [5] (fun i wr=>∃k:Nat,k<=n/\i=I_ j_ k/\Λ w wr) (fun i _=>n-(intOf i).toNat)
 ·exact⟨0,lz_ _,rfl,br⟩
 obtain⟨k,hk,rfl,a⟩:=hrel;by_cases h:k<n
 ·obtain⟨⟨x0,x1,x2,x3,x4⟩,hd⟩:∃d,l[k]? =σ d:=⟨_,gE (by have:=HL.o;omega)⟩;obtain⟨b,off,rfl,g,c0,c1,c2,c3,c4⟩:=QcF_ (ha.below a) h hd;obtain⟨b',r,rfl,f,j,m,o,p,q⟩:=QcF_ (hb.below a) h hd;go_upto_region 6 with fail
  go_still_tail 8,nr_;change wpList _ _ _ _ _ wr.drew;go_wp2_with fail;refine mb_ (Qj0_ _ _ _ _ _ _) ?_;intro w2 h2;have s:Λ w w2:=a.drew.trans<|h2.mono a.size;go_wp2;exact⟨⟨k+1,oo,by go_num,grow_⟩,ms_⟩
 obtain rfl:k=n:=oo;go_wp2;go_ret;exact⟨rfl,a⟩
def Qh0_ (k:Int):List Υ:=[T_ (mkT (k)),I_ j_ (k+1),I_ j_ (k+1+1),T_ (mkT (k+1+1+1)),I_ j_ (k+1+1+1+1)]
def QbR_:(Qh0_ m).length=5:=rfl
def QjF_ (k:Int) (xs:List Υ) (w:Ω) (cap:Own w n 71 l xs) (h:η xs=c*5) (h0:1<=k) (h1:k+(5*c:Nat)<=1073741824):
  Δ π 31 #[S_ (σ ⟨n,0,ν⟩) c g,I_ j_ k] w fun e w'=>e=R_ (I_ j_ (k+(5*c:Nat)))/\Own w' n 71 l (QdH_ Qh0_ 5 k c)/\w.grownBy w' (σ n):=by
 have HX:=h_ h;have HK:=h_ h1;have hn:c<=1073741824:=oo;go_in;go_wp2;go_loopw [1,5] (fun s i wr=>∃(j:Nat) (q:Int) (ys:List Υ),j<=c/\Ψ (q=k+(5*j:Nat))/\i=I_ j_ j/\s=I_ j_ q/\Own wr n 71 l ys/\Qi2_ ys (QdH_ Qh0_ 5 k c) 5 j/\w.grownBy wr (σ n)) (fun _ i _=>c-(intOf i).toNat)
 ·exact⟨0,k,xs,lz_ _,(show k=k+((5*0:Nat):Int)by simp),rfl,rfl,cap,Qjx_ (by rw[QeV_ QbR_];exact HX.o),⟨rfl,rfl,rfl,lr_ _,fun _ _ _=>rfl⟩⟩
 obtain⟨j,q,ys,hj,p,rfl,rfl,a,f,o⟩:=hrel;by_cases C:j<c
 ·have E:1<=q:=(by have:=p.o;omega);have F:q+5<=1073741824:=(by have:=p.o;have:=HK.o;omega);have b:=h_ (show η ys=c*5 by rw[f.1,QeV_ QbR_]);have HM:=h_ f;have B:=a.lt;have A:=a.frozen;obtain⟨o0,r⟩:=a.there (i:=j*5) (by have:=a.fits;have:=b.o;omega);obtain⟨o1,t⟩:=a.there (i:=j*5+1) (by have:=a.fits;have:=b.o;omega);obtain⟨o2,v⟩:=a.there (i:=j*5+2) (by have:=a.fits;have:=b.o;omega);obtain⟨o3,x⟩:=a.there (i:=j*5+3) (by have:=a.fits;have:=b.o;omega);obtain⟨o4,z⟩:=a.there (i:=j*5+4) (by have:=a.fits;have:=b.o;omega);go_wp2_with fail;refine mb_ (Qe2_ _ _ oo oo) ?_;intro w2 m;have d:=grow_below o m;replace a:=Own.next a m;replace o:=d;have B:=a.lt;have A:=a.frozen;obtain⟨o0,r⟩:=a.there (i:=j*5) (by have:=a.fits;(try simp only[List.length_set]at this);have:=b.o;omega);obtain⟨o1,t⟩:=a.there (i:=j*5+1) (by have:=a.fits;(try simp only[List.length_set]at this);have:=b.o;omega);obtain⟨o2,v⟩:=a.there (i:=j*5+2) (by have:=a.fits;(try simp only[List.length_set]at this);have:=b.o;omega);obtain⟨o3,x⟩:=a.there (i:=j*5+3) (by have:=a.fits;(try simp only[List.length_set]at this);have:=b.o;omega);obtain⟨o4,z⟩:=a.there (i:=j*5+4) (by have:=a.fits;(try simp only[List.length_set]at this);have:=b.o;omega);go_wp2_with fail;refine mb_ (Qe2_ _ _ oo oo) ?_;intro w2 m;have d:=grow_below (grow_set (grow_set (grow_set o _ _) _ _) _ _) m;replace a:=Own.next (((a.set (i:=j*5) (by (try simp only[List.length_set]);have:=b.o;omega) _).set (i:=j*5+1) (by (try simp only[List.length_set]);have:=b.o;omega) _).set (i:=j*5+2) (by (try simp only[List.length_set]);have:=b.o;omega) _) m;replace o:=d;have B:=a.lt;have A:=a.frozen;obtain⟨o0,r⟩:=a.there (i:=j*5) (by have:=a.fits;(try simp only[List.length_set]at this);have:=b.o;omega);obtain⟨o1,t⟩:=a.there (i:=j*5+1) (by have:=a.fits;(try simp only[List.length_set]at this);have:=b.o;omega);obtain⟨o2,v⟩:=a.there (i:=j*5+2) (by have:=a.fits;(try simp only[List.length_set]at this);have:=b.o;omega);obtain⟨o3,x⟩:=a.there (i:=j*5+3) (by have:=a.fits;(try simp only[List.length_set]at this);have:=b.o;omega);obtain⟨o4,z⟩:=a.there (i:=j*5+4) (by have:=a.fits;(try simp only[List.length_set]at this);have:=b.o;omega);go_wp2;go_roundw
  ·
   refine⟨j+1,_,_,oo,?_,by go_num,rfl,((a.set (i:=j*5+3) (by (try simp only[List.length_set]);have:=b.o;omega) _).set (i:=j*5+4) (by (try simp only[List.length_set]);have:=b.o;omega) _),?_,(grow_set (grow_set o _ _) _ _)⟩
   ·show _=_;have:=p.o;omega
   have D:=Qjv_ (row:=Qh0_ q) (size:=5) (j:=j) HM.o rfl (by rw[QeV_ QbR_];omega) (fun y hy=>by rw[Qjy_ QbR_ k c j C y hy,p.o]);exact D
  exact ms_
 obtain rfl:j=c:=oo;obtain rfl:=QjH_ f (QeV_ QbR_ k j);go_wp2;go_ret;exact⟨Kx_ p.o,a,o⟩
def QjE_ (hr:Rd w 5 e n (QdH_ Qh0_ 5 q n)) (h0:1<=q) (h1:q+(5*n:Nat)<=1073741824):
  Δ π 33 #[S_ e n c,I_ j_ q] w fun A w'=>A=R_ (I_ j_ (q+(5*n:Nat)))/\Λ w w':=by
 have HK:=h_ h1;have hn:n<=1073741824:=oo;go_in;go_wp2;go_loopw [1,5] (fun s i wr=>∃(j:Nat) (k:Int),j<=n/\Ψ (k=q+(5*j:Nat))/\i=I_ j_ j/\s=I_ j_ k/\Λ w wr) (fun _ i _=>n-(intOf i).toNat)
 ·exact⟨0,q,lz_ _,(show q=q+((5*0:Nat):Int)by simp),rfl,rfl,br⟩
 obtain⟨j,k,hj,h,rfl,rfl,l⟩:=hrel;by_cases g:j<n
 ·have t:1<=k:=(by have:=h.o;omega);have v:k+5<=1073741824:=(by have:=h.o;have:=HK.o;omega);obtain⟨b,off,rfl,a,d⟩:=(hr.below l).at_ oo;have c0:wr.cell? ⟨b,off+j*5,ν⟩=σ (T_ (mkT (k))):=d _ _ (Qhz_ QbR_ g h.o (y:=0) rfl);have c1:wr.cell? ⟨b,off+j*5+1,ν⟩=σ (I_ j_ (k+1)):=d _ _ (Qhz_ QbR_ g h.o (y:=1) rfl);have c2:wr.cell? ⟨b,off+j*5+2,ν⟩=σ (I_ j_ (k+1+1)):=d _ _ (Qhz_ QbR_ g h.o (y:=2) rfl);have c3:wr.cell? ⟨b,off+j*5+3,ν⟩=σ (T_ (mkT (k+1+1+1))):=d _ _ (Qhz_ QbR_ g h.o (y:=3) rfl);have m:wr.cell? ⟨b,off+j*5+4,ν⟩=σ (I_ j_ (k+1+1+1+1)):=d _ _ (Qhz_ QbR_ g h.o (y:=4) rfl);go_upto_region 4 with fail
  go_cut [19] (fun s r=>s=B_ φ/\Λ wr r)
  ·
   go_region_with (go_at_call 32;refine mb_ (Qe2_ _ _ oo oo) ?_;intro w2 f;have o:=((QW_ f).1 _ _ a).trans c0;have h3:Λ wr w2:=(Below.refl _ wr).drew.trans f)
   all_goals (go_wp2_with fail;go_meet;exact⟨rfl,grow_⟩)
  case rest=>
  obtain⟨rfl,f⟩:=hcut;replace l:=l.trans (f.mono l.size);replace c0:=((QW_ f).1 _ _ a).trans c0;replace c1:=((QW_ f).1 _ _ a).trans c1;replace c2:=((QW_ f).1 _ _ a).trans c2;replace c3:=((QW_ f).1 _ _ a).trans c3;replace m:=((QW_ f).1 _ _ a).trans m;replace a:=ll_ a f.size;obtain⟨wr,rfl⟩:∃p:Ω,p=wc:=⟨_,rfl⟩;go_upto_region 13 with fail
  go_cut [47] (fun s r=>s=B_ φ/\Λ wr r)
  ·
   go_region_with (go_at_call 32;refine mb_ (Qe2_ _ _ oo oo) ?_;intro w2 f;have o:=((QW_ f).1 _ _ a).trans c3;have h3:Λ wr w2:=(Below.refl _ wr).drew.trans f)
   all_goals (go_wp2_with fail;go_meet;exact⟨rfl,grow_⟩)
  case rest=>
  obtain⟨rfl,f⟩:=hcut;replace l:=l.trans (f.mono l.size);replace c0:=((QW_ f).1 _ _ a).trans c0;replace c1:=((QW_ f).1 _ _ a).trans c1;replace c2:=((QW_ f).1 _ _ a).trans c2;replace c3:=((QW_ f).1 _ _ a).trans c3;replace m:=((QW_ f).1 _ _ a).trans m;replace a:=ll_ a f.size;obtain⟨wr,rfl⟩:∃p:Ω,p=wc:=⟨_,rfl⟩;go_wp2;go_roundw
  ·
   refine⟨j+1,_,oo,?_,by go_num,rfl,l⟩;show _=_;have:=h.o;omega
  exact ms_
 obtain rfl:j=n:=oo;go_wp2;go_ret;exact⟨Kx_ h.o,l⟩
def QhX_ (k:Int):List Υ:=[T_ (mkT (k))]
def QeR_:(QhX_ m).length=1:=rfl
def QiS_ (k:Int) (xs:List Υ) (w:Ω) (f:Own w n 9 l xs) (d:η xs=c*1) (h0:1<=k) (h1:k+(1*c:Nat)<=1073741824):
  Δ π 17 #[S_ (σ ⟨n,0,ν⟩) c g,I_ j_ k] w fun e w'=>e=R_ (I_ j_ (k+(1*c:Nat)))/\Own w' n 9 l (QdH_ QhX_ 1 k c)/\w.grownBy w' (σ n):=by
 have HX:=h_ d;have HK:=h_ h1;have hn:c<=1073741824:=oo;go_in;go_wp2;go_loopw [1,5] (fun s i wr=>∃(j:Nat) (q:Int) (ys:List Υ),j<=c/\Ψ (q=k+(1*j:Nat))/\i=I_ j_ j/\s=I_ j_ q/\Own wr n 9 l ys/\Qi2_ ys (QdH_ QhX_ 1 k c) 1 j/\w.grownBy wr (σ n)) (fun _ i _=>c-(intOf i).toNat)
 ·exact⟨0,k,xs,lz_ _,(show k=k+((1*0:Nat):Int)by simp),rfl,rfl,f,Qjx_ (by rw[QeV_ QeR_];exact HX.o),⟨rfl,rfl,rfl,lr_ _,fun _ _ _=>rfl⟩⟩
 obtain⟨j,q,ys,hj,cap,rfl,rfl,a,b,p⟩:=hrel;by_cases t:j<c
 ·have v:1<=q:=(by have:=cap.o;omega);have x:q+1<=1073741824:=(by have:=cap.o;have:=HK.o;omega);have h:=h_ (show η ys=c*1 by rw[b.1,QeV_ QeR_]);have HM:=h_ b;have hz:=a.lt;have fz:=a.frozen;obtain⟨o0,e0⟩:=a.there (i:=j) (by have:=a.fits;have:=h.o;omega);go_wp2_with fail;refine mb_ (Qe2_ _ _ oo oo) ?_;intro w2 r;have m:=grow_below p r;replace a:=Own.next a r;replace p:=m;have hz:=a.lt;have fz:=a.frozen;obtain⟨o0,e0⟩:=a.there (i:=j) (by have:=a.fits;(try simp only[List.length_set]at this);have:=h.o;omega);go_wp2;go_roundw
  ·
   refine⟨j+1,_,_,oo,?_,by go_num,rfl,(a.set (i:=j) (by (try simp only[List.length_set]);have:=h.o;omega) _),?_,(grow_set p _ _)⟩
   ·show _=_;have:=cap.o;omega
   have o:=Qjv_ (row:=QhX_ q) (size:=1) (j:=j) HM.o rfl (by rw[QeV_ QeR_];omega) (fun y hy=>by rw[Qjy_ QeR_ k c j t y hy,cap.o]);rw[Nat.mul_one]at o;exact o
  exact ms_
 obtain rfl:j=c:=oo;obtain rfl:=QjH_ b (QeV_ QeR_ k j);go_wp2;go_ret;exact⟨Kx_ cap.o,a,p⟩
def Qjt_:
  Δ π 17 #[S_ e 0 n,I_ j_ q] w (RS_ (I_ j_ q) w):=by
 go_in;go_wp2;refine wp_loop_rounds 1 ?_;rw[rounds_succ];exact Θ
def Qjp_ (hr:Rd w 1 e n (QdH_ QhX_ 1 q n)) (h0:1<=q) (h1:q+(1*n:Nat)<=1073741824):
  Δ π 19 #[S_ e n c,I_ j_ q] w fun A w'=>A=R_ (I_ j_ (q+(1*n:Nat)))/\Λ w w':=by
 have HK:=h_ h1;have hn:n<=1073741824:=oo;go_in;go_wp2;go_loopw [1,5] (fun s i wr=>∃(j:Nat) (k:Int),j<=n/\Ψ (k=q+(1*j:Nat))/\i=I_ j_ j/\s=I_ j_ k/\Λ w wr) (fun _ i _=>n-(intOf i).toNat)
 ·exact⟨0,q,lz_ _,(show q=q+((1*0:Nat):Int)by simp),rfl,rfl,br⟩
 obtain⟨j,k,hj,h,rfl,rfl,g⟩:=hrel;by_cases l:j<n
 ·have p:1<=k:=(by have:=h.o;omega);have r:k+1<=1073741824:=(by have:=h.o;have:=HK.o;omega);obtain⟨b,off,rfl,a,d⟩:=(hr.below g).at_ oo;have c0:wr.cell? ⟨b,off+j,ν⟩=σ (T_ (mkT (k))):=d _ _ (by have m:=Qhz_ QeR_ l h.o (y:=0) rfl;simpa using m);go_upto_region 4 with fail
  go_cut [18] (fun s wx=>s=B_ φ/\Λ wr wx)
  ·
   go_region_with (go_at_call 32;refine mb_ (Qe2_ _ _ oo oo) ?_;intro w2 f;have o:=((QW_ f).1 _ _ a).trans c0;have h3:Λ wr w2:=(Below.refl _ wr).drew.trans f)
   all_goals (go_wp2_with fail;go_meet;exact⟨rfl,grow_⟩)
  case rest=>
  obtain⟨rfl,f⟩:=hcut;replace g:=g.trans (f.mono g.size);replace c0:=((QW_ f).1 _ _ a).trans c0;replace a:=ll_ a f.size;obtain⟨wr,rfl⟩:∃wo:Ω,wo=wc:=⟨_,rfl⟩;go_wp2;go_roundw
  ·
   refine⟨j+1,_,oo,?_,by go_num,rfl,g⟩;show _=_;have:=h.o;omega
  exact ms_
 obtain rfl:j=n:=oo;go_wp2;go_ret;exact⟨Kx_ h.o,g⟩
def QfV_ (A B:OA) (n c c':Nat) (l:List BA) (w:Ω) (hn:n<=4194304) (hl:Ψ (η l=n)) (ha:Rd w 1 A n (Qm_ l)) (hb:Rd w 1 B n (Qm_ l)):
  Δ π 15 #[S_ A n c,S_ B n c'] w (RB_ (B_ τ) w):=by
 have HA:=h_ ha;have HB:=h_ hb;go_in;go_wp2;go_loopw [5] (fun i wr=>∃k:Nat,k<=n/\i=I_ j_ k/\Λ w wr) (fun i _=>n-(intOf i).toNat)
 ·exact⟨0,lz_ _,rfl,br⟩
 obtain⟨k,hk,rfl,a⟩:=hrel;by_cases f:k<n
 ·obtain⟨x,hd⟩:∃d,l[k]? =σ d:=⟨_,gE (by have:=hl.o;omega)⟩;obtain⟨b,off,rfl,h,c0⟩:=Ud_ (HA.o.below a) f hd;obtain⟨b',j,rfl,g,c1⟩:=Ud_ (HB.o.below a) f hd;go_wp2;go_quiet (fail);go_wp2;exact⟨⟨k+1,oo,by go_num,grow_⟩,ms_⟩
 obtain rfl:k=n:=oo;go_wp2;go_ret;exact⟨rfl,a⟩
def Qk7_ (w:Ω) (B:Nat) (t:TypeId) (s:Nat) (A:OA) (n c:Nat) (row:Int->List Υ) (k:Int) (e:Ending) (w':Ω):Prop:=
 e=R_ (I_ j_ (k+(s*n:Nat)))/\Mine w' B t s A n c (QdH_ row s k n)/\w.grownBy w' (A.map (·.block))
def Qjm_ (k:Int) (xs:List Υ) (w:Ω) (hm:Mine w g 9 1 e n c xs) (h0:1<=k) (h1:k+(1*n:Nat)<=1073741824):
  Δ π 17 #[S_ e n c,I_ j_ k] w (Qk7_ w g 9 1 e n c QhX_ k):=by
 have hl:=hm.len;rcases hm.own with⟨rfl,rfl,rfl⟩|⟨A,rfl,hB,hn,hc,ho⟩
 ·refine mb_ (Qjt_ ν 0 k w) ?_;rintro w' rfl;exact⟨by simp,by simpa[QdH_]using Mine.mk_nil _ _ _ _,World.grownBy.refl _ _⟩
 refine mb_ (QiS_ A n c (c*1) k xs w ho hl h0 h1) ?_;rintro w' ⟨a,hg⟩;exact⟨rfl,Mine.mk_own a (by rw[QeV_ QeR_]) hB hn hc,hg⟩
def Qi1_ (l:List BA):Nat:=η l+(l.map ByteArray.size).sum
def Qj7_ (l:List BA) (a:Int) (w:Ω) (h1:a<=1048576) (hl:η l=n)
  (hr:Rd w 1 e n (Qm_ l)) (j:(Qi1_ l:Nat)<=a):
  Δ π 9 #[S_ e n c,I_ j_ a] w fun A w'=>A=R_ (I_ j_ (a-(Qi1_ l:Nat)))/\Λ w w':=by
 unfold Qi1_ at j |-
 have g0:(0:Int)<=a-n:=oo;have gn:n<=1048576:=oo;have g:=h_ hl;go_in;go_wp2;go_loopw [1,5] (fun s i wr=>∃k:Nat,k<=n/\i=I_ j_ k/\s=I_ j_ (a-n-sumK ByteArray.size l k)/\Λ w wr) (fun s i _=>n-(intOf i).toNat)
 ·exact⟨0,lz_ _,rfl,by rw[QiI_];go_num,br⟩
 obtain⟨k,hk,rfl,rfl,hb⟩:=hrel;by_cases h:k<n
 ·obtain⟨x,hd⟩:∃d,l[k]? =σ d:=⟨_,gE (by have:=g.o;omega)⟩;obtain⟨b,off,rfl,m,c0⟩:=Ud_ (hr.below hb) h hd;have f:=h_ (QiH_ ByteArray.size l k _ hd);have o:(x.size:Int)<=a-n-sumK ByteArray.size l k:=(by have:=QiY_ ByteArray.size l (k+1);have:=f.o;have:=g.o;omega);have p:a-n-sumK ByteArray.size l k<=1048576:=oo;have q:(0:Int)<=a-n-sumK ByteArray.size l k-(x.size:Nat):=oo;go_wp2;go_roundw
  ·exact⟨k+1,oo,by go_num,by rw[f.o];go_num,grow_⟩
  exact ms_
 obtain rfl:k=n:=oo;have ht:a-(k:Nat)-sumK ByteArray.size l k=a-((η l+(l.map ByteArray.size).sum:Nat):Int):=by
  have:=g.o;rw[QiN_ _ _ _ oo];omega
 have HT:=h_ ht;go_wp2;go_ret;exact⟨Kx_ HT.o,grow_⟩
def QjU_ (l:List BA) (a:Int) (w:Ω) (h0:0<=a) (h1:a<=1048576) (hn:n<=maxLen) (hl:η l=n)
  (hr:Rd w 1 e n (Qm_ l)) (hs:∀d∈l,d.size<=maxLen) (h:a<(Qi1_ l:Nat)):
  Δ π 9 #[S_ e n c,I_ j_ a] w (RB_ (I_ j_ (-1)) w):=by
 unfold maxLen at hn hs;unfold Qi1_ at h;have HL:=h_ hl;have HS:=h_ hs;by_cases h2:a<n
 ·go_in;exact Γ
 have g0:(0:Int)<=a-n:=oo;go_in;go_wp2;go_loopw [1,5] (fun s i wr=>∃k:Nat,k<=n/\i=I_ j_ k/\0<=a-n-sumK ByteArray.size l k/\s=I_ j_ (a-n-sumK ByteArray.size l k)/\Λ w wr) (fun s i _=>n-(intOf i).toNat)
 ·exact⟨0,lz_ _,rfl,by rw[QiI_];omega,by rw[QiI_];go_num,br⟩
 obtain⟨k,hk,rfl,hp,rfl,hb⟩:=hrel;by_cases g:k<n
 ·obtain⟨x,hd⟩:∃d,l[k]? =σ d:=⟨_,gE (by have:=HL.o;omega)⟩;have q:=HS.o _ (lm_ hd);obtain⟨b,off,rfl,m,c0⟩:=Ud_ (hr.below hb) g hd;have f:=h_ (QiH_ ByteArray.size l k _ hd);have p:a-n-sumK ByteArray.size l k<=1048576:=oo;by_cases o:(x.size:Nat)<=a-n-sumK ByteArray.size l k
  ·have j:(0:Int)<=a-n-sumK ByteArray.size l k-(x.size:Nat):=oo;go_wp2;go_roundw
   ·exact⟨k+1,oo,by go_num,by rw[f.o];omega,by rw[f.o];go_num,grow_⟩
   exact ms_
  have j:a-n-sumK ByteArray.size l k-(x.size:Nat)<0:=oo;exact Γ
 exfalso;obtain rfl:k=n:=oo;have:=HL.o;rw[QiN_ _ _ _ oo]at hp;omega
def Qgd_ (l:List BA) (w:Ω) (hn:n<=1048576) (hl:η l=n) (hr:Rd w 1 e n (Qm_ l)):
  Δ π 12 #[S_ e n c] w fun A w'=>A=R_ (S_ (σ ⟨w.heap.size,0,ν⟩) n n)/\Own w' w.heap.size 9 (n*1) (Qm_ l)/\Λ w w':=by
 obtain⟨i0,hi,m,o,p⟩:=info_parts qy_;have j:=fun W=>YK_ (P:=π) 31 9 i0 _ underlying31 hi m j_ j_ n n (lr_ _) (by rw[p];omega) oo W
 have q:=h_ hl;rw[o]at j;go_in;go_wp2;go_loopw [4] (fun i wr=>∃k:Nat,k<=n/\i=I_ j_ k/\Own wr w.heap.size 9 (n*1) (Qm_ (l.take k))/\Λ w wr) (fun i _=>n-(intOf i).toNat)
 ·exact⟨0,lz_ _,rfl,Own.made ((size_madeCells _ _).trans (Nat.mul_one n).symm),grow_⟩
 obtain⟨k,hk,rfl,a,hb⟩:=hrel;by_cases r:k<n
 ·obtain⟨x,hd⟩:∃d,l[k]? =σ d:=⟨_,gE (by have:=q.o;omega)⟩;obtain⟨b,off,rfl,t,c0⟩:=Ud_ (hr.below hb) r hd;have HD:=h_ hd;have z:=hb.size;have y:=a.lt;obtain⟨o0,e0⟩:=a.there (i:=k) oo;have v:=a.frozen;have f:(Qm_ (l.take k)).length=k:=(by rw[xJ_,List.length_take,Nat.min_eq_left (by have:=q.o;omega)]);have g:=h_ f;go_wp2;go_roundw
  ·
   have s:=a.push (by rw[g.o];omega) (i:=k) g.o.symm<|T_ x;have h:Qm_ (l.take (k+1))=Qm_ (l.take k)++[T_ x]:=(by rw[List.take_add_one,HD.o];simp[Qm_]);refine⟨k+1,oo,by go_num,?_,grow_⟩;rw[h];exact s
  exact ms_
 obtain rfl:k=n:=oo;have he:l.take k=l:=List.take_of_length_le (by have:=q.o;omega);rw[he]at a;go_wp2;go_ret;exact⟨rfl,a,grow_⟩
def Qgf_ (B:OA) (n c c':Nat) (l:List EntryD) (w:Ω) (hn:n<=4194304) (hl:Ψ (η l=n)) (ha:Rd w 5 e n (l.flatMap QaD_)) (hb:Rd w 5 B n (l.flatMap QaD_)):
  Δ π 14 #[A_ #[I_ j_ m,S_ e n c,I_ j_ h,I_ j_ k],A_ #[I_ j_ m,S_ B n c',I_ j_ h,I_ j_ k]] w (RB_ (B_ τ) w):=by
 have a:=Below.refl w.heap.size w;go_in;go_wp2_with fail;refine mb_ (QjL_ e B n c c' l _ hn hl.o ((ha.alloc _).alloc _) ((hb.alloc _).alloc _)) ?_;intro w2 b;have K1:=Blk.fresh2 b;have K2:=Blk.fresh b;simp only[ws_]at K2;replace a:=Jf_ a b;have d:=K1.cell;have f:=K2.cell;go_wp2;go_ret;exact⟨rfl,a⟩
def Qjb_ (c cap:Nat) (xs:List Υ) (w:Ω) (b:Own w g 71 cap xs) (a:Ψ (η xs=l*5)) (h0:1<=q) (h1:q+(5*l:Nat)<=1073741824):
  Δ π 16 #[A_ #[I_ j_ m,S_ (σ ⟨g,0,ν⟩) l c,I_ j_ h,I_ j_ k],I_ j_ q] w fun e w'=>e=R_ (I_ j_ (q+(5*l:Nat)))/\Own w' g 71 cap (QdH_ Qh0_ 5 q l)/\w.grownBy w' (σ g):=by
 have H1:=h_ h1;go_in;go_wp2_with fail;refine mb_ (QjF_ g l c cap q xs _ (b.alloc _) a.o h0 H1.o) ?_;rintro w2 ⟨ho,hg⟩;go_wp2;go_ret;exact⟨rfl,ho,Z6_ (World.grownBy_alloc w _ _) hg⟩
def QjN_ (A:OA) (n c:Nat) (w:Ω) (hr:Rd w 5 A n (QdH_ Qh0_ 5 q n)) (h0:1<=q) (h1:q+(5*n:Nat)<=1073741824):
  Δ π 18 #[A_ #[I_ j_ m,S_ A n c,I_ j_ h,I_ j_ k],I_ j_ q] w fun e w'=>e=R_ (I_ j_ (q+(5*n:Nat)))/\Λ w w':=by
 have a:=Below.refl w.heap.size w;have H1:=h_ h1;have hp:¬q+(5*n:Nat)<0:=oo;go_in;go_wp2_with fail;refine mb_ (QjE_ A n c q _ (hr.alloc _) h0 H1.o) ?_;intro w2 h2;replace a:=Q7_ a h2;go_wp2;go_ret;exact⟨rfl,a⟩
def Qa9_ {α:Type} (p:α->Bool):List α->Int->Int
 |[],_=> -1
 |x::l,i=>if p x then i else Qa9_ p l (i+1)
def Qf8_ {α:Type} (p:α->Bool) (l:List α) (k:Nat):Prop:=Qa9_ p l 0=Qa9_ p (l.drop k) k
def QiM_ {α:Type} (p:α->Bool) (l:List α):Qf8_ p l 0:=by simp[Qf8_]
def Qki_ {α:Type} {l:List α} {k:Nat} {d:α} (h:l[k]? =σ d):l.drop k=d::l.drop (k+1):=by
 have hk:k<η l:=(gs_.1 h).1;rw[List.drop_eq_getElem_cons hk];congr 1;exact oi_<|(List.getElem?_eq_getElem hk).symm.trans h
def QiL_ {α:Type} {p:α->Bool} {l:List α} {k:Nat} {d:α} (h:Qf8_ p l k) (hd:l[k]? =σ d) (hp:p d=φ):Qf8_ p l (k+1):=by
 unfold Qf8_ at h |-
 rw[h,Qki_ hd,Qa9_,in_ (by simp[hp])];congr 1
def Qh2_ {α:Type} {p:α->Bool} {l:List α} {k:Nat} {d:α} (h:Qf8_ p l k) (hd:l[k]? =σ d) (hp:p d=τ):Qa9_ p l 0=k:=by
 unfold Qf8_ at h;rw[h,Qki_ hd,Qa9_,ip_ hp]
def Qh3_ {α:Type} {p:α->Bool} {l:List α} {k:Nat} (h:Qf8_ p l k) (hk:η l<=k):Qa9_ p l 0= -1:=by
 unfold Qf8_ at h;rw[h,List.drop_eq_nil_of_le hk,Qa9_]
def QaR_ (t:BA) (a b:Int) (e:EntryD):Bool:=decide (e.1=t/\e.2.1=a/\e.2.2.1=b)
def Qi6_ (d:BA) (a x0 x1 c f:Int) (w:Ω):
  Δ π 61 #[A_ #[T_ b,I_ j_ x1,I_ j_ c,T_ d,I_ j_ f],T_ t,I_ j_ a,I_ j_ x0] w fun e w'=>e=R_ (B_ (QaR_ t a x0 (b,x1,c,d,f)))/\Λ w w':=by
 by_cases g:b=t
 ·subst g;by_cases h1:x1=a
  ·subst h1;by_cases h:c=x0
   ·subst h;rw[show QaR_ b x1 c (b,x1,c,d,f)=τ by simp[QaR_]];go_in;exact Γ
   rw[show QaR_ b x1 x0 (b,x1,c,d,f)=φ by simp[QaR_,h]];have k:(c==x0)=φ:=(by rw[bn_];exact h);go_in;exact Γ
  rw[show QaR_ b a x0 (b,x1,c,d,f)=φ by simp[QaR_,h1]];have j:(x1==a)=φ:=(by rw[bn_];exact h1);go_in;exact Γ
 rw[show QaR_ t a x0 (b,x1,c,d,f)=φ by simp[QaR_,g]];have i:=QiF_ g;go_in;exact Γ
def Qlo_ (m h k:Int) (n:Nat) (xs:List Υ) (w:Ω) (e:Ending) (w':Ω):Prop:=
 ∃g:Nat,e=R_ (A_ #[I_ j_ m,S_ (σ ⟨g,0,ν⟩) n n,I_ j_ h,I_ j_ k])/\Own w' g 71 (n*5) xs/\w.heap.size<=g/\Λ w w'
def QhY_ (l:List EntryD) (w:Ω) (hn:n<=1048576) (hl:Ψ (η l=n)) (hr:Rd w 5 e n (l.flatMap QaD_)):
  Δ π 11 #[A_ #[I_ j_ m,S_ e n c,I_ j_ h,I_ j_ k]] w (Qlo_ m h k n (l.flatMap QaD_) w):=by
 have f:=Below.refl w.heap.size w;go_in;go_wp2_with fail;refine mb_ (Qj8_ e n c l _ hn hl.o (((hr.alloc _).alloc _).alloc _)) ?_;rintro w2 ⟨ho,d⟩;have g:=Blk.fresh3 d;have a:=Blk.fresh2 d;have b:=Blk.fresh d;replace f:=QgL_ f d;simp only[ws_]at a b ho;have z1:=g.lt;have z2:=a.lt;have z3:=b.lt;have f2:=a.frozen;have f3:=b.frozen;have a1:=g.cell;have d0:w2.cell? ⟨w.heap.size+1,0,ν⟩=σ (I_ j_ 0):=a.cell 0;have d1:w2.cell? ⟨w.heap.size+1,1,ν⟩=σ (S_ ν 0 0):=a.cell 1;have d2:w2.cell? ⟨w.heap.size+1,2,ν⟩=σ (I_ j_ 0):=a.cell 2;have d3:w2.cell? ⟨w.heap.size+1,3,ν⟩=σ (I_ j_ 0):=a.cell 3;have e0:w2.cell? ⟨w.heap.size+1+1,0,ν⟩=σ (I_ j_ m):=b.cell 0;have e1:w2.cell? ⟨w.heap.size+1+1,1,ν⟩=σ (S_ ν 0 0):=b.cell 1;have e2:w2.cell? ⟨w.heap.size+1+1,2,ν⟩=σ (I_ j_ 0):=b.cell 2;have e3:w2.cell? ⟨w.heap.size+1+1,3,ν⟩=σ (I_ j_ 0):=b.cell 3;go_wp2;refine bodyPost_ret (by simp[results,Tryz.results11,go_sem,d0,d1,d2,d3];try rfl) rfl ?_;refine⟨_,rfl,?_,?_,grow_⟩
 ·repeat (first|(with_reducible exact ho)|(with_reducible refine Own.far ?_ (by simp<;>omega) _))
 omega
def Qi0_ (l:List EntryD) (t:BA) (a b:Int) (w:Ω) (hn:n<=4194304) (hl:Ψ (η l=n)) (o:Rd w 5 e n (l.flatMap QaD_)):
  Δ π 42 #[A_ #[I_ j_ m,S_ e n c,I_ j_ h,I_ j_ k],T_ t,I_ j_ a,I_ j_ b] w fun A w'=>A=R_ (I_ j_ (Qa9_ (QaR_ t a b) l 0))/\Λ w w':=by
 have r:=Blk.new w 36 #[I_ j_ m,S_ e n c,I_ j_ h,I_ j_ k];have x:=o.alloc<|C_ #[I_ j_ m,S_ e n c,I_ j_ h,I_ j_ k] 36;go_in;go_wp2;go_loopw [9] (fun i wr=>∃q:Nat,q<=n/\Qf8_ (QaR_ t a b) l q/\i=I_ j_ q/\Blk wr w.heap.size 36 #[I_ j_ m,S_ e n c,I_ j_ h,I_ j_ k]/\Rd wr 5 e n (l.flatMap QaD_)/\Λ w wr) (fun i _=>n-(intOf i).toNat)
 ·exact⟨0,lz_ _,QiM_ _ _,rfl,r,x,grow_⟩
 obtain⟨q,hk,j,rfl,r,o,s⟩:=hrel;have cK:=r.cell;by_cases E:q<n
 ·obtain⟨⟨x0,x1,y,z,B⟩,hd⟩:∃d,l[q]? =σ d:=⟨_,gE (by have:=hl.o;omega)⟩;obtain⟨b',off,rfl,v,c0,c1,c2,c3,c4⟩:=QcF_ o E hd;have HR:=h_ o
  cases hs:QaR_ t a b (x0,x1,y,z,B)with
  |true=>
   have f:=h_ (Qh2_ j hd hs);have C:=h_ (fun w:Ω=>show Δ π 61 #[A_ #[T_ x0,I_ j_ x1,I_ j_ y,T_ z,I_ j_ B],T_ t,I_ j_ a,I_ j_ b] w fun A w'=>A=R_ (B_ τ)/\Λ w w' by
    have h:=Qi6_ t x0 z a b x1 y B w;rwa[hs]at h)
   go_wp2_with fail;refine mb_ (C.o _) ?_;intro w2 p;have g:=s.trans<|p.mono s.size;go_wp2;go_ret;exact⟨Kx_ f.o.symm,g⟩
  |false=>
   have f:=QiL_ j hd hs;have C:=h_ (fun w:Ω=>show Δ π 61 #[A_ #[T_ x0,I_ j_ x1,I_ j_ y,T_ z,I_ j_ B],T_ t,I_ j_ a,I_ j_ b] w fun A w'=>A=R_ (B_ φ)/\Λ w w' by
    have h:=Qi6_ t x0 z a b x1 y B w;rwa[hs]at h)
   go_wp2_with fail;refine mb_ (C.o _) ?_;intro w2 p;have g:=s.trans<|p.mono s.size;have D:=r.next p;have F:=HR.o.next p;go_wp2;exact⟨⟨q+1,oo,f,by go_num,D,F,g⟩,ms_⟩
 have f:=h_<|Qh3_ j (by have:=hl.o;omega);go_wp2;go_ret;exact⟨Kx_ f.o.symm,s⟩
def QjX_ (d:BA) (a x0 x1 c f:Int) (g1 g2 g3:Nat) (w:Ω) (h1:w.cell? ⟨g1,0,ν⟩=σ (T_ t)) (h2:w.cell? ⟨g2,0,ν⟩=σ (I_ j_ a)) (h3:w.cell? ⟨g3,0,ν⟩=σ (I_ j_ x0)):
  Δ π 64 #[A_ #[T_ b,I_ j_ x1,I_ j_ c,T_ d,I_ j_ f],P_ (σ ⟨g1,0,ν⟩),P_ (σ ⟨g2,0,ν⟩),P_ (σ ⟨g3,0,ν⟩)] w fun e w'=>e=R_ (B_ (QaR_ t a x0 (b,x1,c,d,f)))/\Λ w w':=by
 have z1:=qc_ h1;have z2:=qc_ h2;have z3:=qc_ h3;by_cases i:b=t
 ·subst i;by_cases g:x1=a
  ·subst g;by_cases h:c=x0
   ·subst h;rw[show QaR_ b x1 c (b,x1,c,d,f)=τ by simp[QaR_]];go_in;exact Γ
   rw[show QaR_ b x1 x0 (b,x1,c,d,f)=φ by simp[QaR_,h]];have k:(c==x0)=φ:=(by rw[bn_];exact h);go_in;exact Γ
  rw[show QaR_ b a x0 (b,x1,c,d,f)=φ by simp[QaR_,g]];have j:(x1==a)=φ:=(by rw[bn_];exact g);go_in;exact Γ
 rw[show QaR_ t a x0 (b,x1,c,d,f)=φ by simp[QaR_,i]];have l:=QiF_ i;go_in;exact Γ
def Qjs_ (l:List EntryD) (t:BA) (a b:Int) (q r v:Nat) (w:Ω) (hn:n<=4194304) (hl:Ψ (η l=n)) (hr:Rd w 5 e n (l.flatMap QaD_))
  (h1:w.cell? ⟨q,0,ν⟩=σ (T_ t)) (o:w.cell? ⟨r,0,ν⟩=σ (I_ j_ a)) (h3:w.cell? ⟨v,0,ν⟩=σ (I_ j_ b)):
  Δ π 63 #[S_ e n c,.func (Fn.func 64) #[] #[P_ (σ ⟨q,0,ν⟩),P_ (σ ⟨r,0,ν⟩),P_ (σ ⟨v,0,ν⟩)]] w
   fun A w'=>A=R_ (I_ j_ (Qa9_ (QaR_ t a b) l 0))/\Λ w w':=by
 have HR:=h_ hr;have H1:=h_ h1;have H2:=h_ o;have H3:=h_ h3;go_in;go_wp2;go_loopw [8] (fun i wr=>∃k:Nat,k<=n/\Qf8_ (QaR_ t a b) l k/\i=I_ j_ k/\Λ w wr) (fun i _=>n-(intOf i).toNat)
 ·exact⟨0,lz_ _,QiM_ _ _,rfl,grow_⟩
 obtain⟨k,hk,m,rfl,g⟩:=hrel;by_cases C:k<n
 ·obtain⟨⟨x0,x1,x,y,z⟩,hd⟩:∃d,l[k]? =σ d:=⟨_,gE (by have:=hl.o;omega)⟩;obtain⟨b',off,rfl,p,c0,c1,c2,c3,c4⟩:=QcF_ (HR.o.below g) C hd;have HC:=h_ (fun s (hs:QaR_ t a b (x0,x1,x,y,z)=s)=>show Δ π 64 #[A_ #[T_ x0,I_ j_ x1,I_ j_ x,T_ y,I_ j_ z],P_ (σ ⟨q,0,ν⟩),P_ (σ ⟨r,0,ν⟩),P_ (σ ⟨v,0,ν⟩)] wr fun A w'=>A=R_ (B_ s)/\Λ wr w' by
   have h:=QjX_ t x0 y a b x1 x z q r v wr (((QW_ g).1 _ _ (qc_ H1.o)).trans H1.o) (((QW_ g).1 _ _ (qc_ H2.o)).trans H2.o) (((QW_ g).1 _ _ (qc_ H3.o)).trans H3.o);rwa[hs]at h)
  cases hs:QaR_ t a b (x0,x1,x,y,z)with
  |true=>
   have f:=h_<|Qh2_ m hd hs;have B:=h_<|HC.o _ hs;go_wp2_with fail
   refine mb_ B.o ?_;intro w2 o;have j:=g.trans<|o.mono g.size;go_wp2;go_ret;exact⟨Kx_ f.o.symm,j⟩
  |false=>
   have f:=QiL_ m hd hs;have B:=h_<|HC.o _ hs;go_wp2_with fail
   refine mb_ B.o ?_;intro w2 o;have j:=g.trans<|o.mono g.size;go_wp2;exact⟨⟨k+1,oo,f,by go_num,j⟩,ms_⟩
 have f:=h_<|Qh3_ m (by have:=hl.o;omega);go_wp2;go_ret;exact⟨Kx_ f.o.symm,g⟩
def QiQ_ (l:List EntryD) (t:BA) (a b:Int) (w:Ω) (hn:n<=4194304) (hl:Ψ (η l=n)) (hr:Rd w 5 e n (l.flatMap QaD_)):
  Δ π 47 #[A_ #[I_ j_ m,S_ e n c,I_ j_ h,I_ j_ k],T_ t,I_ j_ a,I_ j_ b] w fun q w'=>q=R_ (I_ j_ (Qa9_ (QaR_ t a b) l 0))/\Λ w w':=by
 have HR:=h_ hr;have f:=Below.refl w.heap.size w;go_in;go_wp2_with fail;refine mb_ (Qjs_ e n c l t a b _ _ _ _ hn hl ((((HR.o.alloc _).alloc _).alloc _).alloc _) (by go_cell) (by go_cell) (by go_cell)) ?_;intro w2 h2;have d:=Q7_ ((((f.alloc sm_ _).alloc sm_ _)).alloc so_ _) h2;go_wp2;go_ret;exact⟨rfl,d⟩
def QjB_ (l:List EntryD) (w:Ω) (hl:Ψ (η l=n)) (hr:Rd w 5 e n (l.flatMap QaD_)) (b:Ψ (Qcg_ l<=1048576)):
  Δ π 8 #[A_ #[I_ j_ m,S_ e n c,I_ j_ h,I_ j_ k],I_ j_ 1048576] w fun A w'=>A=R_ (I_ j_ (1048576-(Qcg_ l:Nat)))/\Λ w w':=by
 have a:=Below.refl w.heap.size w;have g0:(0:Int)<=1048576-(Qcg_ l:Nat):=by have:=b.o;omega
 go_in;go_wp2_with fail;refine mb_ (Qke_ e n c l 1048576 _ oo hl.o (hr.alloc _) (by have:=b.o;omega)) ?_;intro w2 h2;replace a:=Q7_ a h2;go_wp2;go_ret;exact⟨rfl,a⟩
def Qj5_ (l:List EntryD) (w:Ω) (hn:Ψ (n<=maxLen)) (hl:Ψ (η l=n)) (hr:Rd w 5 e n (l.flatMap QaD_)) (hs:Ψ (∀d∈l,Qi4_ d)) (b:Ψ (1048576<Qcg_ l)):
  Δ π 8 #[A_ #[I_ j_ m,S_ e n c,I_ j_ h,I_ j_ k],I_ j_ 1048576] w (RB_ (I_ j_ (-1)) w):=by
 have a:=Below.refl w.heap.size w;go_in;go_wp2_with fail;refine mb_ (Qj6_ e n c l 1048576 _ oo oo hn.o hl.o (hr.alloc _) hs.o (by have:=b.o;omega)) ?_;intro w2 h2;replace a:=Q7_ a h2;go_wp2;go_ret;exact⟨rfl,a⟩
def Qgg_ (m:Int) (n:Nat) (h k:Int):Bool:=inB m 1 8&&decide ((n:Int)<=m)&&decide (0<=h)&&decide (0<=k)
def QhZ_ (l:List EntryD) (k:Nat):Bool:=match l[k]? with|none=>φ|some e=>decide (Qa9_ (QaR_ e.1 e.2.1 e.2.2.1) l 0≠k)
def QkD_ (l:List EntryD) (k:Nat):Prop:=∀j,j<k->QhZ_ l j=φ
def Qi9_ (l:List EntryD):Bool:=(List.range (η l)).all (fun k=>!QhZ_ l k)
def Qce_ (m:Int) (n:Nat) (h k:Int) (l:List EntryD):Bool:=Qgg_ m n h k&&Qi9_ l
def QjG_ {l:List EntryD} (h:QkD_ l i) (hk:QhZ_ l i=φ):QkD_ l (i+1):=fun j hj=>by
 by_cases e:j=i
 ·subst e;exact hk
 exact h j oo
def QjZ_ {l:List EntryD} (h:QkD_ l i) (hk:i=η l):Qi9_ l=τ:=by
 unfold Qi9_;rw[List.all_eq_true];intro j hj;rw[h j (by have:=List.mem_range.1 hj;omega)];rfl
def Qkj_ {l:List EntryD} {k:Nat} (hk:k<η l) (h:QhZ_ l k=τ):Qi9_ l=φ:=by
 unfold Qi9_;exact List.all_eq_false.2 ⟨k,List.mem_range.2 hk,by simp[h]⟩
def Qjz_ (m h q:Int) (A:OA) (n c:Nat) (l:List EntryD) (w:Ω) (hn:n<=4194304) (hl:Ψ (η l=n)) (p:Rd w 5 A n (l.flatMap QaD_)):
  Δ π 41 #[A_ #[I_ j_ m,S_ A n c,I_ j_ h,I_ j_ q]] w (RB_ (B_ (Qce_ m n h q l)) w):=by
 have t:=h_<|p.alloc<|C_ #[I_ j_ m,S_ A n c,I_ j_ h,I_ j_ q] 36;have r:=Blk.new w 36 #[I_ j_ m,S_ A n c,I_ j_ h,I_ j_ q]
 cases hd:Qgg_ m n h q with
 |false=>
  have F:=h_ (show Qce_ m n h q l=φ by rw[Qce_,hd];rfl)
  cases hi:inB m 1 8 with
  |false=>
   go_in;go_wp2_with (go_at_call 34;refine mb_ (KH_ _ _ _ _) ?_;rintro w1 rfl);go_ret;exact⟨Qg_ F.o.symm,grow_⟩
  |true=>
   by_cases g1:m<(n:Int)
   ·go_in;go_wp2_with (go_at_call 34;refine mb_ (KH_ _ _ _ _) ?_;rintro w1 rfl);go_ret;exact⟨Qg_ F.o.symm,grow_⟩
   by_cases g2:h<0
   ·go_in;go_wp2_with (go_at_call 34;refine mb_ (KH_ _ _ _ _) ?_;rintro w1 rfl);go_ret;exact⟨Qg_ F.o.symm,grow_⟩
   have g3:q<0:=by
    have h1:Qgg_ m n h q=decide (0<=q):=by
     unfold Qgg_;rw[hi,dt_ (show(n:Int)<=m from oo),dt_ (show 0<=h from oo)];rfl
    rw[h1]at hd;have:=of_decide_eq_false hd;omega
   go_in;go_wp2_with (go_at_call 34;refine mb_ (KH_ _ _ _ _) ?_;rintro w1 rfl);go_ret;exact⟨Qg_ F.o.symm,grow_⟩
 |true=>
  simp only[Qgg_,τa,decide_eq_true_eq]at hd;obtain⟨⟨⟨d1,d2⟩,d3⟩,d4⟩:=hd;have P:¬m<(n:Int):=oo;go_in;go_wp2_with (go_at_call 34;refine mb_ (KH_ _ _ _ _) ?_;rintro w1 rfl);go_loopw [3] (fun i wr=>∃k:Nat,k<=n/\QkD_ l k/\i=I_ j_ k/\Blk wr w.heap.size 36 #[I_ j_ m,S_ A n c,I_ j_ h,I_ j_ q]/\Ψ (Rd wr 5 A n (l.flatMap QaD_))/\Λ w wr) (fun i _=>n-(intOf i).toNat)
  ·exact⟨0,lz_ _,fun j hj=>absurd hj oo,rfl,r,t,grow_⟩
  obtain⟨k,hk,y,rfl,o,p,E⟩:=hrel;have cK:=o.cell;have C:=o.lt;by_cases L:k<n
  ·obtain⟨⟨x0,x1,B,x3,x4⟩,hd⟩:∃d,l[k]? =σ d:=⟨_,gE (by have:=hl.o;omega)⟩;obtain⟨b',off,rfl,b,c0,c1,c2,c3,c4⟩:=QcF_ p.o L hd;have HD:=h_ hd;have G:wr.cell? ⟨w.heap.size,0,ν⟩=σ (I_ j_ m):=o.cell 0;have H:wr.cell? ⟨w.heap.size,1,ν⟩=σ (S_ (σ ⟨b',off,ν⟩) n c):=o.cell 1;have I:wr.cell? ⟨w.heap.size,2,ν⟩=σ (I_ j_ h):=o.cell 2;have J:wr.cell? ⟨w.heap.size,3,ν⟩=σ (I_ j_ q):=o.cell 3;have HC:=h_ (fun(X:Int) (v:Qa9_ (QaR_ x0 x1 B) l 0=X) (z:Ω) (O:Rd z 5 (σ ⟨b',off,ν⟩) n (l.flatMap QaD_))=>show Δ π 42 #[A_ #[I_ j_ m,S_ (σ ⟨b',off,ν⟩) n c,I_ j_ h,I_ j_ q],T_ x0,I_ j_ x1,I_ j_ B] z fun e w'=>e=R_ (I_ j_ X)/\Λ z w' by
    have h:=Qi0_ m h q (σ ⟨b',off,ν⟩) n c l x0 x1 B z hn hl O;rwa[v]at h)
   obtain⟨X,v⟩:=ex_ (Qa9_ (QaR_ x0 x1 B) l 0);have HX:=h_ v;have H9:=h_<|HC.o X v;go_upto_region 6 with fail
   go_cut [54] (fun s wx=>s=B_ (X != (k:Int))/\Λ wr wx)
   ·
    go_region_held3 (fun w'=>w'.cell? ⟨w.heap.size,0,ν⟩=σ (I_ j_ m)/\w'.cell? ⟨w.heap.size,1,ν⟩=σ (S_ (σ ⟨b',off,ν⟩) n c)/\w'.cell? ⟨w.heap.size,2,ν⟩=σ (I_ j_ h)/\w'.cell? ⟨w.heap.size,3,ν⟩=σ (I_ j_ q)/\w'.cell? ⟨b',off+k*5,ν⟩=σ (T_ x0)/\w'.cell? ⟨b',off+k*5+1,ν⟩=σ (I_ j_ x1)/\w'.cell? ⟨b',off+k*5+2,ν⟩=σ (I_ j_ B))
     (first|exact⟨G,H,I,J,c0,c1,c2⟩|exact⟨u0,u1,u2,u3,u4,u5,u6⟩)
     (first
      |(
       go_at_call 42;refine mb_ (H9.o _ (by first|exact p.o|exact p.o.drew)) ?_;intro w9 h9;have a:Λ wr w9:=(by first|exact h9|exact(Below.refl _ wr).drew.trans h9);have u0:=((QW_ a).1 _ _ C).trans G;have u1:=((QW_ a).1 _ _ C).trans H;have u2:=((QW_ a).1 _ _ C).trans I;have u3:=((QW_ a).1 _ _ C).trans J;have u4:=((QW_ a).1 _ _ b).trans c0;have u5:=((QW_ a).1 _ _ b).trans c1;have u6:=((QW_ a).1 _ _ b).trans c2))
    all_goals (go_wp2_with fail;go_meet;exact⟨rfl,a⟩)
   case rest=>
   obtain⟨rfl,D⟩:=hcut;have x:=E.trans<|D.mono E.size;have K:=o.next D;have N:=h_<|p.o.next D;by_cases f:X=k
   ·have g:=QjG_ y (show QhZ_ l k=φ by simp only[QhZ_,HD.o];rw[HX.o,f];simp);have M:(X != (k:Int))=φ:=(by rw[f];simp);go_wp2;exact⟨⟨k+1,oo,g,by go_num,K,N,x⟩,ms_⟩
   have g:=h_<|Qkj_ (l:=l) (k:=k) (by have:=hl.o;omega) (show QhZ_ l k=τ by simp only[QhZ_,HD.o];rw[HX.o];exact dt_ f);have M:(X != (k:Int))=τ:=(by rw[bne_iff_ne];exact f);go_wp2;go_ret;exact⟨Qg_ (by rw[Qce_,g.o];simp),x⟩
  have g:=h_<|QjZ_ y (by have:=hl.o;omega);go_wp2;go_ret;exact⟨Qg_ (by rw[Qce_,g.o];simp[Qgg_,d1,d2,d3,d4]),E⟩
def Qjq_ (m h q:Int) (A:OA) (n c:Nat) (l:List EntryD) (w:Ω) (hn:n<=4194304) (hl:Ψ (η l=n)) (o:Rd w 5 A n (l.flatMap QaD_)):
  Δ π 46 #[A_ #[I_ j_ m,S_ A n c,I_ j_ h,I_ j_ q]] w (RB_ (B_ (Qce_ m n h q l)) w):=by
 have p:=h_<|o.alloc<|C_ #[I_ j_ m,S_ A n c,I_ j_ h,I_ j_ q] 36;have g:=Blk.new w 36 #[I_ j_ m,S_ A n c,I_ j_ h,I_ j_ q]
 cases hd:Qgg_ m n h q with
 |false=>
  have z:=h_ (show Qce_ m n h q l=φ by rw[Qce_,hd];rfl)
  cases hi:inB m 1 8 with
  |false=>
   go_in;go_wp2_with (go_at_call 62;refine mb_ (QL_ _ _ _ _) ?_;rintro w1 rfl);go_ret;exact⟨Qg_ z.o.symm,grow_⟩
  |true=>
   by_cases g1:m<(n:Int)
   ·go_in;go_wp2_with (go_at_call 62;refine mb_ (QL_ _ _ _ _) ?_;rintro w1 rfl);go_ret;exact⟨Qg_ z.o.symm,grow_⟩
   by_cases g2:h<0
   ·go_in;go_wp2_with (go_at_call 62;refine mb_ (QL_ _ _ _ _) ?_;rintro w1 rfl);go_ret;exact⟨Qg_ z.o.symm,grow_⟩
   have g3:q<0:=by
    have h1:Qgg_ m n h q=decide (0<=q):=by
     unfold Qgg_;rw[hi,dt_ (show(n:Int)<=m from oo),dt_ (show 0<=h from oo)];rfl
    rw[h1]at hd;have:=of_decide_eq_false hd;omega
   go_in;go_wp2_with (go_at_call 62;refine mb_ (QL_ _ _ _ _) ?_;rintro w1 rfl);go_ret;exact⟨Qg_ z.o.symm,grow_⟩
 |true=>
  simp only[Qgg_,τa,decide_eq_true_eq]at hd;obtain⟨⟨⟨d1,d2⟩,d3⟩,d4⟩:=hd;have I:¬m<(n:Int):=oo;go_in;go_wp2_with (go_at_call 62;refine mb_ (QL_ _ _ _ _) ?_;rintro w1 rfl);go_loopw [30] (fun i wr=>∃k:Nat,k<=n/\QkD_ l k/\i=I_ j_ k/\Blk wr w.heap.size 36 #[I_ j_ m,S_ A n c,I_ j_ h,I_ j_ q]/\Ψ (Rd wr 5 A n (l.flatMap QaD_))/\Λ w wr) (fun i _=>n-(intOf i).toNat)
  ·exact⟨0,lz_ _,fun j hj=>absurd hj oo,rfl,g,p,grow_⟩
  obtain⟨k,hk,v,rfl,f,o,D⟩:=hrel;have cK:=f.cell;have zK:=f.lt;by_cases E:k<n
  ·obtain⟨⟨x0,x1,B,x3,x4⟩,hd⟩:∃d,l[k]? =σ d:=⟨_,gE (by have:=hl.o;omega)⟩;obtain⟨b',off,rfl,t,c0,c1,c2,c3,c4⟩:=QcF_ o.o E hd;have HD:=h_ hd;have b0:wr.cell? ⟨w.heap.size,0,ν⟩=σ (I_ j_ m):=f.cell 0;have b1:wr.cell? ⟨w.heap.size,1,ν⟩=σ (S_ (σ ⟨b',off,ν⟩) n c):=f.cell 1;have b2:wr.cell? ⟨w.heap.size,2,ν⟩=σ (I_ j_ h):=f.cell 2;have b3:wr.cell? ⟨w.heap.size,3,ν⟩=σ (I_ j_ q):=f.cell 3;have HC:=h_ (fun(X:Int) (r:Qa9_ (QaR_ x0 x1 B) l 0=X) (x:Ω) (H:Rd x 5 (σ ⟨b',off,ν⟩) n (l.flatMap QaD_))=>show Δ π 47 #[A_ #[I_ j_ m,S_ (σ ⟨b',off,ν⟩) n c,I_ j_ h,I_ j_ q],T_ x0,I_ j_ x1,I_ j_ B] x fun e w'=>e=R_ (I_ j_ X)/\Λ x w' by
    have h:=QiQ_ m h q (σ ⟨b',off,ν⟩) n c l x0 x1 B x hn hl H;rwa[r]at h)
   obtain⟨X,r⟩:=ex_ (Qa9_ (QaR_ x0 x1 B) l 0);have HX:=h_ r;have H9:=h_<|HC.o X r;go_wp2_with fail
   refine mb_ (H9.o _ (o.o.alloc _)) ?_;intro w9 y;have s:=Q7_ D y;have C:=f.next1 y;have G:=h_<|o.o.next1 y;by_cases a:X=k
   ·have b:=QjG_ v (show QhZ_ l k=φ by simp only[QhZ_,HD.o];rw[HX.o,a];simp);have F:(X != (k:Int))=φ:=(by rw[a];simp);go_wp2;exact⟨⟨k+1,oo,b,by go_num,C,G,s⟩,ms_⟩
   have b:=h_<|Qkj_ (l:=l) (k:=k) (by have:=hl.o;omega) (show QhZ_ l k=τ by simp only[QhZ_,HD.o];rw[HX.o];exact dt_ a);have F:(X != (k:Int))=τ:=(by rw[bne_iff_ne];exact a);go_wp2;go_ret;exact⟨Qg_ (by rw[Qce_,b.o];simp),s⟩
  have b:=h_<|QjZ_ v (by have:=hl.o;omega);go_wp2;go_ret;exact⟨Qg_ (by rw[Qce_,b.o];simp[Qgg_,d1,d2,d3,d4]),D⟩
def Qhx_:(prog.info? 71).map (fun i=>(i.zero,i.size,i.bytes))=σ (σ (A_ #[T_ ⟨#[]⟩,I_ j_ 0,I_ j_ 0,T_ ⟨#[]⟩,I_ j_ 0]),5,56):=by kernel_rfl
def Qj9_:(zeroValue 71).run π w=.ok (A_ #[T_ ⟨#[]⟩,I_ j_ 0,I_ j_ 0,T_ ⟨#[]⟩,I_ j_ 0]) w:=by
 simp[zeroValue]
 rfl
def QiT_ {P:Program} (w:Ω) (t e ty:TypeId) (z:Υ) (ht:P.underlying t=σ (.slice e)) (hv:∀w,(zeroValue e).run P w=.ok z w) (h1:∀v∈z.cells,v.oneCell'=τ) (h:0<z.cells.size) (b o n c:Nat) (hn:0<n)
  (hc:∀j,j<n*z.cells.size->(w.cell? ⟨b,o+j,ν⟩).isSome=τ) (hf:∀j,j<n*z.cells.size->w.frozen? ⟨b,o+j,ν⟩=φ):
  (Builtin.clear_ #[t] ty #[S_ (σ ⟨b,o,ν⟩) n c]).run P w=.ok (U_ #[]) (w.setCells b o (Builtin.zeroCells z.cells n).toList):=by
 have a:(Builtin.zeroCells z.cells n).toList.length=n*z.cells.size:=by simp[Builtin.zeroCells]
 have f:=run_storeCells_cells (P:=P) b o (Builtin.zeroCells z.cells n).toList 0 w (by rw[a];simpa using hc) (by rw[a];simpa using hf) (by
  intro v g;simp only[Builtin.zeroCells,Array.toList_map,List.mem_map]at g;obtain⟨i,_,rfl⟩:=g;have d:i % z.cells.size<z.cells.size:=Nat.mod_lt _ h;rw[getElem!_pos z.cells _ d];exact h1 _ (Array.getElem_mem d))
 simp only[Nat.add_zero]at f;obtain⟨m,rfl⟩:∃m,n=m+1:=⟨n-1,oo⟩;simp[Builtin.clear_,run_underlying ht,hv,f]
section
variable {w w':Ω} {g:Nat} {t:TypeId} {cap:Nat} {xs:List Υ}
def Own.cut (h:Own w g t cap xs) (k:Nat):Own w g t cap (xs.take k):=by
 obtain⟨rest,hb,hs⟩:=h;exact⟨xs.drop k++rest,by rw[<-List.append_assoc,List.take_append_drop];exact hb,by rw[<-List.append_assoc,List.take_append_drop];exact hs⟩
def Own.past (h:Own w g t cap xs) (hi:η xs<=i) (u:Υ):Own (w.setCell ⟨g,i,ν⟩ u) g t cap xs:=by
 obtain⟨rest,hb,hs⟩:=h;refine⟨rest.set (i-η xs) u,?_,by simpa using hs⟩;have h2:=hb.set_ i u;have e:((xs++rest).toArray).setIfInBounds i u=(xs++rest.set (i-η xs) u).toArray:=by
  simp[List.set_append_right _ _ hi]
 rwa[e]at h2
def Own.pastAll (a:List Υ):∀{w:Ω} (h:Own w g t cap xs) {i:Nat} (hi:η xs<=i),Own (w.setCells g i a) g t cap xs:=by
 induction a with
 |nil=>intro w h i hi;exact h
 |cons u a ih=>intro w h i hi;exact ih (h.past hi u)<|Nat.le_succ_of_le hi
def Own.setAll (a:List Υ):∀{w:Ω} {xs:List Υ} (h:Own w g t cap xs) {i:Nat} (hi:i+η a<=η xs),Own (w.setCells g i a) g t cap (Qjg_ xs i a):=by
 induction a with
 |nil=>intro w xs h i hi;exact h
 |cons u a ih=>intro w xs h i hi;simp only[List.length_cons]at hi;exact ih (h.set oo u) (by rw[List.length_set];omega)
def grow_sets (b:List Υ):∀{a w:Ω} {i:Nat} (h:a.grownBy w (σ g)),a.grownBy (w.setCells g i b) (σ g):=by
 induction b with
 |nil=>intro a w i h;exact h
 |cons u b ih=>intro a w i h;exact ih<|grow_set h i u
def Qkd_ (l:List EntryD) (i:Nat) (e:EntryD) (hi:i<η l):Qjg_ (l.flatMap QaD_) (i*5) (QaD_ e)=(l.set i e).flatMap QaD_:=by
 refine List.ext_getElem? fun x=>?_
 have a:=Xs_ QaD_ QaQ_ l;rw[Qji_ _ _ _ _ (by rw[a,QaQ_];omega)];by_cases hx:x<η l*5
 ·obtain⟨q,r,hr,rfl⟩:∃q r,r<5/\x=q*5+r:=⟨x / 5,x % 5,Nat.mod_lt _ oo,oo⟩;have hq:q<η l:=oo;by_cases he:q=i
  ·subst he;rw[ip_ ⟨oo,by rw[QaQ_];omega⟩,show q*5+r-q*5=r from oo];have h1:(l.set q e)[q]? =σ e:=List.getElem?_set_self hq;obtain⟨u,b⟩:∃u,(QaD_ e)[r]? =σ u:=⟨_,gE (by rw[QaQ_];omega)⟩;rw[b,Kw_ QaD_ QaQ_ h1 b]
  rw[in_ (by rw[QaQ_];omega)];have h1:l[q]? =σ l[q]:=List.getElem?_eq_getElem hq;have h2:(l.set i e)[q]? =σ l[q]:=(List.getElem?_set_ne (fun h=>he h.symm)).trans h1;obtain⟨u,b⟩:∃u,(QaD_ l[q])[r]? =σ u:=⟨_,List.getElem?_eq_getElem (show r<(QaD_ l[q]).length from by rw[QaQ_];exact hr)⟩;rw[Kw_ QaD_ QaQ_ h1 b,Kw_ QaD_ QaQ_ h2 b]
 rw[in_ (by rw[QaQ_];omega),List.getElem?_eq_none (by rw[a];omega),List.getElem?_eq_none (by rw[Xs_ QaD_ QaQ_,List.length_set];omega)]
end
def EntM (w:Ω) (l:List EntryD) (e:Ending) (w':Ω):Prop:=
 ∃g c:Nat,e=R_ (S_ (σ ⟨g,0,ν⟩) (η l) c)/\Own w' g 71 (c*5) (l.flatMap QaD_)/\w.heap.size<=g/\η l<=c/\c<=maxLen/\Λ w w'
def Qgj_ {v:Υ} {xs:List Υ} (h:o.ownsRow i 71 5 v j xs) (a:v≠S_ ν 0 0):∃g c:Nat,v=S_ (σ ⟨g,0,ν⟩) j c/\Own o g 71 (c*5) xs/\i<=g/\j<=c/\c<=maxLen:=by
 obtain⟨A,c,rfl,m⟩:=Mine.of h;rcases m.own with⟨rfl,rfl,rfl⟩|⟨g,rfl,hB,hn,hc,ho⟩
 ·exact absurd rfl a
 exact⟨g,c,rfl,ho,hB,hn,hc⟩
def Qi8_ {l:List EntryD} {u:Υ} (h:u∈l.flatMap QaD_):u.oneCell'=τ:=by
 obtain⟨d,_,hd⟩:=List.mem_flatMap.1 h;simp only[QaD_,List.mem_cons,List.not_mem_nil,or_false]at hd;rcases hd with rfl|rfl|rfl|rfl|rfl<;>rfl
def QjC_ (l:List EntryD) (w:Ω) (hn:c<=1048577) (hl:Ψ (η l=c)) (hr:Rd w 5 (σ ⟨n,0,ν⟩) c (l.flatMap QaD_)):
  Δ π 45 #[S_ (σ ⟨n,0,ν⟩) c g] w (EntM w l):=by
 obtain⟨i0,hi,h,i,k⟩:=info_parts Qhx_;have m:=h_<|ai_ hi<|ai_ h<|ai_ i k;have HR:=h_ hr;have hq:∀W:Ω,(binOp .eql 34 (S_ (σ ⟨n,0,ν⟩) c g) (S_ ν 0 0)).run π W=.ok (B_ φ) W:=fun W=>Lib.run_eql_slice_nil W _ _ (σ ⟨n,0,ν⟩) c g 0 0 underlying34
 go_in;go_wp2_with (at_builtin;(refine wpList_append_own _ rfl (.tmp 5) (.tmp 6) _ rfl w.heap.size 71 i0 (A_ #[T_ ⟨#[]⟩,I_ j_ 0,I_ j_ 0,T_ ⟨#[]⟩,I_ j_ 0]) 5 56 underlying34 m.o.1 m.o.2.1 m.o.2.2.1 m.o.2.2.2 rfl dc_ _ _ _ rfl (ZA_ w _ 5) ⟨n,0,ν⟩ c g (l.flatMap QaD_) rfl (by rw[Xs_ QaD_ QaQ_,hl.o]) ?_ (fun x hx=>Qi8_ hx) mx_ oo sm_ ?_))
 ·intro j u hu;have hj:=(gs_.1 hu).1;rw[Xs_ QaD_ QaQ_,hl.o]at hj;obtain⟨b',off,e,hb,d⟩:=HR.o.2 oo;injection e with e;injection e with e1 e2;subst e1;subst e2;have p:=(Below.refl w.heap.size w).alloc (lr_ _) (C_ #[] 71);have:=((QW_ p).1 _ _ hb).trans (d j u hu);rw[Addr.add_lit];exact this
 intro v' w3 b f a;obtain⟨g3,c3,rfl,ho,hB,s,r⟩:=Qgj_ b a;have o:Λ w w3:=((Below.refl w.heap.size w).alloc (lr_ _) (C_ #[] 71)).grown f sm_ (fun q hq=>by cases hq;exact lr_ _);go_wp2;go_ret;exact⟨g3,c3,(by rw[hl.o];rfl),ho,hB,by rw[hl.o];omega,r,o⟩
def Qj4_ (d:BA) (a x0 x1 c f:Int) (i:Nat) (w:Ω) (h1:w.cell? ⟨i,0,ν⟩=σ (T_ t)) (h2:w.cell? ⟨i,1,ν⟩=σ (I_ j_ a)) (h3:w.cell? ⟨i,2,ν⟩=σ (I_ j_ x0)):
  Δ π 66 #[A_ #[T_ b,I_ j_ x1,I_ j_ c,T_ d,I_ j_ f],P_ (σ ⟨i,0,ν⟩)] w fun e w'=>e=R_ (B_ (QaR_ t a x0 (b,x1,c,d,f)))/\Λ w w':=by
 have z1:=qc_ h1;by_cases j:b=t
 ·subst j;by_cases g:x1=a
  ·subst g;by_cases h:c=x0
   ·subst h;rw[show QaR_ b x1 c (b,x1,c,d,f)=τ by simp[QaR_]];go_in;exact Γ
   rw[show QaR_ b x1 x0 (b,x1,c,d,f)=φ by simp[QaR_,h]];have l:(c==x0)=φ:=(by rw[bn_];exact h);go_in;exact Γ
  rw[show QaR_ b a x0 (b,x1,c,d,f)=φ by simp[QaR_,g]];have k:(x1==a)=φ:=(by rw[bn_];exact g);go_in;exact Γ
 rw[show QaR_ t a x0 (b,x1,c,d,f)=φ by simp[QaR_,j]];have m:=QiF_ j;go_in;exact Γ
def Qjl_ (l:List EntryD) (t:BA) (a b:Int) (o:Nat) (w:Ω) (hn:n<=4194304) (hl:Ψ (η l=n)) (hr:Rd w 5 e n (l.flatMap QaD_))
  (h1:w.cell? ⟨o,0,ν⟩=σ (T_ t)) (p:w.cell? ⟨o,1,ν⟩=σ (I_ j_ a)) (h3:w.cell? ⟨o,2,ν⟩=σ (I_ j_ b)):
  Δ π 63 #[S_ e n c,.func (Fn.func 66) #[] #[P_ (σ ⟨o,0,ν⟩)]] w
   fun A w'=>A=R_ (I_ j_ (Qa9_ (QaR_ t a b) l 0))/\Λ w w':=by
 have HR:=h_ hr;have H1:=h_ h1;have H2:=h_ p;have H3:=h_ h3;go_in;go_wp2;go_loopw [8] (fun i wr=>∃k:Nat,k<=n/\Qf8_ (QaR_ t a b) l k/\i=I_ j_ k/\Λ w wr) (fun i _=>n-(intOf i).toNat)
 ·exact⟨0,lz_ _,QiM_ _ _,rfl,grow_⟩
 obtain⟨k,hk,m,rfl,g⟩:=hrel;by_cases z:k<n
 ·obtain⟨⟨x0,x1,r,v,x⟩,hd⟩:∃d,l[k]? =σ d:=⟨_,gE (by have:=hl.o;omega)⟩;obtain⟨b',off,rfl,q,c0,c1,c2,c3,c4⟩:=QcF_ (HR.o.below g) z hd;have HC:=h_ (fun s (hs:QaR_ t a b (x0,x1,r,v,x)=s)=>show Δ π 66 #[A_ #[T_ x0,I_ j_ x1,I_ j_ r,T_ v,I_ j_ x],P_ (σ ⟨o,0,ν⟩)] wr fun A w'=>A=R_ (B_ s)/\Λ wr w' by
   have h:=Qj4_ t x0 v a b x1 r x o wr (((QW_ g).1 _ _ (qc_ H1.o)).trans H1.o) (((QW_ g).1 _ _ (qc_ H2.o)).trans H2.o) (((QW_ g).1 _ _ (qc_ H3.o)).trans H3.o);rwa[hs]at h)
  cases hs:QaR_ t a b (x0,x1,r,v,x)with
  |true=>
   have f:=h_<|Qh2_ m hd hs;have y:=h_<|HC.o _ hs;go_wp2_with fail
   refine mb_ y.o ?_;intro w2 p;have j:=g.trans<|p.mono g.size;go_wp2;go_ret;exact⟨Kx_ f.o.symm,j⟩
  |false=>
   have f:=QiL_ m hd hs;have y:=h_<|HC.o _ hs;go_wp2_with fail
   refine mb_ y.o ?_;intro w2 p;have j:=g.trans<|p.mono g.size;go_wp2;exact⟨⟨k+1,oo,f,by go_num,j⟩,ms_⟩
 have f:=h_<|Qh3_ m (by have:=hl.o;omega);go_wp2;go_ret;exact⟨Kx_ f.o.symm,g⟩
def outE (p:EntryD->Bool) (l:List EntryD):List EntryD:=l.filter (fun e=>!p e)
def QhV_ (p:EntryD->Bool) (l:List EntryD):∀a:Nat,(Qa9_ p l a= -1/\outE p l=l)\/∃k d,Qa9_ p l a=((a+k:Nat):Int)/\k<η l/\outE p (l.take k)=l.take k/\l[k]? =σ d/\p d=τ:=by
 induction l with
 |nil=>intro a;exact .inl ⟨rfl,rfl⟩
 |cons x l ih=>
  intro a;rw[Qa9_];by_cases h:p x=τ
  ·rw[ip_ h];exact .inr ⟨0,x,by simp,by simp,rfl,rfl,h⟩
  rw[in_ h];have h0:p x=φ:=(by simpa using h);rcases ih (a+1)with⟨b,c⟩|⟨k,d,b,c,e3,e4,e5⟩
  ·refine .inl ⟨by push_cast at b;exact b,?_⟩;unfold outE at c |-
   rw[List.filter_cons_of_pos (by rw[h0];rfl),c]
  refine .inr ⟨k+1,d,by push_cast at b |-; rw[b];omega,by simp;omega,?_,by simpa using e4,e5⟩;unfold outE at e3 |-
  rw[List.take_succ_cons,List.filter_cons_of_pos (by rw[h0];rfl),e3]
def QjV_ (p:EntryD->Bool) (l a:List EntryD) (i j:Nat):Prop:=η a=η l/\a.take i=outE p (l.take j)/\a.drop j=l.drop j
def QkF_ {p:EntryD->Bool} {l:List EntryD} {d:EntryD} (h1:outE p (l.take i)=l.take i) (h2:l[i]? =σ d) (h3:p d=τ):QjV_ p l l i (i+1):=by
 refine⟨rfl,?_,rfl⟩;rw[List.take_add_one,h2];unfold outE at h1 |-
 rw[List.filter_append,h1];simp[h3]
def Qlp_ {p:EntryD->Bool} {l a:List EntryD} (h:QjV_ p l a i j):a[j]? =l[j]? :=by
 have h1:=congrArg (fun x=>x[0]?) h.2.2;simpa using h1
def QjY_ {α:Type} {a b:List α} {j:Nat} (h:a.drop j=b.drop j):a.drop (j+1)=b.drop (j+1):=by
 rw[<-List.drop_drop,<-List.drop_drop,h]
def QkU_ {p:EntryD->Bool} {l a:List EntryD} {d:EntryD} (h:QjV_ p l a i j) (hd:l[j]? =σ d) (hp:p d=τ):QjV_ p l a i (j+1):=by
 refine⟨h.1,?_,QjY_ h.2.2⟩;rw[h.2.1,List.take_add_one,hd];unfold outE;rw[List.filter_append];simp[hp]
def QkT_ {p:EntryD->Bool} {l a:List EntryD} {d:EntryD} (h:QjV_ p l a i j) (b:i<=j) (hd:l[j]? =σ d) (hp:p d=φ):QjV_ p l (a.set i d) (i+1) (j+1):=by
 have hj:j<η l:=(gs_.1 hd).1;have hi:i<η a:=by rw[h.1];omega
 refine⟨by rw[List.length_set,h.1],?_,?_⟩
 ·rw[List.take_add_one,List.getElem?_set_self hi,List.take_set_of_le (lr_ _),h.2.1,List.take_add_one,hd];unfold outE;rw[List.filter_append];simp[hp]
 rw[List.drop_set_of_lt oo];exact QjY_ h.2.2
def Qla_ {p:EntryD->Bool} {l a:List EntryD} (h:QjV_ p l a i j) (hj:η l<=j):a.take i=outE p l:=by
 rw[h.2.1,List.take_of_length_le hj]
def QkH_ (l:List EntryD) (i:Nat):(l.flatMap QaD_).take (i*5)=(l.take i).flatMap QaD_:=by
 induction l generalizing i with
 |nil=>simp
 |cons e l ih=>
  cases i with
  |zero=>simp
  |succ i=>
   rw[List.flatMap_cons,List.take_succ_cons,List.flatMap_cons,List.take_append,QaQ_,show(i+1)*5-5=i*5 from oo,ih,List.take_of_length_le (by rw[QaQ_];omega)]
def DelP (g c:Nat) (l:List EntryD) (w:Ω) (e:Ending) (w':Ω):Prop:=
 e=R_ (S_ (σ ⟨g,0,ν⟩) (η l) c)/\Own w' g 71 (c*5) (l.flatMap QaD_)/\w.grownBy w' (σ g)
def QjD_ (g n c:Nat) (l:List EntryD) (t x3:BA) (a b x4:Int) (G:Nat) (w:Ω) (hn:n<=1048577) (ax:n<=c) (hc:c<=maxLen) (hl:Ψ (η l=n)) (ho:Own w g 71 (c*5) (l.flatMap QaD_)) (K:Blk w G 71 #[T_ t,I_ j_ a,I_ j_ b,T_ x3,I_ j_ x4]) (q:G≠g):
  Δ π 65 #[S_ (σ ⟨g,0,ν⟩) n c,.func (Fn.func 66) #[] #[P_ (σ ⟨G,0,ν⟩)]] w (DelP g c (outE (QaR_ t a b) l) w):=by
 have hr:Rd w 5 (σ ⟨g,0,ν⟩) n (l.flatMap QaD_):=ho.rd (by rw[Xs_ QaD_ QaQ_,hl.o]);have Q:=h_<|Qjl_ (σ ⟨g,0,ν⟩) n c l t a b G w oo hl hr (K.cell 0) (K.cell 1)<|K.cell 2;have z:=h_ K;have HO:=h_ ho;have av:c<=9223372036854775807:=by unfold maxLen at hc;omega
 rcases QhV_ (QaR_ t a b) l 0 with⟨M,e2⟩|⟨k,d,M,hk,e3,e4,e5⟩
 ·have o:Qa9_ (QaR_ t a b) l 0= -1:=M;rw[o]at Q;rw[e2];go_in;go_wp2_with fail;refine mb_ Q.o ?_;intro w1 h1;go_wp2;go_ret;exact⟨(by rw[hl.o];rfl),HO.o.next h1,grow_below (World.grownBy.refl _ _) h1⟩
 have o:Qa9_ (QaR_ t a b) l 0=(k:Int):=by simpa using M
 rw[o]at Q;have m:=h_<|QkF_ e3 e4 e5;have ar:k<n:=by rw[<-hl.o];exact hk
 have X:¬((k:Int)= -1):=oo;have aq:((k:Int)== -1)=φ:=by rw[bn_];exact X
 go_in;go_wp2_with fail;refine mb_ Q.o ?_;intro w1 h1;have K1:=h_<|z.o.next h1;have O1:=h_<|HO.o.next h1;have G1:=grow_below (row:=σ g) (World.grownBy.refl w _) h1;go_wp2;go_loopw [5,6] (fun i j wr=>∃(x y:Nat) (f:List EntryD),x<y/\y<=n/\i=I_ j_ x/\j=I_ j_ y/\Ψ (QjV_ (QaR_ t a b) l f x y)/\Ψ (Own wr g 71 (c*5) (f.flatMap QaD_))/\Ψ (Blk wr G 71 #[T_ t,I_ j_ a,I_ j_ b,T_ x3,I_ j_ x4])/\w.grownBy wr (σ g)) (fun _ j _=>n-(intOf j).toNat)
 ·exact⟨k,k+1,l,oo,oo,rfl,by go_num,m,O1,K1,G1⟩
 obtain⟨x,y,f,az,hy,rfl,rfl,N,HO,z,R⟩:=hrel;have A:η f=n:=(by have h1:=N.o.1;have p:=hl.o;omega);have V:=HO.o.lt;have J:=HO.o.frozen;by_cases al:y<n
 ·obtain⟨⟨B,C,D,E,F⟩,hd⟩:∃d,f[y]? =σ d:=⟨_,gE oo⟩;obtain⟨b',off,e,H,c0,c1,c2,c3,c4⟩:=QcF_ (HO.o.rd (n:=n) (by rw[Xs_ QaD_ QaQ_,A])) al hd;injection e with e;injection e with eb eo;subst eb;subst eo;simp only[Nat.zero_add]at c0 c1 c2 c3 c4;have T:l[y]? =σ (B,C,D,E,F):=(by rw[<-Qlp_ N.o];exact hd);have O:=h_ T;have HC:=h_ (fun s (hs:QaR_ t a b (B,C,D,E,F)=s) (W:Ω) (KK:Blk W G 71 #[T_ t,I_ j_ a,I_ j_ b,T_ x3,I_ j_ x4])=>show Δ π 66 #[A_ #[T_ B,I_ j_ C,I_ j_ D,T_ E,I_ j_ F],P_ (σ ⟨G,0,ν⟩)] W fun e w'=>e=R_ (B_ s)/\Λ W w' by
   have h:=Qj4_ t B E a b C D F G W (KK.cell 0) (KK.cell 1) (KK.cell 2);rwa[hs]at h)
  cases hs:QaR_ t a b (B,C,D,E,F)with
  |true=>
   have m:=h_<|QkU_ N.o O.o hs;have HS:=h_<|HC.o _ hs;go_wp2_with fail
   refine mb_ (HS.o _ (by exact z.o.alloc _)) ?_;intro w2 p;have r:=h_<|HO.o.next1 p;have K2:=h_<|z.o.next1 p;have G2:=grow_below (Qja_ R (World.grownBy_alloc wr _ _)) p;go_wp2;exact⟨⟨x,y+1,f,oo,oo,rfl,by go_num,m,r,K2,G2⟩,ms_⟩
  |false=>
   have m:=h_<|QkT_ N.o oo O.o hs;have HS:=h_<|HC.o _ hs;go_wp2_with fail
   refine mb_ (HS.o _ (by exact z.o.alloc _)) ?_;intro w2 p;have r:=h_<|HO.o.next1 p;have K2:=h_<|z.o.next1 p;have G2:=grow_below (Qja_ R (World.grownBy_alloc wr _ _)) p;have I:Blk w2 wr.heap.size 71 #[T_ B,I_ j_ C,I_ j_ D,T_ E,I_ j_ F]:=Blk.fresh p;have n0:w2.cell? ⟨wr.heap.size,0,ν⟩=σ (T_ B):=I.cell 0;have n1:w2.cell? ⟨wr.heap.size,1,ν⟩=σ (I_ j_ C):=I.cell 1;have n2:w2.cell? ⟨wr.heap.size,2,ν⟩=σ (I_ j_ D):=I.cell 2;have n3:w2.cell? ⟨wr.heap.size,3,ν⟩=σ (T_ E):=I.cell 3;have n4:w2.cell? ⟨wr.heap.size,4,ν⟩=σ (I_ j_ F):=I.cell 4;have zn:=I.lt;have ap:=r.o.lt;have ao:=r.o.frozen;obtain⟨o0,e0⟩:=r.o.there (i:=x*5) oo;obtain⟨o1,M⟩:=r.o.there (i:=x*5+1) oo;obtain⟨o2,e2⟩:=r.o.there (i:=x*5+2) oo;obtain⟨o3,e3⟩:=r.o.there (i:=x*5+3) oo;obtain⟨o4,e4⟩:=r.o.there (i:=x*5+4) oo;have S:x*5+5<=(f.flatMap QaD_).length:=(by rw[Xs_ QaD_ QaQ_,A];omega);go_wp2;go_roundw
   ·
    have hO:=r.o.setAll (QaD_ (B,C,D,E,F)) (i:=x*5) S;rw[Qkd_ f x _ oo]at hO;exact⟨x+1,y+1,_,oo,oo,by go_num,by go_num,m,hO,(((((K2.o.far (by dsimp only;exact q) _).far (by dsimp only;exact q) _).far (by dsimp only;exact q) _).far (by dsimp only;exact q) _).far (by dsimp only;exact q) _),grow_sets (QaD_ (B,C,D,E,F)) (i:=x*5) G2⟩
   exact ms_
 obtain rfl:y=n:=oo;have U:=h_ (Qla_ N.o (by rw[hl.o];exact lr_ _));have Z:(f.take x).length=x:=(by rw[List.length_take];omega);have aa:∀j,j<(y-x)*5->(wr.cell? ⟨g,x*5+j,ν⟩).isSome=τ:=fun j hj=>by
  obtain⟨u,hu⟩:=HO.o.there (i:=x*5+j) oo;rw[hu];rfl
 have A:=fun ty=>QiT_ (P:=π) wr 34 71 ty _ underlying34 Qj9_ (by intro v hv;simp[Value.cells]at hv;rcases hv with rfl|rfl|rfl|rfl|rfl<;>rfl) dc_ g (x*5) (y-x) (c-x) oo aa (fun j _=>J _)
 have ay:x<=c:=oo;have Y:Own wr g 71 (c*5) ((f.take x).flatMap QaD_):=by
  have h:=HO.o.cut<|x*5;rwa[QkH_]at h
 have L:=fun us=>Own.pastAll us Y (i:=x*5) (by rw[Xs_ QaD_ QaQ_,Z];exact lr_ _)
 go_wp2;go_ret;rw[<-U.o];exact⟨(by rw[Z];rfl),L _,grow_sets _ R⟩
def QjM_ {a w:Ω} {row:ON} (h:a.grownBy w row):a.grownBy w.drew row:=⟨h.os,h.tape,h.output,h.size,h.block⟩
def QjK_ (l:List EntryD) (w:Ω) (M:1<=c) (hn:c<=1048577) (N:c<=g) (hc:g<=maxLen) (hl:Ψ (η l=c)) (s:Own w n 71 (g*5) (l.flatMap QaD_)):
  Δ π 67 #[S_ (σ ⟨n,0,ν⟩) c g,I_ j_ 0,I_ j_ 1] w (DelP n g l.tail w):=by
 obtain⟨i0,hi,O,H,Q⟩:=info_parts Qhx_;have L:g<=9223372036854775807:=by unfold maxLen at hc;omega
 have J:(1:Int)<=c:=oo;obtain⟨a,f⟩:∃a,a=l.tail.flatMap QaD_:=⟨_,rfl⟩;have b:η a=(c-1)*5:=by rw[f,Xs_ QaD_ QaQ_,List.length_tail,hl.o]
 have r:=s.frozen;have z:=fun(j:Nat) (D:j<g*5)=>s.there (i:=j) D
 obtain⟨A,hA,y⟩:∃A:Addr,(if g=1 then σ (⟨n,0,ν⟩:Addr)else σ ⟨n,5,ν⟩)=σ A/\Ψ (∀j u,a[j]? =σ u->w.drew.cell? (A.add j)=σ u):=by
  by_cases h:g=1
  ·refine⟨⟨n,0,ν⟩,by simp[h],fun t u k=>?_⟩;have h0:η a=0:=(by rw[b];omega);rw[List.length_eq_zero_iff.1 h0]at k;simp at k
  refine⟨⟨n,5,ν⟩,by simp[h],fun j u k=>?_⟩;obtain⟨d,C,rfl⟩:∃d C,l=d::C:=by
   cases l with
   |nil=>have:=hl.o;simp at this;omega
   |cons d C=>exact⟨d,C,rfl⟩
  have hr:Rd w 5 (σ ⟨n,0,ν⟩) c ((d::C).flatMap QaD_):=s.rd (by rw[Xs_ QaD_ QaQ_,hl.o]);obtain⟨b',off,e,hb,o⟩:=hr.2 oo;injection e with e;injection e with e1 e2;subst e1;subst e2;rw[f]at k;have:=o (5+j) u (by rw[List.flatMap_cons,List.getElem?_append_right (by rw[QaQ_];omega),QaQ_,show 5+j-5=j from oo];exact k);rw[Addr.add_lit];show w.cell? _=_;rwa[Nat.zero_add]at this
 have s2:Ψ (∀u∈a,u.oneCell'=τ):=fun u k=>Qi8_ (by rw[f]at k;exact k)
 have s3:Ψ (∀j,j<η a->(w.drew.cell? ⟨n,0+0*5+j,ν⟩).isSome=τ/\w.drew.frozen? ⟨n,0+0*5+j,ν⟩=φ):=by
  intro j D;rw[b]at D;obtain⟨v,E⟩:=z (0+0*5+j) oo;exact⟨by show(w.cell? _).isSome=τ;rw[E];rfl,r _⟩
 obtain⟨W1,m⟩:∃W1,W1=w.drew.setCells n (0+0*5) a:=⟨_,rfl⟩;have I:Own W1 n 71 (g*5) a:=by
  have hd:Own w.drew n 71 (g*5) (l.flatMap QaD_):=s.drew;have q:(l.flatMap QaD_).length=c*5:=by rw[Xs_ QaD_ QaQ_,hl.o]
  have h1:=(hd.setAll a (i:=0) (by rw[q,b];omega)).cut (η a);have h2:(Qjg_ (l.flatMap QaD_) 0 a).take (η a)=a:=by
   refine List.ext_getElem? fun x=>?_
   by_cases hx:x<η a
   ·rw[List.getElem?_take_of_lt hx,Qji_ _ _ _ _ (by rw[q,b];omega),ip_ ⟨oo,oo⟩,Nat.sub_zero]
   rw[List.getElem?_eq_none (by rw[List.length_take];omega),List.getElem?_eq_none oo]
  rw[h2]at h1;rw[m];exact h1
 have B:∀j,j<(c-(c-1))*5->(W1.cell? ⟨n,(c-1)*5+j,ν⟩).isSome=τ:=fun j D=>by
  obtain⟨u,k⟩:=I.there (i:=(c-1)*5+j) oo;rw[k];rfl
 have K:=fun ty=>QiT_ (P:=π) W1 34 71 ty _ underlying34 Qj9_ (by intro v E;simp[Value.cells]at E;rcases E with rfl|rfl|rfl|rfl|rfl<;>rfl) dc_ n ((c-1)*5) (c-(c-1)) (g-(c-1)) oo B (fun j _=>I.frozen _)
 have p:=fun us=>Own.pastAll us I (i:=(c-1)*5) (by rw[b];exact lr_ _)
 have F:w.grownBy W1 (σ n):=by rw[m];exact grow_sets a (i:=0+0*5)<|QjM_<|World.grownBy.refl w _
 have HW:Ψ (W1=w.drew.setCells n (0+0*5) a):=m;have HN:=h_ f;have s1:=h_ b;have G:η l.tail=c-1:=by rw[List.length_tail,hl.o]
 clear f b m r z s B;go_in;go_wp2_with fail;go_region_law (refine step_append_room rfl (.tmp 22) (.tmp 25) 34 rfl 71 i0 5 underlying34 hi H n 0 0 g (by simp[Act.eval,Act.put]) A (c-1) (g-1) a (by simp[Act.eval,Act.put]) s1.o y.o s2.o oo s3.o ?_;rw[<-HW.o])
 go_wp2;go_ret;refine⟨(by rw[G];rfl),?_,grow_sets _ F⟩;rw[<-HN.o];exact p _
end Go.Proofs.YtbiijipkgfpgoaaGreatDoor

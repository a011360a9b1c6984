/-
  Put together by program (shake.py):FiG,FiH.
-/
import Derived.Test.YtgbikafalcbibaaGreatDoorMaYA
set_option maxRecDepth 100000
set_option linter.all false
set_option maxHeartbeats 25600000
open Go.Lib (hid)
open Go.Proofs.Tryz
namespace Go.Proofs.YtgbikafalcbibaaGreatDoor
open Go.RowKit
def KpX (t0:TypeId) (w w':World):Prop:=∀g t cs,Blk w g t cs->t≠t0->Blk w' g t cs
section
variable {t0:TypeId} {w w' w2:World} {g cap:Nat} {t:TypeId} {xs:List Value} {B s n c:Nat} {A:OA}
theorem KpX.refl (t0:TypeId) (w:World):KpX t0 w w:=fun g t cs h _=>h
theorem KpX.of_below (h:Below w.heap.size w w'):KpX t0 w w':=fun g t cs hb _=>hb.next h
theorem KpX.trans (h:KpX t0 w w') (k:KpX t0 w' w2):KpX t0 w w2:=fun g t cs hb hn=>k g t cs (h g t cs hb hn) hn
theorem Own.kpx (h:Own w g t cap xs) (k:KpX t0 w w') (hn:t≠t0):Own w' g t cap xs:=by
 obtain⟨rest,hb,hs⟩:=h;exact⟨rest,k _ _ _ hb hn,hs⟩
theorem Mine.kpx (h:Mine w B t s A n c xs) (k:KpX t0 w w') (hn:t≠t0):Mine w' B t s A n c xs:=by
 have a:=h.len;rcases h.own with⟨rfl,rfl,rfl⟩|⟨g',rfl,hB,b,hc,ho⟩
 ·exact⟨by rw[a],.inl ⟨rfl,rfl⟩⟩
 ·exact Mine.mk_own (ho.kpx k hn) a hB b hc
end
def addN (l:List BA) (s:BA):List BA:=if Lib.containsS l s=true then l else l++[s]
theorem QdE_ (l:List BA) (s:BA):(addN l s).length<=l.length+1:=by unfold addN;split<;>simp
def AddR (B:Nat) (w:World) (l:List BA) (e:Ending) (w':World):Prop:=
 ∃(A:OA) (c:Nat),e=.returned (.slice A l.length c)/\Mine w' B 9 1 A l.length c (Qm_ l)/\KpX 9 w w'/\Below B w w'
theorem Jl_ {w w1 w3:World} {B:Nat} {A:OA} {l:List BA} {c:Nat} {s:BA} {v':Value} (hm:Mine w1 B 9 1 A l.length c (Qm_ l)) (hb:Below B w w1) (hk:KpX 9 w w1) (hB:B<=w.heap.size)
  (f:w3.ownsRow B 9 1 v' (l.length+1) (Qm_ l++[.string s])) (j:(w1.alloc (.cells #[.string s] 9)).grownBy w3 (Value.slice A l.length c).ownBlock):
  ∃h i,v'=.slice h (l.length+1) i/\Mine w3 B 9 1 h (l++[s]).length i (Qm_ (l++[s]))/\KpX 9 w w3/\Below B w w3:=by
 obtain⟨h,i,rfl,m3⟩:=Mine.of f;rw[Qw_]at j;have d:=Mine.alloc hm (.cells #[.string s] 9);have a:Below B w (w1.alloc (.cells #[.string s] 9)):=hb.alloc (Nat.le_trans hB hb.size) _;refine⟨h,i,rfl,by simp only[Qm_,lA,List.map_append];exact m3,fun g t cs b m=>?_,a.grown j (Nat.le_trans hB a.size) (fun g e=>(Mine.blk d e).1)⟩;refine((hk g t cs b m).alloc _).grown j (fun e=>?_);obtain⟨n,k⟩:=QP_ d e.symm;exact KM_ ((hk g t cs b m).alloc _) k m rfl
theorem Qat_ (A:OA) (c B:Nat) (l:List BA) (s:BA) (w:World) (hl:l.length<=100000) (C:B<=w.heap.size) (D:Mine w B 9 1 A l.length c (Qm_ l)):
  Calls prog 89 #[.slice A l.length c,.string s] w (AddR B w (addN l s)):=by
 obtain⟨j0,hj,p,q,r⟩:=info_parts V6_;have i:=hid (And.intro hj (And.intro p (And.intro q r)));have t:=hid (fun(v:Bool) (h:Lib.containsS l s=v)=>show Calls prog 19 #[.slice A l.length c,.string s] w fun e w'=>e=.returned (.bool v)/\Below w.heap.size w w' by rw[<-h];exact zy_ A l.length c l s w oo (hid rfl) D.rd);have HM:=hid D;unfold AddR addN;obtain⟨nl,f⟩:=ex_ l.length;have j:=hid f;clear hj p q r D;rcases bft (Lib.containsS l s)with k|k
 ·have b:=hid (t.o _ k);rw[if_pos k];clear t k;rw[f]at b hl |-
  clear f;go_enter func89,ntmps89;go_wp2_with fail
  refine b.o.mono ?_;rintro e w2 ⟨rfl,g⟩;have d:=hid (HM.o.next g);rw[j.o]at d;have z:=hid (KpX.of_below (t0:=9) g);have y:=hid (g.mono C);clear g;go_wp2;go_ret;exact⟨A,c,rfl,d.o,z.o,y.o⟩
 ·have b:=hid (t.o _ k);rw[if_neg (by rw[k];decide)];clear t k;rw[f]at b hl |-
  clear f;go_enter func89,ntmps89;go_wp2_with fail
  refine b.o.mono ?_;rintro e w2 ⟨rfl,g⟩;have d:=hid (HM.o.next g);have o:=d;rw[j.o]at o;have z:=hid (KpX.of_below (t0:=9) g);have y:=hid (g.mono C);have hz:=g.size;clear g;go_wp2_with (at_builtin;(refine wpList_append_own _ rfl (.tmp 9) (.tmp 11) _ rfl B 9 j0 (.string ⟨#[]⟩) 1 16 underlying37 i.o.1 i.o.2.1 i.o.2.2.1 i.o.2.2.2 rfl (by decide) _ _ _ rfl (Mine.alloc o.o _) ⟨w2.heap.size,0,none⟩ 1 1 [.string s] rfl rfl (Ka_ _ _ _) (fun x hx=>by simp at hx;subst hx;rfl) (by unfold maxLen;omega) oo (by simp;omega) ?_);intro v' w3 a m n)
  rw[<-j.o]at a m;obtain⟨A3,c3,rfl,h3⟩:=Jl_ d.o y.o z.o C a m;have H3:=hid h3;clear a m n h3;go_wp2;go_ret;exact⟨A3,c3,by rw[lA];rfl,H3.o⟩
theorem xP_ (A:OA) (c B:Nat) (l:List BA) (s:BA) (w:World) (hl:l.length<=100000) (C:B<=w.heap.size) (D:Mine w B 9 1 A l.length c (Qm_ l)):
  Calls prog 92 #[.slice A l.length c,.string s] w (AddR B w (addN l s)):=by
 obtain⟨j0,hj,p,q,r⟩:=info_parts V6_;have i:=hid (And.intro hj (And.intro p (And.intro q r)));have t:=hid (fun(v:Bool) (h:Lib.containsS l s=v)=>show Calls prog 22 #[.slice A l.length c,.string s] w fun e w'=>e=.returned (.bool v)/\Below w.heap.size w w' by rw[<-h];exact(UN_ s D).mono (fun e w' h=>⟨h.1,by rw[h.2];exact br⟩));have HM:=hid D;unfold AddR addN;obtain⟨nl,f⟩:=ex_ l.length;have j:=hid f;clear hj p q r D;rcases bft (Lib.containsS l s)with k|k
 ·have b:=hid (t.o _ k);rw[if_pos k];clear t k;rw[f]at b hl |-
  clear f;go_enter func92,ntmps92;go_wp2_with fail
  refine b.o.mono ?_;rintro e w2 ⟨rfl,g⟩;have d:=hid (HM.o.next g);rw[j.o]at d;have z:=hid (KpX.of_below (t0:=9) g);have y:=hid (g.mono C);clear g;go_wp2;go_ret;exact⟨A,c,rfl,d.o,z.o,y.o⟩
 ·have b:=hid (t.o _ k);rw[if_neg (by rw[k];decide)];clear t k;rw[f]at b hl |-
  clear f;go_enter func92,ntmps92;go_wp2_with fail
  refine b.o.mono ?_;rintro e w2 ⟨rfl,g⟩;have d:=hid (HM.o.next g);have o:=d;rw[j.o]at o;have z:=hid (KpX.of_below (t0:=9) g);have y:=hid (g.mono C);have hz:=g.size;clear g;go_wp2_with (at_builtin;(refine wpList_append_own _ rfl (.tmp 9) (.tmp 11) _ rfl B 9 j0 (.string ⟨#[]⟩) 1 16 underlying37 i.o.1 i.o.2.1 i.o.2.2.1 i.o.2.2.2 rfl (by decide) _ _ _ rfl (Mine.alloc o.o _) ⟨w2.heap.size,0,none⟩ 1 1 [.string s] rfl rfl (Ka_ _ _ _) (fun x hx=>by simp at hx;subst hx;rfl) (by unfold maxLen;omega) oo (by simp;omega) ?_);intro v' w3 a m n)
  rw[<-j.o]at a m;obtain⟨A3,c3,rfl,h3⟩:=Jl_ d.o y.o z.o C a m;have H3:=hid h3;clear a m n h3;go_wp2;go_ret;exact⟨A3,c3,by rw[lA];rfl,H3.o⟩
def K6_ (ps:List PN) (P:List Bool) (a:List BA) (v:Int):List BA:=match ps[v.toNat]? with|none=>a|some p=>if ((p.kind==12)||P.getD v.toNat false)=true then addN a p.text else a
def Wb_ (ps:List PN) (k:Nat):List BA:=(VX_ ps k).foldl (K6_ ps (WX_ ps (VX_ ps k))) []
theorem V8_ (ps:List PN) (P:List Bool) (a:List BA) (v:Int):(K6_ ps P a v).length<=a.length+1:=by
 unfold K6_;split
 ·omega
 ·split
  ·exact QdE_ _ _
  ·omega
theorem UJ_ {ps:List PN} {k:Nat} (hk:k < ps.length):Hid (∀v∈VX_ ps k,∃q:Nat,v=(q:Int)/\q < ps.length):=(show ∀v∈VX_ ps k,∃q:Nat,v=(q:Int)/\q < ps.length from fun v hv=>by
 obtain⟨j,h1,h2,_⟩:=zV_ hv;exact⟨j,h1,oo⟩)
theorem Gg_ (ps:List PN) (k:Nat):(VX_ ps k).length<=k+1:=Yr_ _ _
def YM_ (w:World) (l:List BA) (e:Ending) (w':World):Prop:=
 ∃(A:OA) (c:Nat),e=.returned (.slice A l.length c)/\Mine w' w.heap.size 9 1 A l.length c (Qm_ l)/\Below w.heap.size w w'
theorem xz_ (A:OA) (n c:Nat) (ps:List PN) (k:Nat) (w:World) (y:Nps w A n ps) (hb:Hid (PNs ps)) (R:KL_ ps=true) (hk:k < n):
  Calls prog 59 #[.slice A n c,.int .i64 k] w (YM_ w (Wb_ ps k)):=by
 obtain⟨m,hm,aH,hg,hu⟩:=Zx_ R;have hl:=y.len;have hn:n<=300:=oo;have HU:=hid (fun(W:World) (hW:Below w.heap.size w W)=>Gb_ A n c ps k W (y.next hW) hb R hk);have z:=UJ_ (show k < ps.length from oo);rw[hl]at z;have D:=Gg_ ps k;have g:=Vx_ ps (VX_ ps k);rw[hl]at g;obtain⟨L,hL⟩:=ex_ (VX_ ps k);have M:=hid (fun(Z:OA) (f cl:Nat) (W:World) (hW:Below w.heap.size w W) (hr:Rd W 1 Z f (Qa_ L)) (an:Hid (L.length=f))=>VW_ A n c ps Z f cl L W (y.next hW) hg oo hr an (by have:=an.o;rw[hL]at D;omega) (by rw[<-hL];exact z));unfold Wb_;rw[hL]at HU z D g |-
 obtain⟨P,hP⟩:=ex_ (WX_ ps L);rw[hP]at M g |-
 obtain⟨F,hF⟩:=ex_ (fun i=>(L.take i).foldl (K6_ ps P) []);obtain⟨f,t⟩:=ex_ L.length;have HE:=hid (show L.foldl (K6_ ps P) []=F f by rw[<-hF];dsimp only;rw[<-t,List.take_length]);have ay:=hid (show F 0=[]by rw[<-hF];rfl);have aA:=hid (show ∀(i:Nat) (v:Int),L[i]? =some v->F (i+1)=K6_ ps P (F i) v from fun i v Y=>by
  rw[<-hF];dsimp only;rw[List.take_add_one,Y,Option.toList_some,List.foldl_append]
  rfl)
 have az:=hid (show ∀i,(F i).length<=i from fun i=>by
  rw[<-hF];have aK:∀(l:LI) (o:List BA),(l.foldl (K6_ ps P) o).length<=o.length+l.length:=by
   intro l
   induction l with
   |nil=>intro o;simp
   |cons v l ih=>
    intro o;have h1:=ih (K6_ ps P o v);have X:=V8_ ps P o v;simp only[List.foldl_cons,List.length_cons];omega
  have h1:=aK (L.take i) [];have X:(L.take i).length<=i:=by rw[List.length_take];omega
  simp only[List.length_nil]at h1;dsimp only;omega)
 rw[HE.o];unfold YM_;have ag:=hid y;have aB:=z;unfold VE_ at HU;rw[t]at HU;have ac:=hid t;have af:=hid g;rw[t]at D;have aL:f<=300:=oo;clear hm aH hg hu hl y hb R hL hP hF t HE z g D;go_enter func59,ntmps59;go_wp2_with fail
 refine(HU.o _ grow_).mono ?_;rintro e w1 ⟨Z,cl,rfl,ao,h1⟩;have ad:=hid (show Mine w1 w.heap.size 9 1 (some ⟨w.heap.size,0,none⟩) 0 0 []from Mine.next (QI_ w 9 1) h1);have J:=hid (ao.more (show w.heap.size<=_ by simp));have G:=hid (QA_ br h1);clear ao h1 HU;go_wp2_with fail
 refine(M.o Z f cl w1 G.o J.o.rd ac).mono ?_;rintro e w2 ⟨rfl,Q,X⟩;rw[af.o]at Q |-
 have ae:=hid (ad.o.next X);have ab:=hid (J.o.next X);have ah:=hid Q;have aa:=hid (Qb_ G.o X);clear X Q ad J G M;go_wp2;go_loopw [5,8] (fun o x wr=>∃(i:Nat) (T:OA) (V:Nat),i<=f/\x=.int .i64 i/\o=.slice T (F i).length V/\Hid (Mine wr w.heap.size 9 1 T (F i).length V (Qm_ (F i)))/\Hid (Mine wr w.heap.size 3 1 Z f cl (Qa_ L))/\Hid (Own wr w1.heap.size 4 n (Qt_ P))/\Hid (Below w.heap.size w wr)) (fun _ x _=>f - (intOf x).toNat)
 case atStart=>
  refine⟨0,some ⟨w.heap.size,0,none⟩,0,Nat.zero_le _,rfl,?_,?_,ab,ah,aa⟩
  all_goals rw[ay.o]
  ·rfl
  ·exact ae
 case round=>
  clear ae ab ah aa;obtain⟨i,T,V,hi,rfl,rfl,HO,U,N,C⟩:=hrel;have aF:=az.o i;by_cases am:i < f
  ·obtain⟨v,Y⟩:∃v,L[i]? =some v:=⟨_,gE (by rw[ac.o];exact am)⟩;obtain⟨q,rfl,hq⟩:=aB.o v (List.mem_of_getElem? Y);have ai:=hid (aA.o i _ Y);obtain⟨b7,aM,e7,r,c7⟩:=Ql_ U.o.rd am Y;subst e7;obtain⟨p,hp⟩:=ag.o.get hq;have a:Hid (F (i+1)=if ((p.kind==12)||P.getD q false)=true then addN (F i) p.text else F i):=(show F (i+1)=if ((p.kind==12)||P.getD q false)=true then addN (F i) p.text else F i by
    rw[ai.o];unfold K6_;rw[Int.toNat_natCast,hp])
   obtain⟨b,off,A',c',e8,j,y0,y1,_,_,_,_⟩:=ag.o.atc hq hp;subst e8;have x0:=((QE_ C.o).1 _ _ j).trans y0;have x1:=((QE_ C.o).1 _ _ j).trans y1;have aE:=C.o.size;have E:b < wr.heap.size:=oo;have c0:=Yz_ N.o (show q < P.length by rw[af.o];exact hq);have cz:=N.o.lt;have aO:(i:Int) < (f:Int):=oo;have aP:(q:Int) < (n:Int):=oo;obtain⟨xs,S⟩:=ex_ (F i);have aN:=hid S;rw[S]at HO aF a |-
   have B:=hid (Qat_ T V w.heap.size xs p.text wr oo aE HO.o);clear Y hp ai S y0 y1;rcases bft (p.kind==12)with g1|g1
   ·rw[g1,Bool.true_or,if_pos rfl]at a;go_wp2_with fail
    refine B.o.mono ?_;rintro e w4 ⟨A4,c4,rfl,s,d,h⟩;have K:=hid s;have I:=hid (U.o.kpx d (by decide));have O:=hid (N.o.kpx d (by decide));have H:=hid (C.o.trans h);clear s d h HO U N C B c0 cz c7 r x0 x1 E;go_wp2;go_roundw
    case rel=>exact⟨i+1,A4,c4,oo,by go_num,by rw[a.o],by rw[a.o];exact K,I,O,H⟩
    case measure=>simp[intOf];omega
   ·rcases bft (P.getD q false)with g2|g2
    ·rw[g1,g2,Bool.or_true,if_pos rfl]at a;rw[g2]at c0;go_wp2_with fail
     refine B.o.mono ?_;rintro e w4 ⟨A4,c4,rfl,s,d,h⟩;have K:=hid s;have I:=hid (U.o.kpx d (by decide));have O:=hid (N.o.kpx d (by decide));have H:=hid (C.o.trans h);clear s d h HO U N C B c0 cz c7 r x0 x1 E;go_wp2;go_roundw
     case rel=>exact⟨i+1,A4,c4,oo,by go_num,by rw[a.o],by rw[a.o];exact K,I,O,H⟩
     case measure=>simp[intOf];omega
    ·rw[g1,g2,Bool.or_self,if_neg (by decide)]at a;rw[g2]at c0;go_wp2;go_roundw
     case rel=>exact⟨i+1,T,V,oo,by go_num,by rw[a.o],by rw[a.o];exact HO,U,N,C⟩
     case measure=>simp[intOf];omega
  ·obtain rfl:i=f:=oo;go_wp2;go_ret;exact⟨T,V,rfl,HO.o,C.o⟩
theorem kC_ (A:OA) (n c:Nat) (ps:List PN) (k:Nat) (w:World) (y:Nps w A n ps) (hb:Hid (PNs ps)) (D:KL_ ps=true) (hk:k < n):
  Calls prog 62 #[.slice A n c,.int .i64 k] w (YM_ w (Wb_ ps k)):=by
 obtain⟨m,hm,aH,hg,hu⟩:=Zx_ D;have hl:=y.len;have hn:n<=300:=oo;have HU:=hid (fun(W:World) (hW:Below w.heap.size w W)=>JF_ A n c ps k W (y.next hW) hb D hk);have z:=UJ_ (show k < ps.length from oo);rw[hl]at z;have E:=Gg_ ps k;have g:=Vx_ ps (VX_ ps k);rw[hl]at g;obtain⟨L,hL⟩:=ex_ (VX_ ps k);have N:=hid (fun(Z:OA) (f cl:Nat) (W:World) (hW:Below w.heap.size w W) (hr:Rd W 1 Z f (Qa_ L)) (an:Hid (L.length=f))=>Y2_ A n c ps Z f cl L W (y.next hW) hg oo hr an (by have:=an.o;rw[hL]at E;omega) (vb_ D) (by rw[<-hL];exact z));unfold Wb_;rw[hL]at HU z E g |-
 obtain⟨P,hP⟩:=ex_ (WX_ ps L);rw[hP]at N g |-
 obtain⟨F,hF⟩:=ex_ (fun i=>(L.take i).foldl (K6_ ps P) []);obtain⟨f,t⟩:=ex_ L.length;have HE:=hid (show L.foldl (K6_ ps P) []=F f by rw[<-hF];dsimp only;rw[<-t,List.take_length]);have ay:=hid (show F 0=[]by rw[<-hF];rfl);have aA:=hid (show ∀(i:Nat) (v:Int),L[i]? =some v->F (i+1)=K6_ ps P (F i) v from fun i v Y=>by
  rw[<-hF];dsimp only;rw[List.take_add_one,Y,Option.toList_some,List.foldl_append]
  rfl)
 have az:=hid (show ∀i,(F i).length<=i from fun i=>by
  rw[<-hF];have aK:∀(l:LI) (o:List BA),(l.foldl (K6_ ps P) o).length<=o.length+l.length:=by
   intro l
   induction l with
   |nil=>intro o;simp
   |cons v l ih=>
    intro o;have h1:=ih (K6_ ps P o v);have X:=V8_ ps P o v;simp only[List.foldl_cons,List.length_cons];omega
  have h1:=aK (L.take i) [];have X:(L.take i).length<=i:=by rw[List.length_take];omega
  simp only[List.length_nil]at h1;dsimp only;omega)
 rw[HE.o];unfold YM_;have ag:=hid y;have aB:=z;unfold VE_ at HU;rw[t]at HU;have ac:=hid t;have af:=hid g;rw[t]at E;have aL:f<=300:=oo;clear hm aH hg hu hl y hb D hL hP hF t HE z g E;go_enter func62,ntmps62;go_wp2_with fail
 refine(HU.o _ grow_).mono ?_;rintro e w1 ⟨Z,cl,rfl,ao,h1⟩;have ad:=hid (show Mine w1 w.heap.size 9 1 none 0 0 []from Mine.mk_nil _ _ _ _);have K:=hid ao;have H:=hid h1;clear ao h1 HU;go_wp2_with fail
 refine(N.o Z f cl w1 H.o K.o.rd ac).mono ?_;rintro e w2 ⟨rfl,R,X⟩;rw[af.o]at R |-
 have ae:=hid (ad.o.next X);have ab:=hid (K.o.next X);have ah:=hid R;have aa:=hid (Qb_ H.o X);clear X R ad K H N;go_wp2;go_loopw [7,18] (fun o x wr=>∃(i:Nat) (T:OA) (V:Nat),i<=f/\x=.int .i64 i/\o=.slice T (F i).length V/\Hid (Mine wr w.heap.size 9 1 T (F i).length V (Qm_ (F i)))/\Hid (Mine wr w.heap.size 3 1 Z f cl (Qa_ L))/\Hid (Own wr w1.heap.size 4 n (Qt_ P))/\Hid (Below w.heap.size w wr)) (fun _ x _=>f - (intOf x).toNat)
 case atStart=>
  refine⟨0,none,0,Nat.zero_le _,rfl,?_,?_,ab,ah,aa⟩
  all_goals rw[ay.o]
  ·rfl
  ·exact ae
 case round=>
  clear ae ab ah aa;obtain⟨i,T,V,hi,rfl,rfl,HO,U,O,C⟩:=hrel;have aF:=az.o i;by_cases am:i < f
  ·obtain⟨v,Y⟩:∃v,L[i]? =some v:=⟨_,gE (by rw[ac.o];exact am)⟩;obtain⟨q,rfl,hq⟩:=aB.o v (List.mem_of_getElem? Y);have ai:=hid (aA.o i _ Y);obtain⟨b7,aM,e7,r,c7⟩:=Ql_ U.o.rd am Y;subst e7;obtain⟨p,hp⟩:=ag.o.get hq;have a:Hid (F (i+1)=if ((p.kind==12)||P.getD q false)=true then addN (F i) p.text else F i):=(show F (i+1)=if ((p.kind==12)||P.getD q false)=true then addN (F i) p.text else F i by
    rw[ai.o];unfold K6_;rw[Int.toNat_natCast,hp])
   obtain⟨b,off,A',c',e8,j,y0,y1,_,_,_,_⟩:=ag.o.atc hq hp;subst e8;have x0:=((QE_ C.o).1 _ _ j).trans y0;have x1:=((QE_ C.o).1 _ _ j).trans y1;have aE:=C.o.size;have G:b < wr.heap.size:=oo;have c0:=Yz_ O.o (show q < P.length by rw[af.o];exact hq);have cz:=O.o.lt;have aO:(i:Int) < (f:Int):=oo;have aP:(q:Int) < (n:Int):=oo;obtain⟨xs,S⟩:=ex_ (F i);have aN:=hid S;rw[S]at HO aF a |-
   have B:=hid (xP_ T V w.heap.size xs p.text wr oo aE HO.o);clear Y hp ai S y0 y1;rcases bft (p.kind==12)with g1|g1
   ·rw[g1,Bool.true_or,if_pos rfl]at a;go_wp2_with fail
    refine B.o.mono ?_;rintro e w4 ⟨A4,c4,rfl,s,d,h⟩;have M:=hid s;have J:=hid (U.o.kpx d (by decide));have Q:=hid (O.o.kpx d (by decide));have I:=hid (C.o.trans h);clear s d h HO U O C B c0 cz c7 r x0 x1 G;go_wp2;go_roundw
    case rel=>exact⟨i+1,A4,c4,oo,by go_num,by rw[a.o],by rw[a.o];exact M,J,Q,I⟩
    case measure=>simp[intOf];omega
   ·rcases bft (P.getD q false)with g2|g2
    ·rw[g1,g2,Bool.or_true,if_pos rfl]at a;rw[g2]at c0;go_wp2_with fail
     refine B.o.mono ?_;rintro e w4 ⟨A4,c4,rfl,s,d,h⟩;have M:=hid s;have J:=hid (U.o.kpx d (by decide));have Q:=hid (O.o.kpx d (by decide));have I:=hid (C.o.trans h);clear s d h HO U O C B c0 cz c7 r x0 x1 G;go_wp2;go_roundw
     case rel=>exact⟨i+1,A4,c4,oo,by go_num,by rw[a.o],by rw[a.o];exact M,J,Q,I⟩
     case measure=>simp[intOf];omega
    ·rw[g1,g2,Bool.or_self,if_neg (by decide)]at a;rw[g2]at c0;go_wp2;go_roundw
     case rel=>exact⟨i+1,T,V,oo,by go_num,by rw[a.o],by rw[a.o];exact HO,U,O,C⟩
     case measure=>simp[intOf];omega
  ·obtain rfl:i=f:=oo;go_wp2;go_ret;exact⟨T,V,rfl,HO.o,C.o⟩
end Go.Proofs.YtgbikafalcbibaaGreatDoor
